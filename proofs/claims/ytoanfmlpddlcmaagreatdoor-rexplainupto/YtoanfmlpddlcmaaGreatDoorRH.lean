/- Functions of the program under the statement RexPlain, walked: the longest beginning (no statement of the program is proved here). -/
import Derived.Test.YtoanfmlpddlcmaaGreatDoorRG
import Derived.Test.YtoanfmlpddlcmaaGreatDoorPS
namespace Go.Proofs
open Go Go.PE
noncomputable section
set_option maxRecDepth 100000 in
theorem has_backward {H : Hp} {a : Option Addr} {n c : Nat} : Has rE 22 [.slice a n c] H fun v H' => v = .func (.func 45) #[] #[.pointer (some ⟨H.n, 0, none⟩)] ∧ H' = H.new (.cells [.slice a n c] 53 none 0) := by
  refine Has.of (rans_none (by decide) (by decide)) ft22 rfl (Nat.le_of_ble_eq_true rfl) ?_
  simp (config := { maxSteps := 1000000 }) (disch := first | omega | ((repeat (first | rw [n_new] | rw [n_put])) <;> omega) | fail) only [Tryz.f22, G_nil, G_seq, G_ret, G_region, G_onil, G_op, GG_true, GX_val, GP_some, put_lt, wantedG_none, eq_self, Nat.zero_add, tget_set, tget_of1, evalO_tmp, evalO_nf, xnew_eq, cx_assign, cx_box, cx_makeFunc, xmakeFunc_eq, isJunk, Value.cells, resAll, resOne, tupV1, Outs_ret, OutR_some, List.toList_toArray, List.map_cons, List.map_nil, List.length_cons, List.length_nil, List.getElem?_cons_zero, List.getElem?_cons_succ, cond_false, if_true, if_false, List.map_toArray, Nat.reduceEqDiff]
  exact ⟨trivial, trivial, trivial⟩
/-- the loop of slices.Backward, with rounds of which is known what they do -/
theorem has_rounds {H : Hp} {l b1 bp n : Nat} {ep : Option Nat} {o : Option Nat} (Inv : Hp → Prop) (Fin : Nat → Hp → Prop) (hI : Inv H)
    (h1 : ∀ H, Inv H → H.get b1 = some (.cells [.slice (some ⟨bp, 0, none⟩) n n] 53 none 0)) (h2 : ∀ H, Inv H → H.get bp = some (.cells ((oh n o).map .bool) 4 ep 0)) (hn : n ≤ 1000000)
    (hF : ∀ H i, Inv H → ∃ v H', Evs rE (.round l [.int .i64 (i : Int), .bool false] H) (.out v H') ∧ v = .bool true ∧ Inv H')
    (hT : ∀ H i, Inv H → ∃ v H', Evs rE (.round l [.int .i64 ((i : Nat) : Int), .bool true] H) (.out v H') ∧ v = .bool false ∧ Fin i H') (hon : ∀ P, o = some P → P < n) :
    Has rE 45 [yieldV l, .pointer (some ⟨b1, 0, none⟩)] H fun _ H' => (∃ P, o = some P ∧ Fin P H') ∨ (o = none ∧ Inv H') := by
  have g1 := h1 H hI
  refine Has.of (rans_none (by decide) (by decide)) ft45 rfl (Nat.le_of_ble_eq_true rfl) ?_
  simp (config := { maxSteps := 1000000 }) (disch := first | omega | ((repeat (first | rw [n_new] | rw [n_put])) <;> omega) | fail) only [Tryz.f45, tt53, g1, G_seq, G_block, G_region, G_onil, G_op, GG_true, GX_val, GP_some, put_lt, wantedG_none, eq_self, Nat.zero_add, tget_set, tget_of2, nbeq, evalO_tmp, evalO_int, oval_eq, cx_assign, cx_load, cx_bin, cx_builtin, loadAt_some, loadIn_cells, cbin_sub, bi_len, tyAt0, xlen_sl, takeN, List.toList_toArray, List.map_cons, List.map_nil, List.length_cons, List.length_nil, List.drop_zero, List.head?_cons, List.getElem?_cons_zero, List.getElem?_cons_succ, Option.map_some, cond_true, cond_false, decide_true, if_true, if_false, Nat.reduceAdd, Nat.reduceEqDiff]
  refine G_loop_ind (fun k s => ∃ tm H2 z, s = ⟨tm, [], H2⟩ ∧ tget tm 0 = yieldV l ∧ tget tm 1 = .pointer (some ⟨b1, 0, none⟩) ∧ tget tm 3 = .int .i64 z ∧ z = (k : Int) - 1 ∧ k ≤ n ∧ Inv H2 ∧ (∀ P, o = some P → P < k)) ?_ n _ ?_
  · rintro k ih s ⟨tm, H2, z, rfl, h0, h1', h3, hz, hkn, hI2, hk⟩
    have g1 := h1 H2 hI2
    have g2 := h2 H2 hI2
    by_cases hk0 : k = 0
    · subst hk0
      have hz' : ¬ (0 : Int) ≤ z := by omega
      simp (config := { maxSteps := 1000000 }) (disch := first | omega | ((repeat (first | rw [n_new] | rw [n_put])) <;> omega) | fail) only [h3, decide_eq_false hz', G_nil, G_seq, G_cond, GIf_false, G_exit, G_region, G_codeE, G_lpE, G_blkE, G_onil, G_op, GG_true, GX_val, GP_some, put_lt, wantedG_none, eq_self, tget_set, evalO_tmp, evalO_int, oval_eq, cx_move, cx_bin, cbin_geq, resAll, Outs_norm, OutR_some, if_true, if_false, Nat.reduceEqDiff]
      refine ⟨trivial, .inr ⟨?_, hI2⟩⟩
      cases o with
      | none => rfl
      | some P => have := hk P rfl; omega
    · obtain ⟨j, rfl⟩ : ∃ j, k = j + 1 := ⟨k - 1, by omega⟩
      have hz1 : z = (j : Int) := by omega
      subst hz1
      have hz' : (0 : Int) ≤ (j : Int) := by omega
      have hpi : ((oh n o).map Value.bool)[j]? = some (.bool (decide (o = some j))) := by rw [List.getElem?_map, oh_get (by omega)]; rfl
      generalize (oh n o).map Value.bool = row at *
      have hy : ∀ args H, xcallv rE args H (yieldV l) = some (.round l args, H) := fun _ _ => rfl
      simp (config := { maxSteps := 1000000 }) (disch := first | omega | ((repeat (first | rw [n_new] | rw [n_put])) <;> omega) | fail) only [tt53, tt4, h0, h1', h3, decide_eq_true hz', g1, g2, hpi, hy, G_skip, G_seq, G_cond, GIf_true, G_block, G_region, G_onil, G_op, GG_true, GX_val, GX_round, GP_some, put_lt, wantedG_none, eq_self, Nat.zero_add, tget_set, nbeq, evalO_tmp, evalO_int, oval_eq, cx_move, cx_load, cx_bin, cx_indexAddr, cx_call, loadAt_some, loadIn_cells, xindexAddr_some, natOf_nat, xidx_sl, cbin_geq, takeN, List.map_cons, List.map_nil, List.drop_zero, List.head?_cons, List.head?_drop, Nat.mul_one, Option.map_some, cond_true, cond_false, decide_true, if_true, if_false, Nat.reduceEqDiff]
      by_cases ho : o = some j
      · rw [decide_eq_true ho]
        refine GRound.of (hT H2 j hI2) ?_
        rintro v H3 ⟨rfl, hf⟩
        simp (config := { maxSteps := 1000000 }) (disch := first | omega | ((repeat (first | rw [n_new] | rw [n_put])) <;> omega) | fail) only [G_nil, G_cond, GIf_true, G_ret, G_codeR, G_lpR, G_blkR, G_onil, G_op, GG_true, GX_val, GP_some, put_lt, wantedG_none, eq_self, tget_set, evalO_tmp, oval_eq, cx_un, resAll, Outs_ret, OutR_some, un_not, Bool.not_false, if_true, if_false, Nat.reduceEqDiff]
        exact ⟨trivial, .inl ⟨j, ho, hf⟩⟩
      · rw [decide_eq_false ho]
        refine GRound.of (hF H2 j hI2) ?_
        rintro v H3 ⟨rfl, hf⟩
        have hw : IntKind.i64.wrap ((j : Int) - 1) = (j : Int) - 1 := wrap_ok (by omega) (by omega)
        simp (config := { maxSteps := 1000000 }) (disch := first | omega | ((repeat (first | rw [n_new] | rw [n_put])) <;> omega) | fail) only [h3, hw, G_skip, G_cond, GIf_false, G_again, G_region, G_blkN, G_onil, G_op, GG_true, GX_val, GP_some, put_lt, wantedG_none, eq_self, tget_set, evalO_tmp, evalO_int, oval_eq, cx_move, cx_assign, cx_bin, cx_un, cbin_sub, un_not, Bool.not_true, if_true, if_false, Nat.reduceEqDiff]
        refine ih j _ (by omega) ⟨_, H3, _, rfl, ?_, ?_, ?_, rfl, by omega, hf, fun P hP => ?_⟩
        all_goals first | (simp (config := { maxSteps := 1000000 }) (disch := first | omega | ((repeat (first | rw [n_new] | rw [n_put])) <;> omega) | fail) only [h0, h1', h3, eq_self, tget_set, if_true, if_false, Nat.reduceEqDiff]; done) | skip
        have := hk P hP
        have : P ≠ j := by rintro rfl; exact ho hP
        omega
  · have hw : IntKind.i64.wrap ((n : Int) - 1) = (n : Int) - 1 := wrap_ok (by omega) (by omega)
    refine ⟨_, _, _, rfl, ?_, ?_, ?_, rfl, Nat.le_refl _, hI, hon⟩
    all_goals (simp (config := { maxSteps := 1000000 }) (disch := first | omega | ((repeat (first | rw [n_new] | rw [n_put])) <;> omega) | fail) only [hw, eq_self, tget_set, tget_of2, List.getElem?_cons_zero, List.getElem?_cons_succ, if_true, if_false, Nat.reduceEqDiff]; done)
end
end Go.Proofs
