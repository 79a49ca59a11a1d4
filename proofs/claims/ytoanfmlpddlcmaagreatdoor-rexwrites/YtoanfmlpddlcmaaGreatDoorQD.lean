/- The reference's depth of an expression, walked; sameSet (no statement of the program is proved here). -/
import Derived.Test.YtoanfmlpddlcmaaGreatDoorQC
namespace Go.Proofs
open Go Go.PE
noncomputable section
variable {ans : Tr (List Value → Option Value)} {eff : Tr (List Value → Hp → Option (Value × Hp))}
theorem bi_min {E : Env} {H : Hp} {t u : Nat} {k l : IntKind} {a b : Int} : xbuiltin E #[t, u] H .min [.int k a, .int l b] = some (.val (.int k (if b < a then b else a)), H) := rfl
theorem bi_max {E : Env} {H : Hp} {t u : Nat} {k l : IntKind} {a b : Int} : xbuiltin E #[t, u] H .max [.int k a, .int l b] = some (.val (.int k (if b > a then b else a)), H) := rfl
def RexT.op : RexT → Int
  | .node op _ _ => op
mutual
def deepT : RexT → Nat
  | .node op _ subs => if op = 1 then 1 else deepL op subs 0
def deepL : Int → RexL → Nat → Nat
  | _, .nil, n => n
  | op, .cons x l, n => deepL op l (max n (deepT x + if wrapV op x.op then 1 else 0))
end
mutual
theorem deep_wt : ∀ (t : RexT), deepT t ≤ wtT t
  | .node op set subs => by
    have := deepL_wt op subs 0
    unfold deepT wtT; split <;> omega
theorem deepL_wt : ∀ (op : Int) (l : RexL) (n : Nat), deepL op l n ≤ max n (wtL l + 1)
  | op, .nil, n => by unfold deepL; omega
  | op, .cons x l, n => by
    have h1 := deep_wt x
    have h2 := deepL_wt op l (max n (deepT x + if wrapV op x.op then 1 else 0))
    unfold deepL wtL
    have h3 : (if wrapV op x.op = true then 1 else 0) ≤ 1 := by split <;> omega
    have h4 : 1 ≤ wtT x := by cases x; unfold wtT; omega
    omega
end
theorem RX.op {H : Hp} {x : RexT} {e0 e1 e2 : Value} (h : RX H x [e0, e1, e2]) : e0 = .int .i64 x.op ∧ oneC e1 = true ∧ oneC e2 = true := by
  cases x with
  | node op set subs =>
    unfold RX at h
    obtain ⟨sv, bv, els, h1, h2, h3, _⟩ := h
    cases h1
    obtain ⟨a, rfl, _⟩ := h2.len
    obtain ⟨b, rfl, _⟩ := h3.len
    exact ⟨rfl, rfl, rfl⟩
set_option maxRecDepth 100000 in
set_option maxHeartbeats 8000000 in
theorem has_deep (hn : (tE ans eff).ans.get 27 = none ∧ (tE ans eff).eff.get 27 = none) (hn48 : (tE ans eff).ans.get 48 = none ∧ (tE ans eff).eff.get 48 = none) : ∀ (t : RexT) (H : Hp) (cs : List Value), RX H t cs → wtT t ≤ 100000 →
    Has (tE ans eff) 27 [.agg cs.toArray] H fun v H' => v = .int .i64 ((deepT t : Nat) : Int) ∧ Keep H H' := by
  refine RexT.indT _ fun op set subs ih => ?_
  intro H cs hx hwt
  unfold RX at hx
  obtain ⟨sv, bv, els, rfl, hsv, hbv, hsub⟩ := hx
  obtain ⟨asv, rfl, hls⟩ := hsv.len
  obtain ⟨ab, rfl, hlb⟩ := hbv.len
  rw [List.length_map] at *
  refine Has.of hn ft27 rfl (Nat.le_of_ble_eq_true rfl) ?_
  have hbx : ∀ H', Keep (H.new (.cells [.int .i64 op, .slice asv set.length set.length, .slice ab els.length els.length] 25 none 0)) H' → H'.get H.n = some (.cells [.int .i64 op, .slice asv set.length set.length, .slice ab els.length els.length] 25 none 0) := fun H' k => (k.get (Nat.lt_succ_self _)).trans (get_new_eq rfl)
  by_cases o1 : op = 1
  · simp (config := { maxSteps := 1000000 }) (disch := first | omega | ((repeat (first | rw [n_new] | rw [n_put])) <;> omega) | fail) only [Tryz.f27, tt25, tt3, decide_eq_true o1, G_nil, G_seq, G_cond, GIf_true, G_ret, G_region, G_codeR, G_onil, G_op, GG_true, GX_val, GP_some, put_lt, wantedG_none, eq_self, Nat.zero_add, tget_set, tget_of1, nbeq, evalO_tmp, evalO_int, oval_eq, xnew_eq, get_new_eq, cx_assign, cx_box, cx_load, cx_bin, cx_fieldAddr, loadAt_some, loadIn_cells, xfieldAddr_some, xfa_some, cbin_eql, isJunk, takeN, Value.cells, resAll, resOne, tupV1, Outs_ret, OutR_some, List.toList_toArray, List.length_cons, List.length_nil, List.drop_zero, List.head?_cons, Nat.add_zero, List.getElem?_cons_zero, List.getElem?_cons_succ, Option.map_some, cond_true, cond_false, decide_true, decide_false, if_true, if_false, Nat.reduceEqDiff]
    refine ⟨trivial, ?_, (by repeat (first | assumption | exact Keep.refl _ | refine Keep.new ?_ _ | refine Keep.put ?_ _ (by first | omega | (simp only [n_new, n_put] <;> omega))))⟩
    unfold deepT; rw [if_pos o1]; rfl
  · have hst : deepT (.node op set subs) = deepL op subs 0 := by unfold deepT; rw [if_neg o1]
    have hwl : wtL subs ≤ 100000 := by unfold wtT at hwt; omega
    rw [hst]
    simp (config := { maxSteps := 1000000 }) (disch := first | omega | ((repeat (first | rw [n_new] | rw [n_put])) <;> omega) | fail) only [Tryz.f27, tt25, tt3, decide_eq_false o1, G_skip, G_seq, G_cond, GIf_false, G_block, G_region, G_onil, G_op, GG_true, GX_val, GP_some, put_lt, wantedG_none, eq_self, Nat.zero_add, tget_set, tget_of1, nbeq, evalO_tmp, evalO_int, oval_eq, xnew_eq, get_new_eq, cx_assign, cx_box, cx_load, cx_bin, cx_fieldAddr, loadAt_some, loadIn_cells, xfieldAddr_some, xfa_some, cbin_eql, isJunk, takeN, Value.cells, List.toList_toArray, List.length_cons, List.length_nil, List.drop_zero, List.head?_cons, Nat.add_zero, List.getElem?_cons_zero, List.getElem?_cons_succ, Option.map_some, cond_true, cond_false, decide_true, decide_false, if_true, if_false, Nat.reduceEqDiff]
    refine G_loop_ind (fun k s => ∃ tm H2 i n, s = ⟨tm, [], H2⟩ ∧ k + i = els.length ∧ tget tm 1 = .pointer (some ⟨H.n, 0, none⟩) ∧ tget tm 3 = .int .i64 ((n : Nat) : Int) ∧ tget tm 4 = .int .i64 ((i : Nat) : Int) ∧ Keep (H.new (.cells [.int .i64 op, .slice asv set.length set.length, .slice ab els.length els.length] 25 none 0)) H2 ∧
      n ≤ 200000 ∧ deepL op (subs.drop i) n = deepL op subs 0) ?_ els.length _ ?_
    · rintro k ih2 s ⟨tm, H2, i, n, rfl, hk, h1, h3, h4, k2, hn2, hsm⟩
      have g2 := hbx H2 k2
      have kH : Keep H H2 := ((Keep.refl H).new _).trans k2
      by_cases hi : (i : Int) < (els.length : Int)
      · obtain ⟨x, e, hd, he, hxe⟩ := RXL.at hsub (i := i) (by omega)
        obtain ⟨b, ty, l, r, rfl, hb, hg, hdr, hl3⟩ := hbv.elem he
        have hg2 : H2.get b = some (.cells l ty (some 3) 3) := by rw [kH.get hb]; exact hg
        have hwx : wtT x ≤ 100000 := by
          have := drop_wt subs i
          rw [hd, wtL] at this; omega
        have hdx := deep_wt x
        match e, hl3 with
        | [e0, e1, e2], _ =>
          have hdr' : l.drop (i * 3) = e0 :: e1 :: e2 :: r := hdr
          simp (config := { maxSteps := 1000000 }) (disch := first | omega | ((repeat (first | rw [n_new] | rw [n_put])) <;> omega) | fail) only [tt25, tt23, h1, h4, g2, hg2, hdr', decide_eq_true hi, ft27, cc27, G_skip, G_seq, G_cond, GIf_true, G_block, G_region, G_onil, G_op, GG_true, GX_val, GX_enter, GP_some, put_lt, wantedG_none, eq_self, Nat.zero_add, tget_set, nbeq, evalO_tmp, evalO_func, oval_eq, cx_move, cx_load, cx_bin, cx_fieldAddr, cx_indexAddr, cx_call, cx_builtin, xcallv_func, loadAt_some, loadIn_cells, xfieldAddr_some, xfa_some, xindexAddr_some, natOf_nat, xidx_sl, cbin_lss, bi_len, tyAt0, xlen_sl, takeN, List.map_cons, List.map_nil, List.append_nil, List.nil_append, List.drop_zero, List.drop_succ_cons, List.head?_cons, List.getElem?_cons_zero, List.getElem?_cons_succ, Option.map_some, cond_true, cond_false, decide_true, decide_false, if_true, if_false, Nat.reduceEqDiff]
          refine GCall.of (ih i x _ hd H2 [e0, e1, e2] (RX.mono kH _ _ hxe) hwx) ?_
          rintro v H3 ⟨rfl, k3⟩
          have g3 := hbx H3 (k2.trans k3)
          have hg3 : H3.get b = some (.cells l ty (some 3) 3) := by rw [(kH.trans k3).get hb]; exact hg
          obtain ⟨rfl, hc1, hc2⟩ := hxe.op
          simp (config := { maxSteps := 1000000 }) (disch := first | omega | ((repeat (first | rw [n_new] | rw [n_put])) <;> omega) | fail) only [G_seq, G_onil, G_op, GG_true, GX_val, GP_some, put_lt, wantedG_none, eq_self, tget_set, evalO_tmp, cx_assign, if_true, if_false, Nat.reduceEqDiff]
          rw [G_draw (by kernel_rfl)]
          simp (config := { maxSteps := 1000000 }) (disch := first | omega | ((repeat (first | rw [n_new] | rw [n_put])) <;> omega) | fail) only [tt25, tt23, tt3, h1, h4, g3, hg3, hdr', ft48, cc48, G_op, GG_true, GX_val, GX_enter, GP_some, put_lt, wantedG_none, eq_self, Nat.zero_add, tget_set, nbeq, evalO_tmp, evalO_func, oval_eq, cx_move, cx_load, cx_fieldAddr, cx_indexAddr, cx_call, xcallv_func, loadAt_some, loadIn_cells, xfieldAddr_some, xfa_some, xindexAddr_some, natOf_nat, xidx_sl, takeN, List.map_cons, List.map_nil, List.append_nil, List.nil_append, List.drop_zero, List.drop_succ_cons, List.head?_cons, Nat.add_zero, List.getElem?_cons_zero, List.getElem?_cons_succ, Option.map_some, cond_true, cond_false, decide_true, decide_false, if_true, if_false, Nat.reduceEqDiff]
          refine GCall.of (has_wrapped48 hn48 hc1 hc2) ?_
          rintro v H4 ⟨rfl, k4⟩
          have hmx : ∀ a b : Nat, (if ((b : Nat) : Int) > ((a : Nat) : Int) then ((b : Nat) : Int) else ((a : Nat) : Int)) = ((max a b : Nat) : Int) := by
            intro a b; split <;> omega
          cases hwv : wrapV op x.op with
          | true =>
            simp (config := { maxSteps := 1000000 }) (disch := first | omega | ((repeat (first | rw [n_new] | rw [n_put])) <;> omega) | fail) only [h3, h4, bi_max, hmx, G_cond, GIf_true, G_again, G_region, G_blkN, G_onil, G_op, GG_true, GX_val, GP_some, put_lt, wantedG_none, eq_self, tget_set, evalO_tmp, evalO_int, oval_eq, cx_move, cx_assign, cx_bin, cx_builtin, cbin_add, wrap_nat_add1, List.map_cons, List.map_nil, if_true, if_false, Nat.reduceEqDiff]
            refine ih2 (k - 1) _ (by omega) ⟨_, H4, i + 1, max n (deepT x + 1), rfl, by omega, ?_, ?_, ?_, (k2.trans k3).trans k4, by omega, ?_⟩
            · simp (config := { maxSteps := 1000000 }) (disch := first | omega | ((repeat (first | rw [n_new] | rw [n_put])) <;> omega) | fail) only [h1, eq_self, tget_set, if_false, Nat.reduceEqDiff]
            · simp (config := { maxSteps := 1000000 }) (disch := first | omega | ((repeat (first | rw [n_new] | rw [n_put])) <;> omega) | fail) only [h3, eq_self, tget_set, if_true, if_false, Nat.reduceEqDiff]
            · simp (config := { maxSteps := 1000000 }) (disch := first | omega | ((repeat (first | rw [n_new] | rw [n_put])) <;> omega) | fail) only [h4, eq_self, tget_set, if_true, if_false, Nat.reduceEqDiff]
            · rw [← hsm, hd, deepL, hwv, if_pos rfl]
          | false =>
            simp (config := { maxSteps := 1000000 }) (disch := first | omega | ((repeat (first | rw [n_new] | rw [n_put])) <;> omega) | fail) only [h3, h4, bi_max, hmx, G_skip, G_cond, GIf_false, G_again, G_region, G_blkN, G_onil, G_op, GG_true, GX_val, GP_some, put_lt, wantedG_none, eq_self, tget_set, evalO_tmp, evalO_int, oval_eq, cx_move, cx_assign, cx_bin, cx_builtin, cbin_add, wrap_nat_add1, List.map_cons, List.map_nil, if_true, if_false, Nat.reduceEqDiff]
            refine ih2 (k - 1) _ (by omega) ⟨_, H4, i + 1, max n (deepT x), rfl, by omega, ?_, ?_, ?_, (k2.trans k3).trans k4, by omega, ?_⟩
            · simp (config := { maxSteps := 1000000 }) (disch := first | omega | ((repeat (first | rw [n_new] | rw [n_put])) <;> omega) | fail) only [h1, eq_self, tget_set, if_false, Nat.reduceEqDiff]
            · simp (config := { maxSteps := 1000000 }) (disch := first | omega | ((repeat (first | rw [n_new] | rw [n_put])) <;> omega) | fail) only [h3, eq_self, tget_set, if_true, if_false, Nat.reduceEqDiff]
            · simp (config := { maxSteps := 1000000 }) (disch := first | omega | ((repeat (first | rw [n_new] | rw [n_put])) <;> omega) | fail) only [h4, eq_self, tget_set, if_true, if_false, Nat.reduceEqDiff]
            · rw [← hsm, hd, deepL, hwv, if_neg (by decide)]; rfl
      · simp (config := { maxSteps := 1000000 }) (disch := first | omega | ((repeat (first | rw [n_new] | rw [n_put])) <;> omega) | fail) only [tt25, tt23, h1, h3, h4, g2, decide_eq_false hi, G_nil, G_seq, G_cond, GIf_false, G_exit, G_ret, G_region, G_codeE, G_lpE, G_blkE, G_onil, G_op, GG_true, GX_val, GP_some, put_lt, wantedG_none, eq_self, Nat.zero_add, tget_set, nbeq, evalO_tmp, oval_eq, cx_move, cx_assign, cx_load, cx_bin, cx_fieldAddr, cx_builtin, loadAt_some, loadIn_cells, xfieldAddr_some, xfa_some, cbin_lss, bi_len, tyAt0, xlen_sl, takeN, resAll, resOne, tupV1, Outs_ret, OutR_some, List.map_cons, List.map_nil, List.drop_zero, List.drop_succ_cons, List.head?_cons, List.getElem?_cons_zero, List.getElem?_cons_succ, Option.map_some, cond_true, cond_false, decide_true, decide_false, if_true, if_false, Nat.reduceEqDiff]
        have : subs.drop i = .nil := RexL.drop_len (by rw [← RXL.len hsub]; omega)
        rw [this, deepL] at hsm
        refine ⟨trivial, ?_, kH⟩
        rw [← hsm]
    · refine ⟨_, _, 0, 0, rfl, rfl, ?_, ?_, ?_, Keep.refl _, by omega, rfl⟩
      all_goals (simp (config := { maxSteps := 1000000 }) (disch := first | omega | ((repeat (first | rw [n_new] | rw [n_put])) <;> omega) | fail) only [cast_lit, eq_self, tget_set, tget_of1, List.getElem?_cons_succ, if_true, if_false, Nat.reduceEqDiff]; done)
end
end Go.Proofs
