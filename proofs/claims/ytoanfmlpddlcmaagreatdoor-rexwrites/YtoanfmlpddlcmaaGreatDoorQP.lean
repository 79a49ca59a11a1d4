/- Which expressions fit, by the program and by the reference, walked (no statement of the program is proved here). -/
import Derived.Test.YtoanfmlpddlcmaaGreatDoorQO
namespace Go.Proofs
open Go Go.PE
noncomputable section
variable {ans : Tr (List Value → Option Value)} {eff : Tr (List Value → Hp → Option (Value × Hp))}
/-! ### the program's fitSet -/
set_option maxRecDepth 100000 in
set_option maxHeartbeats 8000000 in
theorem has_bad77 (hn : NoA ans eff 77) {H : Hp} {a b : Int} : Has (tE ans eff) 77 [.agg #[.int .i64 a, .int .i64 b]] H fun r H' => (∃ v : Bool, r = .bool v ∧ (v = true ↔ ¬ validP (a, b))) ∧ Keep H H' := by
  refine Has.of hn ft77 rfl (Nat.le_of_ble_eq_true rfl) ?_
  by_cases h1 : a < 0
  · simp (config := { maxSteps := 1000000 }) (disch := first | omega | ((repeat (first | rw [n_new] | rw [n_put])) <;> omega) | fail) only [Tryz.f77, tt62, tt3, decide_eq_true h1, G_nil, G_seq, G_ret, G_region, G_onil, G_op, GG_true, GG_false, GX_val, GP_some, put_lt, wantedG_none, wantedG_some, wG_some, isB_bool, List.getElem?_toArray, eq_self, Nat.zero_add, tget_set, tget_of1, nbeq, evalO_tmp, evalO_int, evalO_bool, Tr.get_set, oval_eq, xnew_eq, get_new_eq, cx_move, cx_assign, cx_pick, xpick_true, cx_box, cx_load, cx_bin, cx_fieldAddr, loadAt_some, loadIn_cells, xfieldAddr_some, xfa_some, cbin_lss, isJunk, takeN, Value.cells, resAll, resOne, tupV1, Outs_ret, OutR_some, List.toList_toArray, List.length_cons, List.length_nil, List.drop_zero, List.head?_cons, Nat.add_zero, List.getElem?_cons_zero, List.getElem?_cons_succ, Option.map_some, cond_true, cond_false, Bool.not_false, decide_true, decide_false, if_true, if_false, Nat.reduceEqDiff]
    exact ⟨trivial, ⟨true, rfl, fun _ h => by have := h.1; simp only at this; omega, fun _ => rfl⟩, (by repeat (first | assumption | exact Keep.refl _ | refine Keep.new ?_ _ | refine Keep.put ?_ _ (by first | omega | (simp only [n_new, n_put] <;> omega))))⟩
  · by_cases h2 : b > 1114111
    · simp (config := { maxSteps := 1000000 }) (disch := first | omega | ((repeat (first | rw [n_new] | rw [n_put])) <;> omega) | fail) only [Tryz.f77, tt62, tt3, decide_eq_false h1, decide_eq_true h2, G_nil, G_seq, G_ret, G_region, G_onil, G_op, GG_true, GG_false, GX_val, GP_some, put_lt, wantedG_none, wantedG_some, wG_some, isB_bool, List.getElem?_toArray, eq_self, Nat.zero_add, tget_set, tget_of1, nbeq, evalO_tmp, evalO_int, evalO_bool, Tr.get_set, oval_eq, xnew_eq, get_new_eq, cx_move, cx_assign, cx_pick, xpick_true, xpick_false, cx_box, cx_load, cx_bin, cx_fieldAddr, loadAt_some, loadIn_cells, xfieldAddr_some, xfa_some, cbin_lss, cbin_gtr, isJunk, takeN, Value.cells, resAll, resOne, tupV1, Outs_ret, OutR_some, List.toList_toArray, List.length_cons, List.length_nil, List.drop_zero, List.drop_succ_cons, List.head?_cons, Nat.add_zero, List.getElem?_cons_zero, List.getElem?_cons_succ, Option.map_some, cond_true, cond_false, Bool.not_false, decide_true, decide_false, if_true, if_false, Nat.reduceEqDiff]
      exact ⟨trivial, ⟨true, rfl, fun _ h => by have := h.2.2; simp only at this; omega, fun _ => rfl⟩, (by repeat (first | assumption | exact Keep.refl _ | refine Keep.new ?_ _ | refine Keep.put ?_ _ (by first | omega | (simp only [n_new, n_put] <;> omega))))⟩
    · by_cases h3 : a > b
      · simp (config := { maxSteps := 1000000 }) (disch := first | omega | ((repeat (first | rw [n_new] | rw [n_put])) <;> omega) | fail) only [Tryz.f77, tt62, tt3, decide_eq_false h1, decide_eq_false h2, decide_eq_true h3, G_nil, G_seq, G_ret, G_region, G_onil, G_op, GG_true, GX_val, GP_some, put_lt, wantedG_none, wantedG_some, wG_some, isB_bool, List.getElem?_toArray, eq_self, Nat.zero_add, tget_set, tget_of1, nbeq, evalO_tmp, evalO_int, evalO_bool, Tr.get_set, oval_eq, xnew_eq, get_new_eq, cx_move, cx_assign, cx_pick, xpick_false, cx_box, cx_load, cx_bin, cx_fieldAddr, loadAt_some, loadIn_cells, xfieldAddr_some, xfa_some, cbin_lss, cbin_gtr, isJunk, takeN, Value.cells, resAll, resOne, tupV1, Outs_ret, OutR_some, List.toList_toArray, List.length_cons, List.length_nil, List.drop_zero, List.drop_succ_cons, List.head?_cons, Nat.add_zero, List.getElem?_cons_zero, List.getElem?_cons_succ, Option.map_some, cond_true, cond_false, Bool.not_false, decide_true, decide_false, if_true, if_false, Nat.reduceEqDiff]
        exact ⟨trivial, ⟨true, rfl, fun _ h => by have := h.2.1; simp only at this; omega, fun _ => rfl⟩, (by repeat (first | assumption | exact Keep.refl _ | refine Keep.new ?_ _ | refine Keep.put ?_ _ (by first | omega | (simp only [n_new, n_put] <;> omega))))⟩
      · simp (config := { maxSteps := 1000000 }) (disch := first | omega | ((repeat (first | rw [n_new] | rw [n_put])) <;> omega) | fail) only [Tryz.f77, tt62, tt3, decide_eq_false h1, decide_eq_false h2, decide_eq_false h3, G_nil, G_seq, G_ret, G_region, G_onil, G_op, GG_true, GX_val, GP_some, put_lt, wantedG_none, wantedG_some, wG_some, isB_bool, List.getElem?_toArray, eq_self, Nat.zero_add, tget_set, tget_of1, nbeq, evalO_tmp, evalO_int, evalO_bool, Tr.get_set, oval_eq, xnew_eq, get_new_eq, cx_move, cx_assign, cx_pick, xpick_false, cx_box, cx_load, cx_bin, cx_fieldAddr, loadAt_some, loadIn_cells, xfieldAddr_some, xfa_some, cbin_lss, cbin_gtr, isJunk, takeN, Value.cells, resAll, resOne, tupV1, Outs_ret, OutR_some, List.toList_toArray, List.length_cons, List.length_nil, List.drop_zero, List.drop_succ_cons, List.head?_cons, Nat.add_zero, List.getElem?_cons_zero, List.getElem?_cons_succ, Option.map_some, cond_true, cond_false, Bool.not_false, decide_true, decide_false, if_true, if_false, Nat.reduceEqDiff]
        exact ⟨trivial, ⟨false, rfl, (fun h => by cases h), fun h => absurd ⟨by simp only; omega, by simp only; omega, by simp only; omega⟩ h⟩, (by repeat (first | assumption | exact Keep.refl _ | refine Keep.new ?_ _ | refine Keep.put ?_ _ (by first | omega | (simp only [n_new, n_put] <;> omega))))⟩
set_option maxRecDepth 100000 in
set_option maxHeartbeats 8000000 in
theorem has_idx75 (hn : NoA ans eff 75) (hn77 : NoA ans eff 77) {H : Hp} {v : Value} {l : List (Int × Int)} (hv : StA H v l) :
    Has (tE ans eff) 75 [v, .func (.func 77) #[] #[]] H fun r H' => (∃ k : Int, r = .int .i64 k ∧ (k ≥ 0 ↔ ¬ ∀ p ∈ l, validP p)) ∧ Keep H H' := by
  obtain ⟨a, c, rfl, hl, _⟩ := id hv
  refine Has.of hn ft75 rfl (Nat.le_of_ble_eq_true rfl) ?_
  simp (config := { maxSteps := 1000000 }) (disch := first | omega | ((repeat (first | rw [n_new] | rw [n_put])) <;> omega) | fail) only [Tryz.f75, tt22, G_seq, G_block, G_region, G_onil, G_op, GG_true, GX_val, GP_some, put_lt, wantedG_none, eq_self, Int.reduceNeg, Nat.zero_add, tget_set, tget_of2, nbeq, evalO_tmp, evalO_int, cx_move, cx_assign, cx_builtin, bi_len, tyAt0, xlen_sl, List.toList_toArray, List.map_cons, List.map_nil, List.length_cons, List.length_nil, List.getElem?_cons_zero, List.getElem?_cons_succ, cond_true, decide_true, if_true, if_false, Nat.reduceAdd, Nat.reduceEqDiff]
  refine G_loop_ind (fun k s => ∃ tm H2 i, s = ⟨tm, [], H2⟩ ∧ k + i = l.length ∧ tget tm 0 = .slice a l.length c ∧ tget tm 1 = .func (.func 77) #[] #[] ∧ tget tm 7 = .int .i64 ((l.length : Nat) : Int) ∧ tget tm 8 = .int .i64 ((i : Nat) : Int) ∧ Keep H H2 ∧ ∀ p ∈ l.take i, validP p) ?_ l.length _ ?_
  · rintro k ih2 s ⟨tm, H2, i, rfl, hk, h0, h1, h7, h8, kH, hva⟩
    by_cases hi : (i : Int) < (l.length : Int)
    · obtain ⟨p, hp, hpd⟩ := drop_at (l := l) (i := i) (by omega)
      obtain ⟨b, cs, ty, es, fl, r, rfl, hb, hg, hdr⟩ := hv.elem hp
      have hg2 : H2.get b = some (.cells cs ty es fl) := by rw [kH.get hb]; exact hg
      have hpm := List.mem_of_getElem? hp
      simp (config := { maxSteps := 1000000 }) (disch := first | omega | ((repeat (first | rw [n_new] | rw [n_put])) <;> omega) | fail) only [tt22, tt62, h0, h1, h7, h8, hg2, hdr, decide_eq_true hi, ft77, cc77, G_skip, G_seq, G_cond, GIf_true, G_block, G_region, G_onil, G_op, GG_true, GX_val, GX_enter, GP_some, put_lt, wantedG_none, eq_self, Int.reduceNeg, Nat.zero_add, tget_set, nbeq, evalO_tmp, oval_eq, cx_move, cx_assign, cx_load, cx_bin, cx_indexAddr, cx_call, xcallv_func, loadAt_some, loadIn_cells, xindexAddr_some, natOf_nat, xidx_sl, cbin_lss, takeN, List.map_cons, List.map_nil, List.append_nil, List.nil_append, List.head?_cons, Option.map_some, cond_true, decide_true, if_true, if_false, Nat.reduceEqDiff]
      refine GCall.of (has_bad77 hn77) ?_
      rintro v H3 ⟨⟨v, rfl, hvp⟩, k3⟩
      cases v with
      | true =>
        simp (config := { maxSteps := 1000000 }) (disch := first | omega | ((repeat (first | rw [n_new] | rw [n_put])) <;> omega) | fail) only [G_nil, G_seq, G_cond, GIf_true, G_ret, G_region, G_codeR, G_lpR, G_blkR, G_onil, G_op, GG_true, GX_val, GP_some, put_lt, wantedG_none, eq_self, Int.reduceNeg, tget_set, evalO_tmp, cx_move, cx_assign, resAll, resOne, tupV1, Outs_ret, OutR_some, if_true, if_false, Nat.reduceEqDiff]
        refine ⟨trivial, ⟨_, rfl, fun _ h => hvp.1 rfl (h p hpm), fun _ => by omega⟩, kH.trans k3⟩
      | false =>
        simp (config := { maxSteps := 1000000 }) (disch := first | omega | ((repeat (first | rw [n_new] | rw [n_put])) <;> omega) | fail) only [h8, G_skip, G_cond, GIf_false, G_again, G_region, G_blkN, G_onil, G_op, GG_true, GX_val, GP_some, put_lt, wantedG_none, eq_self, Int.reduceNeg, tget_set, evalO_tmp, evalO_int, oval_eq, cx_move, cx_bin, cbin_add, wrap_nat_add1, if_true, if_false, Nat.reduceEqDiff]
        refine ih2 (k - 1) _ (by omega) ⟨_, H3, i + 1, rfl, by omega, ?_, ?_, ?_, ?_, kH.trans k3, ?_⟩
        · simp (config := { maxSteps := 1000000 }) (disch := first | omega | ((repeat (first | rw [n_new] | rw [n_put])) <;> omega) | fail) only [h0, eq_self, tget_set, if_false, Nat.reduceEqDiff]
        · simp (config := { maxSteps := 1000000 }) (disch := first | omega | ((repeat (first | rw [n_new] | rw [n_put])) <;> omega) | fail) only [h1, eq_self, tget_set, if_false, Nat.reduceEqDiff]
        · simp (config := { maxSteps := 1000000 }) (disch := first | omega | ((repeat (first | rw [n_new] | rw [n_put])) <;> omega) | fail) only [h7, eq_self, tget_set, if_false, Nat.reduceEqDiff]
        · simp (config := { maxSteps := 1000000 }) (disch := first | omega | ((repeat (first | rw [n_new] | rw [n_put])) <;> omega) | fail) only [h8, eq_self, tget_set, if_true, if_false, Nat.reduceEqDiff]
        · intro q hq
          rw [List.take_add_one, hp] at hq
          rcases List.mem_append.1 hq with hq | hq
          · exact hva q hq
          · rw [Option.toList_some, List.mem_singleton] at hq
            subst hq
            exact Classical.not_not.1 fun h => by cases hvp.2 h
    · simp (config := { maxSteps := 1000000 }) (disch := first | omega | ((repeat (first | rw [n_new] | rw [n_put])) <;> omega) | fail) only [h7, h8, decide_eq_false hi, G_nil, G_seq, G_cond, GIf_false, G_exit, G_ret, G_region, G_codeE, G_lpE, G_blkE, G_onil, G_op, GG_true, GX_val, GP_some, put_lt, wantedG_none, eq_self, Int.reduceNeg, tget_set, evalO_tmp, evalO_int, oval_eq, cx_assign, cx_bin, cbin_lss, resAll, resOne, tupV1, Outs_ret, OutR_some, if_true, if_false, Nat.reduceEqDiff]
      rw [List.take_of_length_le (by omega)] at hva
      exact ⟨trivial, ⟨_, rfl, fun h => absurd h (by decide), fun h => absurd hva h⟩, kH⟩
  · refine ⟨_, _, 0, rfl, rfl, ?_, ?_, ?_, ?_, Keep.refl _, fun p hp => by simp at hp⟩
    all_goals (simp (config := { maxSteps := 1000000 }) (disch := first | omega | ((repeat (first | rw [n_new] | rw [n_put])) <;> omega) | fail) only [cast_lit, eq_self, tget_set, tget_of2, List.getElem?_cons_zero, List.getElem?_cons_succ, if_true, if_false, Nat.reduceEqDiff]; done)
set_option maxRecDepth 100000 in
set_option maxHeartbeats 8000000 in
theorem has_any60 (hn : NoA ans eff 60) (hn75 : NoA ans eff 75) (hn77 : NoA ans eff 77) {H : Hp} {v : Value} {l : List (Int × Int)} (hv : StA H v l) :
    Has (tE ans eff) 60 [v, .func (.func 77) #[] #[]] H fun r H' => (∃ b : Bool, r = .bool b ∧ (b = true ↔ ¬ ∀ p ∈ l, validP p)) ∧ Keep H H' := by
  obtain ⟨a, c, rfl, hl, _⟩ := id hv
  refine Has.of hn ft60 rfl (Nat.le_of_ble_eq_true rfl) ?_
  simp (config := { maxSteps := 1000000 }) (disch := first | omega | ((repeat (first | rw [n_new] | rw [n_put])) <;> omega) | fail) only [Tryz.f60, ft75, cc75, G_seq, G_region, G_onil, G_op, GG_true, GX_val, GX_enter, GP_some, put_lt, wantedG_none, eq_self, Nat.zero_add, tget_set, tget_of2, evalO_tmp, evalO_bool, evalO_func, cx_move, cx_assign, cx_call, xcallv_func, List.toList_toArray, List.map_cons, List.map_nil, List.length_cons, List.length_nil, List.append_nil, List.nil_append, List.getElem?_cons_zero, List.getElem?_cons_succ, if_true, if_false, Nat.reduceAdd, Nat.reduceEqDiff]
  refine GCall.of (has_idx75 hn75 hn77 hv) ?_
  rintro v H3 ⟨⟨k, rfl, hk⟩, k3⟩
  simp (config := { maxSteps := 1000000 }) (disch := first | omega | ((repeat (first | rw [n_new] | rw [n_put])) <;> omega) | fail) only [G_nil, G_ret, G_onil, G_op, GG_true, GX_val, GP_some, put_lt, wantedG_none, eq_self, tget_set, tget_of2, evalO_tmp, evalO_int, oval_eq, cx_assign, cx_bin, cbin_geq, resAll, resOne, tupV1, Outs_ret, OutR_some, List.getElem?_cons_succ, if_true, if_false, Nat.reduceEqDiff]
  exact ⟨trivial, ⟨_, rfl, by rw [decide_eq_true_eq]; exact hk⟩, k3⟩
/-- what the program's fitSet asks of the calls that are answered -/
structure NoFit (ans : Tr (List Value → Option Value)) (eff : Tr (List Value → Hp → Option (Value × Hp))) : Prop where
  n8 : NoA ans eff 8
  n10 : NoA ans eff 10
  n24 : NoA ans eff 24
  n25 : NoA ans eff 25
  n26 : NoA ans eff 26
  n27 : NoA ans eff 27
  n29 : NoA ans eff 29
  n30 : NoA ans eff 30
  n32 : NoA ans eff 32
  n33 : NoA ans eff 33
  n47 : NoA ans eff 47
  n48 : NoA ans eff 48
  n49 : NoA ans eff 49
  n60 : NoA ans eff 60
  n66 : NoA ans eff 66
  n67 : NoA ans eff 67
  n75 : NoA ans eff 75
  n77 : NoA ans eff 77
  n78 : NoA ans eff 78
  n88 : NoA ans eff 88
  n89 : NoA ans eff 89
  n100 : NoA ans eff 100
  n102 : NoA ans eff 102
  n105 : NoA ans eff 105
  sort : SortOk ans eff
set_option maxRecDepth 100000 in
set_option maxHeartbeats 8000000 in
theorem has_fitSet67 (N : NoFit ans eff) {H : Hp} {v : Value} {l : List (Int × Int)} (hv : StA H v l) (hlen : l.length ≤ 200000) :
    Has (tE ans eff) 67 [v] H fun r H' => r = .bool (fitS l) ∧ Keep H H' := by
  obtain ⟨a, c, rfl, hl, _⟩ := id hv
  refine Has.of N.n67 ft67 rfl (Nat.le_of_ble_eq_true rfl) ?_
  by_cases h0 : ((l.length : Nat) : Int) > 0
  · simp (config := { maxSteps := 1000000 }) (disch := first | omega | ((repeat (first | rw [n_new] | rw [n_put])) <;> omega) | fail) only [Tryz.f67, tt22, decide_eq_true h0, ft60, cc60, G_seq, G_region, G_onil, G_op, GG_true, GX_val, GX_enter, GP_some, put_lt, wantedG_none, wantedG_some, wG_some, isB_bool, List.getElem?_toArray, eq_self, Nat.zero_add, tget_set, tget_of1, nbeq, evalO_tmp, evalO_int, evalO_bool, evalO_func, Tr.get_set, oval_eq, cx_move, cx_assign, cx_bin, cx_call, cx_builtin, xcallv_func, cbin_gtr, bi_len, tyAt0, xlen_sl, List.toList_toArray, List.map_cons, List.map_nil, List.length_cons, List.length_nil, List.append_nil, List.nil_append, List.getElem?_cons_zero, List.getElem?_cons_succ, cond_true, Bool.not_true, decide_true, if_true, if_false, Nat.reduceEqDiff]
    refine GCall.of (has_any60 N.n60 N.n75 N.n77 hv) ?_
    rintro v H2 ⟨⟨b, rfl, hb⟩, k2⟩
    cases b with
    | true =>
      simp (config := { maxSteps := 1000000 }) (disch := first | omega | ((repeat (first | rw [n_new] | rw [n_put])) <;> omega) | fail) only [G_nil, G_ret, G_onil, G_op, GG_true, GG_false, GX_val, GP_some, put_lt, wantedG_none, wantedG_some, wG_some, isB_bool, List.getElem?_toArray, eq_self, tget_set, tget_of1, evalO_tmp, evalO_bool, Tr.get_set, oval_eq, cx_move, cx_assign, cx_pick, xpick_true, xpick_false, cx_un, resAll, resOne, tupV1, Outs_ret, OutR_some, un_not, List.getElem?_cons_zero, List.getElem?_cons_succ, cond_true, cond_false, Bool.not_true, if_true, if_false, Nat.reduceEqDiff]
      refine ⟨trivial, ?_, k2⟩
      obtain ⟨p, hp⟩ := Classical.not_forall.1 (hb.1 rfl)
      obtain ⟨hp, hq⟩ := Classical.not_imp.1 hp
      rw [fitS_bad hp hq]
    | false =>
      have hva : ∀ p ∈ l, validP p := Classical.not_not.1 fun h => by cases hb.2 h
      simp (config := { maxSteps := 1000000 }) (disch := first | omega | ((repeat (first | rw [n_new] | rw [n_put])) <;> omega) | fail) only [ft78, cc78, G_op, GG_true, GX_val, GX_enter, GP_some, put_lt, wantedG_none, wantedG_some, wG_some, isB_bool, List.getElem?_toArray, eq_self, tget_set, tget_of1, evalO_tmp, evalO_bool, evalO_func, Tr.get_set, oval_eq, cx_move, cx_pick, xpick_true, cx_un, cx_call, xcallv_func, un_not, List.map_cons, List.map_nil, List.append_nil, List.nil_append, List.getElem?_cons_zero, List.getElem?_cons_succ, cond_true, Bool.not_true, Bool.not_false, if_true, if_false, Nat.reduceEqDiff]
      refine GCall.of (has_norm78 N.n78 N.n89 N.n88 N.n100 N.n105 N.n102 N.sort (hv.mono k2) hva hlen) ?_
      rintro v3 H3 ⟨⟨s, hps, hls, hst⟩, k3⟩
      simp (config := { maxSteps := 1000000 }) (disch := first | omega | ((repeat (first | rw [n_new] | rw [n_put])) <;> omega) | fail) only [ft30, cc30, G_op, GG_true, GX_enter, GP_some, put_lt, wantedG_some, wG_some, isB_bool, List.getElem?_toArray, eq_self, tget_set, tget_of1, evalO_tmp, evalO_func, Tr.get_set, cx_call, xcallv_func, List.map_cons, List.map_nil, List.append_nil, List.nil_append, List.getElem?_cons_zero, List.getElem?_cons_succ, cond_true, Bool.not_true, if_true, if_false, Nat.reduceEqDiff]
      refine GCall.of (has_equal30 N.n30 ((hv.mono k2).mono k3) hst) ?_
      rintro v4 H4 ⟨rfl, k4⟩
      simp (config := { maxSteps := 1000000 }) (disch := first | omega | ((repeat (first | rw [n_new] | rw [n_put])) <;> omega) | fail) only [G_nil, G_ret, G_onil, G_op, GG_true, GX_val, GP_some, put_lt, wantedG_none, eq_self, tget_set, tget_of1, evalO_tmp, evalO_bool, cx_assign, cx_pick, xpick_true, resAll, resOne, tupV1, Outs_ret, OutR_some, List.getElem?_cons_succ, if_true, if_false, Nat.reduceEqDiff]
      refine ⟨trivial, ?_, (k2.trans k3).trans k4⟩
      rw [fitS_eq (fun e => by rw [e] at h0; simp at h0) hva hps hls]
  · simp (config := { maxSteps := 1000000 }) (disch := first | omega | ((repeat (first | rw [n_new] | rw [n_put])) <;> omega) | fail) only [Tryz.f67, tt22, decide_eq_false h0, G_nil, G_seq, G_ret, G_region, G_onil, G_op, GG_true, GG_false, GX_val, GP_some, put_lt, wantedG_none, wantedG_some, wG_some, isB_bool, List.getElem?_toArray, eq_self, Nat.zero_add, tget_set, tget_of1, nbeq, evalO_tmp, evalO_int, evalO_bool, evalO_func, Tr.get_set, oval_eq, cx_move, cx_assign, cx_pick, xpick_false, cx_bin, cx_builtin, cbin_gtr, bi_len, tyAt0, xlen_sl, resAll, resOne, tupV1, Outs_ret, OutR_some, List.toList_toArray, List.map_cons, List.map_nil, List.length_cons, List.length_nil, List.getElem?_cons_zero, List.getElem?_cons_succ, cond_true, cond_false, Bool.not_true, decide_true, if_true, if_false, Nat.reduceEqDiff]
    refine ⟨trivial, ?_, (by repeat (first | assumption | exact Keep.refl _ | refine Keep.new ?_ _ | refine Keep.put ?_ _ (by first | omega | (simp only [n_new, n_put] <;> omega))))⟩
    have : l = [] := List.eq_nil_of_length_eq_zero (by omega)
    rw [this]; rfl
/-! ### the program's arity -/
set_option maxRecDepth 100000 in
set_option maxHeartbeats 8000000 in
theorem has_arity (N : NoFit ans eff) {op : Int} {set : List (Int × Int)} {subs : RexL} {H : Hp} {cs : List Value} (hws : set.length ≤ 200000) (hx : RX H (.node op set subs) cs) : Has (tE ans eff) 49 [.agg cs.toArray] H fun v H' => v = .bool (arOk op subs.len && (if op = 2 then fitS set else true)) ∧ Keep H H' := by
  unfold RX at hx
  obtain ⟨sv, bv, els, rfl, hsv, hbv, hsub⟩ := hx
  obtain ⟨asv, rfl, hls⟩ := hsv.lenP
  obtain ⟨ab, rfl, hlb⟩ := hbv.len
  refine Has.of N.n49 ft49 rfl (Nat.le_of_ble_eq_true rfl) ?_
  have kH : Keep H (H.new (.cells [.int .i64 op, .slice asv set.length set.length, .slice ab els.length els.length] 25 none 0)) := (Keep.refl H).new _
  have hel := RXL.len hsub
  rw [← hel]
  unfold arOk
  by_cases o1 : op = 1
  · simp (config := { maxSteps := 1000000 }) (disch := first | omega | ((repeat (first | rw [n_new] | rw [n_put])) <;> omega) | fail) only [Tryz.f49, tt25, tt23, tt3, decide_eq_true o1, G_nil, G_seq, G_cond, GIf_true, G_block, G_ret, G_region, G_codeR, G_blkR, G_onil, G_op, GG_true, GX_val, GP_some, put_lt, wantedG_none, eq_self, Nat.zero_add, tget_set, tget_of1, nbeq, evalO_tmp, evalO_int, evalO_bool, oval_eq, xnew_eq, get_new_eq, cx_move, cx_assign, cx_box, cx_load, cx_bin, cx_fieldAddr, cx_builtin, loadAt_some, loadIn_cells, xfieldAddr_some, xfa_some, cbin_eql, bi_len, tyAt0, xlen_sl, isJunk, takeN, Value.cells, resAll, resOne, tupV1, Outs_ret, OutR_some, List.toList_toArray, List.map_cons, List.map_nil, List.length_cons, List.length_nil, List.drop_zero, List.drop_succ_cons, List.head?_cons, Nat.add_zero, List.getElem?_cons_zero, List.getElem?_cons_succ, Option.map_some, cond_true, cond_false, decide_true, decide_false, if_true, if_false, Nat.reduceEqDiff]
    exact ⟨trivial, by rw [if_pos (by omega), if_neg (by omega), ← len_cast (k := 0) rfl, Bool.and_true], kH⟩
  by_cases o2 : op = 2
  · by_cases hl : ((els.length : Nat) : Int) = 0
    · simp (config := { maxSteps := 1000000 }) (disch := first | omega | ((repeat (first | rw [n_new] | rw [n_put])) <;> omega) | fail) only [Tryz.f49, tt25, tt23, tt22, tt3, decide_eq_false o1, decide_eq_true o2, decide_eq_true hl, ft67, cc67, G_seq, G_cond, GIf_true, GIf_false, G_block, G_region, G_onil, G_op, GG_true, GX_val, GX_enter, GP_some, put_lt, wantedG_none, wantedG_some, wG_some, isB_bool, List.getElem?_toArray, eq_self, Nat.zero_add, tget_set, tget_of1, nbeq, evalO_tmp, evalO_int, evalO_bool, evalO_func, Tr.get_set, oval_eq, xnew_eq, get_new_eq, cx_move, cx_assign, cx_box, cx_load, cx_bin, cx_fieldAddr, cx_call, cx_builtin, xcallv_func, loadAt_some, loadIn_cells, xfieldAddr_some, xfa_some, cbin_eql, bi_len, tyAt0, xlen_sl, isJunk, takeN, Value.cells, List.toList_toArray, List.map_cons, List.map_nil, List.length_cons, List.length_nil, List.append_nil, List.nil_append, List.drop_zero, List.drop_succ_cons, List.head?_cons, Nat.add_zero, List.getElem?_cons_zero, List.getElem?_cons_succ, Option.map_some, cond_true, cond_false, Bool.not_true, decide_true, decide_false, if_true, if_false, Nat.reduceEqDiff]
      refine GCall.of (has_fitSet67 N ((StA.of hsv).mono kH) hws) ?_
      rintro v H3 ⟨rfl, k3⟩
      simp (config := { maxSteps := 1000000 }) (disch := first | omega | ((repeat (first | rw [n_new] | rw [n_put])) <;> omega) | fail) only [G_nil, G_ret, G_codeR, G_blkR, G_onil, G_op, GG_true, GX_val, GP_some, put_lt, wantedG_none, eq_self, tget_set, tget_of1, evalO_tmp, evalO_bool, cx_assign, cx_pick, xpick_true, resAll, resOne, tupV1, Outs_ret, OutR_some, List.getElem?_cons_succ, if_true, if_false, Nat.reduceEqDiff]
      exact ⟨trivial, by rw [if_pos (by omega), if_pos o2, decide_eq_true (by omega), Bool.true_and], kH.trans k3⟩
    · simp (config := { maxSteps := 1000000 }) (disch := first | omega | ((repeat (first | rw [n_new] | rw [n_put])) <;> omega) | fail) only [Tryz.f49, tt25, tt23, tt3, decide_eq_false o1, decide_eq_true o2, decide_eq_false hl, G_nil, G_seq, G_cond, GIf_true, GIf_false, G_block, G_ret, G_region, G_codeR, G_blkR, G_onil, G_op, GG_true, GG_false, GX_val, GP_some, put_lt, wantedG_none, wantedG_some, wG_some, isB_bool, List.getElem?_toArray, eq_self, Nat.zero_add, tget_set, tget_of1, nbeq, evalO_tmp, evalO_int, evalO_bool, Tr.get_set, oval_eq, xnew_eq, get_new_eq, cx_move, cx_assign, cx_pick, xpick_false, cx_box, cx_load, cx_bin, cx_fieldAddr, cx_builtin, loadAt_some, loadIn_cells, xfieldAddr_some, xfa_some, cbin_eql, bi_len, tyAt0, xlen_sl, isJunk, takeN, Value.cells, resAll, resOne, tupV1, Outs_ret, OutR_some, List.toList_toArray, List.map_cons, List.map_nil, List.length_cons, List.length_nil, List.drop_zero, List.drop_succ_cons, List.head?_cons, Nat.add_zero, List.getElem?_cons_zero, List.getElem?_cons_succ, Option.map_some, cond_true, cond_false, Bool.not_true, decide_true, decide_false, if_true, if_false, Nat.reduceEqDiff]
      exact ⟨trivial, by rw [if_pos (by omega), decide_eq_false (by omega), Bool.false_and], kH⟩
  rw [if_neg (by omega), if_neg o2, Bool.and_true]
  have h2 : decide (2 ≤ els.length) = decide (((els.length : Nat) : Int) > 1) := decide_eq_decide.2 (by omega)
  by_cases o3 : op = 3
  · simp (config := { maxSteps := 1000000 }) (disch := first | omega | ((repeat (first | rw [n_new] | rw [n_put])) <;> omega) | fail) only [Tryz.f49, tt25, tt23, tt3, decide_eq_false o1, decide_eq_false o2, decide_eq_true o3, G_nil, G_skip, G_seq, G_cond, GIf_true, GIf_false, G_block, G_ret, G_region, G_codeR, G_blkR, G_onil, G_op, GG_true, GX_val, GP_some, put_lt, wantedG_none, eq_self, Nat.zero_add, tget_set, tget_of1, nbeq, evalO_tmp, evalO_int, evalO_bool, oval_eq, xnew_eq, get_new_eq, cx_move, cx_assign, cx_box, cx_load, cx_bin, cx_fieldAddr, cx_builtin, loadAt_some, loadIn_cells, xfieldAddr_some, xfa_some, cbin_eql, cbin_gtr, bi_len, tyAt0, xlen_sl, isJunk, takeN, Value.cells, resAll, resOne, tupV1, Outs_ret, OutR_some, List.toList_toArray, List.map_cons, List.map_nil, List.length_cons, List.length_nil, List.drop_zero, List.drop_succ_cons, List.head?_cons, Nat.add_zero, List.getElem?_cons_zero, List.getElem?_cons_succ, Option.map_some, cond_true, cond_false, decide_true, decide_false, if_true, if_false, Nat.reduceEqDiff]
    exact ⟨trivial, by rw [if_pos (by omega), h2], kH⟩
  by_cases o4 : op = 4
  · simp (config := { maxSteps := 1000000 }) (disch := first | omega | ((repeat (first | rw [n_new] | rw [n_put])) <;> omega) | fail) only [Tryz.f49, tt25, tt23, tt3, decide_eq_false o1, decide_eq_false o2, decide_eq_false o3, decide_eq_true o4, G_nil, G_seq, G_cond, GIf_true, GIf_false, G_block, G_ret, G_region, G_codeR, G_blkR, G_onil, G_op, GG_true, GX_val, GP_some, put_lt, wantedG_none, eq_self, Nat.zero_add, tget_set, tget_of1, nbeq, evalO_tmp, evalO_int, evalO_bool, oval_eq, xnew_eq, get_new_eq, cx_move, cx_assign, cx_box, cx_load, cx_bin, cx_fieldAddr, cx_builtin, loadAt_some, loadIn_cells, xfieldAddr_some, xfa_some, cbin_eql, cbin_gtr, bi_len, tyAt0, xlen_sl, isJunk, takeN, Value.cells, resAll, resOne, tupV1, Outs_ret, OutR_some, List.toList_toArray, List.map_cons, List.map_nil, List.length_cons, List.length_nil, List.drop_zero, List.drop_succ_cons, List.head?_cons, Nat.add_zero, List.getElem?_cons_zero, List.getElem?_cons_succ, Option.map_some, cond_true, cond_false, decide_true, decide_false, if_true, if_false, Nat.reduceEqDiff]
    exact ⟨trivial, by rw [if_pos (by omega), h2], kH⟩
  rw [if_neg (by omega)]
  by_cases o5 : op = 5
  · simp (config := { maxSteps := 1000000 }) (disch := first | omega | ((repeat (first | rw [n_new] | rw [n_put])) <;> omega) | fail) only [Tryz.f49, tt25, tt23, tt3, decide_eq_false o1, decide_eq_false o2, decide_eq_false o3, decide_eq_false o4, decide_eq_true o5, G_nil, G_skip, G_seq, G_cond, GIf_true, GIf_false, G_block, G_ret, G_region, G_codeR, G_blkR, G_onil, G_op, GG_true, GX_val, GP_some, put_lt, wantedG_none, eq_self, Nat.zero_add, tget_set, tget_of1, nbeq, evalO_tmp, evalO_int, evalO_bool, oval_eq, xnew_eq, get_new_eq, cx_move, cx_assign, cx_box, cx_load, cx_bin, cx_fieldAddr, cx_builtin, loadAt_some, loadIn_cells, xfieldAddr_some, xfa_some, cbin_eql, bi_len, tyAt0, xlen_sl, isJunk, takeN, Value.cells, resAll, resOne, tupV1, Outs_ret, OutR_some, List.toList_toArray, List.map_cons, List.map_nil, List.length_cons, List.length_nil, List.drop_zero, List.drop_succ_cons, List.head?_cons, Nat.add_zero, List.getElem?_cons_zero, List.getElem?_cons_succ, Option.map_some, cond_true, cond_false, decide_true, decide_false, if_true, if_false, Nat.reduceEqDiff]
    exact ⟨trivial, by rw [if_pos (by omega), ← len_cast (k := 1) rfl], kH⟩
  by_cases o6 : op = 6
  · simp (config := { maxSteps := 1000000 }) (disch := first | omega | ((repeat (first | rw [n_new] | rw [n_put])) <;> omega) | fail) only [Tryz.f49, tt25, tt23, tt3, decide_eq_false o1, decide_eq_false o2, decide_eq_false o3, decide_eq_false o4, decide_eq_false o5, decide_eq_true o6, G_nil, G_skip, G_seq, G_cond, GIf_true, GIf_false, G_block, G_ret, G_region, G_codeR, G_blkR, G_onil, G_op, GG_true, GX_val, GP_some, put_lt, wantedG_none, eq_self, Nat.zero_add, tget_set, tget_of1, nbeq, evalO_tmp, evalO_int, evalO_bool, oval_eq, xnew_eq, get_new_eq, cx_move, cx_assign, cx_box, cx_load, cx_bin, cx_fieldAddr, cx_builtin, loadAt_some, loadIn_cells, xfieldAddr_some, xfa_some, cbin_eql, bi_len, tyAt0, xlen_sl, isJunk, takeN, Value.cells, resAll, resOne, tupV1, Outs_ret, OutR_some, List.toList_toArray, List.map_cons, List.map_nil, List.length_cons, List.length_nil, List.drop_zero, List.drop_succ_cons, List.head?_cons, Nat.add_zero, List.getElem?_cons_zero, List.getElem?_cons_succ, Option.map_some, cond_true, cond_false, decide_true, decide_false, if_true, if_false, Nat.reduceEqDiff]
    exact ⟨trivial, by rw [if_pos (by omega), ← len_cast (k := 1) rfl], kH⟩
  by_cases o7 : op = 7
  · simp (config := { maxSteps := 1000000 }) (disch := first | omega | ((repeat (first | rw [n_new] | rw [n_put])) <;> omega) | fail) only [Tryz.f49, tt25, tt23, tt3, decide_eq_false o1, decide_eq_false o2, decide_eq_false o3, decide_eq_false o4, decide_eq_false o5, decide_eq_false o6, decide_eq_true o7, G_nil, G_seq, G_cond, GIf_true, GIf_false, G_block, G_ret, G_region, G_codeR, G_blkR, G_onil, G_op, GG_true, GX_val, GP_some, put_lt, wantedG_none, eq_self, Nat.zero_add, tget_set, tget_of1, nbeq, evalO_tmp, evalO_int, evalO_bool, oval_eq, xnew_eq, get_new_eq, cx_move, cx_assign, cx_box, cx_load, cx_bin, cx_fieldAddr, cx_builtin, loadAt_some, loadIn_cells, xfieldAddr_some, xfa_some, cbin_eql, bi_len, tyAt0, xlen_sl, isJunk, takeN, Value.cells, resAll, resOne, tupV1, Outs_ret, OutR_some, List.toList_toArray, List.map_cons, List.map_nil, List.length_cons, List.length_nil, List.drop_zero, List.drop_succ_cons, List.head?_cons, Nat.add_zero, List.getElem?_cons_zero, List.getElem?_cons_succ, Option.map_some, cond_true, cond_false, decide_true, decide_false, if_true, if_false, Nat.reduceEqDiff]
    exact ⟨trivial, by rw [if_pos (by omega), ← len_cast (k := 1) rfl], kH⟩
  · simp (config := { maxSteps := 1000000 }) (disch := first | omega | ((repeat (first | rw [n_new] | rw [n_put])) <;> omega) | fail) only [Tryz.f49, tt25, tt23, tt3, decide_eq_false o1, decide_eq_false o2, decide_eq_false o3, decide_eq_false o4, decide_eq_false o5, decide_eq_false o6, decide_eq_false o7, G_nil, G_skip, G_seq, G_cond, GIf_false, G_block, G_ret, G_region, G_blkN, G_onil, G_op, GG_true, GX_val, GP_some, put_lt, wantedG_none, eq_self, Nat.zero_add, tget_set, tget_of1, nbeq, evalO_tmp, evalO_int, evalO_bool, oval_eq, xnew_eq, get_new_eq, cx_assign, cx_box, cx_load, cx_bin, cx_fieldAddr, cx_builtin, loadAt_some, loadIn_cells, xfieldAddr_some, xfa_some, cbin_eql, bi_len, tyAt0, xlen_sl, isJunk, takeN, Value.cells, resAll, resOne, tupV1, Outs_ret, OutR_some, List.toList_toArray, List.map_cons, List.map_nil, List.length_cons, List.length_nil, List.drop_zero, List.drop_succ_cons, List.head?_cons, Nat.add_zero, List.getElem?_cons_zero, List.getElem?_cons_succ, Option.map_some, cond_true, cond_false, decide_true, decide_false, if_true, if_false, Nat.reduceEqDiff]
    exact ⟨trivial, by rw [if_neg (by omega)], kH⟩
/-! ### measure -/
def fitT (t : RexT) : Bool := shapedT t && (decide (leavesT t ≤ 400) && decide (deepT t ≤ 16))
theorem deepL_ge : ∀ (op : Int) (l : RexL) (n : Nat), n ≤ deepL op l n
  | op, .nil, n => by unfold deepL; omega
  | op, .cons x l, n => by
    have h2 := deepL_ge op l (max n (deepT x + if wrapV op x.op then 1 else 0))
    unfold deepL; omega
theorem leavesL_drop : ∀ (l : RexL) (i : Nat), leavesL (l.drop i) ≤ leavesL l
  | l, 0 => Nat.le_refl _
  | .nil, _ + 1 => Nat.le_refl _
  | .cons x l, i + 1 => by
    have := leavesL_drop l i
    show leavesL (l.drop i) ≤ _
    rw [leavesL]; omega
def natOr (b : Bool) (n : Nat) : Int := ((bif b then n else 0 : Nat) : Int)
abbrev Meas (ans : Tr (List Value → Option Value)) (eff : Tr (List Value → Hp → Option (Value × Hp))) (x : RexT) : Prop :=
  ∀ (H : Hp) (cs : List Value), wtT x ≤ 100000 → RX H x cs → Has (tE ans eff) 29 [.agg cs.toArray] H fun v H' => v = .tuple #[.bool (fitT x), .int .i64 (natOr (fitT x) (leavesT x)), .int .i64 (natOr (fitT x) (deepT x))] ∧ Keep H H'
set_option maxRecDepth 100000 in
set_option maxHeartbeats 16000000 in
theorem has_measure (N : NoFit ans eff) : ∀ (x : RexT), Meas ans eff x := by
  refine RexT.indT _ fun op set subs ih => ?_
  intro H cs hwt hx
  obtain ⟨hws, hwl⟩ := set_wt hwt
  have hx' := hx
  unfold RX at hx
  obtain ⟨sv, bv, els, rfl, hsv, hbv, hsub⟩ := hx
  obtain ⟨asv, rfl, hls⟩ := hsv.lenP
  obtain ⟨ab, rfl, hlb⟩ := hbv.len
  refine Has.of N.n29 ft29 rfl (Nat.le_of_ble_eq_true rfl) ?_
  have kH : Keep H (H.new (.cells [.int .i64 op, .slice asv set.length set.length, .slice ab els.length els.length] 25 none 0)) := (Keep.refl H).new _
  have hbx : ∀ H', Keep (H.new (.cells [.int .i64 op, .slice asv set.length set.length, .slice ab els.length els.length] 25 none 0)) H' → H'.get H.n = some (.cells [.int .i64 op, .slice asv set.length set.length, .slice ab els.length els.length] 25 none 0) := fun H' k => (k.get (Nat.lt_succ_self _)).trans (get_new_eq rfl)
  have hel := RXL.len hsub
  have hsh : shapedT (.node op set subs) = (arOk op subs.len && (if op = 2 then fitS set else set.isEmpty) && shapedL subs) := by rw [shapedT]
  simp (config := { maxSteps := 1000000 }) (disch := first | omega | ((repeat (first | rw [n_new] | rw [n_put])) <;> omega) | fail) only [Tryz.f29, tt25, ft49, cc49, G_seq, G_region, G_onil, G_op, GG_true, GX_val, GX_enter, GP_some, put_lt, wantedG_none, eq_self, Nat.zero_add, tget_set, tget_of1, evalO_tmp, evalO_int, evalO_bool, evalO_func, oval_eq, xnew_eq, get_new_eq, cx_assign, cx_box, cx_load, cx_call, xcallv_func, loadAt_some, loadIn_cells, isJunk, takeN, Value.cells, List.toList_toArray, List.map_cons, List.map_nil, List.length_cons, List.length_nil, List.append_nil, List.nil_append, List.drop_zero, List.head?_cons, List.getElem?_cons_zero, List.getElem?_cons_succ, Option.map_some, cond_true, cond_false, if_true, if_false, Nat.reduceEqDiff]
  refine GCall.of (has_arity N hws (RX.mono kH _ _ hx')) ?_
  rintro v H1 ⟨rfl, k1⟩
  have g1 := hbx _ k1
  have kH1 := kH.trans k1
  have no : ∀ {b : Bool}, fitT (.node op set subs) = b → b = false → (Value.tuple #[.bool false, .int .i64 0, .int .i64 0] : Value) = .tuple #[.bool (fitT (.node op set subs)), .int .i64 (natOr (fitT (.node op set subs)) (leavesT (.node op set subs))), .int .i64 (natOr (fitT (.node op set subs)) (deepT (.node op set subs)))] := by
    intro b h e; rw [h, e]; rfl
  cases har : (arOk op subs.len && (if op = 2 then fitS set else true)) with
  | false =>
    simp (config := { maxSteps := 1000000 }) (disch := first | omega | ((repeat (first | rw [n_new] | rw [n_put])) <;> omega) | fail) only [isB_undef, G_nil, G_seq, G_cond, GIf_true, G_ret, G_region, G_codeR, G_onil, G_op, GG_true, GG_false, GX_val, GP_some, put_lt, wantedG_none, wantedG_some, wG_some, isB_bool, List.getElem?_toArray, eq_self, tget_set, tget_of1, evalO_tmp, evalO_int, evalO_bool, Tr.get_set, oval_eq, cx_move, cx_assign, cx_pick, xpick_true, cx_un, resAll, resOne, tupV3, Outs_ret, OutR_some, un_not, List.getElem?_cons_zero, List.getElem?_cons_succ, cond_true, Bool.not_false, if_true, if_false, Nat.reduceEqDiff]
    refine ⟨trivial, no rfl ?_, kH1⟩
    rw [fitT, hsh]
    by_cases o2 : op = 2
    · rw [if_pos o2] at har ⊢; rw [har, Bool.false_and, Bool.false_and]
    · rw [if_neg o2, Bool.and_true] at har; rw [har, Bool.false_and, Bool.false_and, Bool.false_and]
  | true =>
    have hse : decide (((set.length : Nat) : Int) > 0) = !set.isEmpty := by
      cases set with
      | nil => rfl
      | cons p l => exact decide_eq_true (by rw [List.length_cons]; omega)
    by_cases o1 : op = 1
    · have o2 : ¬ op = 2 := by omega
      rw [if_neg o2, Bool.and_true] at har
      have hsub0 : shapedL subs = true := by
        rw [o1, arOk, if_pos (by omega), decide_eq_true_eq] at har
        cases subs with
        | nil => rw [shapedL]
        | cons x l => simp [RexL.len] at har
      cases hs : set.isEmpty with
      | false =>
        rw [hs] at hse
        simp (config := { maxSteps := 1000000 }) (disch := first | omega | ((repeat (first | rw [n_new] | rw [n_put])) <;> omega) | fail) only [tt25, tt22, tt3, g1, decide_eq_false o2, hse, G_nil, G_seq, G_cond, GIf_true, G_ret, G_region, G_codeR, G_onil, G_op, GG_true, GX_val, GP_some, put_lt, wantedG_none, wantedG_some, wG_some, isB_bool, List.getElem?_toArray, eq_self, Nat.zero_add, tget_set, tget_of1, nbeq, evalO_tmp, evalO_int, evalO_bool, Tr.get_set, oval_eq, cx_move, cx_assign, cx_pick, xpick_true, xpick_false, cx_load, cx_bin, cx_un, cx_fieldAddr, cx_builtin, loadAt_some, loadIn_cells, xfieldAddr_some, xfa_some, cbin_neq, cbin_gtr, bi_len, tyAt0, xlen_sl, takeN, resAll, resOne, tupV3, Outs_ret, OutR_some, un_not, List.map_cons, List.map_nil, List.drop_zero, List.drop_succ_cons, List.head?_cons, Nat.add_zero, List.getElem?_cons_zero, List.getElem?_cons_succ, Option.map_some, cond_true, cond_false, Bool.not_true, Bool.not_false, decide_true, decide_false, if_true, if_false, Nat.reduceEqDiff]
        refine ⟨trivial, no rfl ?_, kH1⟩
        rw [fitT, hsh, if_neg o2, hs, Bool.and_false, Bool.false_and, Bool.false_and]
      | true =>
        rw [hs] at hse
        simp (config := { maxSteps := 1000000 }) (disch := first | omega | ((repeat (first | rw [n_new] | rw [n_put])) <;> omega) | fail) only [tt25, tt22, tt3, g1, decide_eq_false o2, decide_eq_true o1, hse, G_nil, G_skip, G_seq, G_cond, GIf_true, GIf_false, G_block, G_ret, G_region, G_codeR, G_blkR, G_onil, G_op, GG_true, GX_val, GP_some, put_lt, wantedG_none, wantedG_some, wG_some, isB_bool, List.getElem?_toArray, eq_self, Nat.zero_add, tget_set, tget_of1, nbeq, evalO_tmp, evalO_int, evalO_bool, Tr.get_set, oval_eq, cx_move, cx_assign, cx_pick, xpick_true, xpick_false, cx_load, cx_bin, cx_un, cx_fieldAddr, cx_builtin, loadAt_some, loadIn_cells, xfieldAddr_some, xfa_some, cbin_eql, cbin_neq, cbin_gtr, bi_len, tyAt0, xlen_sl, takeN, resAll, resOne, tupV3, Outs_ret, OutR_some, un_not, List.map_cons, List.map_nil, List.drop_zero, List.drop_succ_cons, List.head?_cons, Nat.add_zero, List.getElem?_cons_zero, List.getElem?_cons_succ, Option.map_some, cond_true, cond_false, Bool.not_true, Bool.not_false, decide_true, decide_false, if_true, if_false, Nat.reduceEqDiff]
        refine ⟨trivial, ?_, kH1⟩
        have hl : leavesT (.node op set subs) = 1 := by rw [leavesT, if_pos (by omega)]
        have hd : deepT (.node op set subs) = 1 := by rw [deepT, if_pos o1]
        have hf : fitT (.node op set subs) = true := by rw [fitT, hsh, if_neg o2, hs, har, hsub0, hl, hd]; rfl
        rw [hf, hl, hd]; rfl
    by_cases o2 : op = 2
    · rw [if_pos o2] at har
      have hsub0 : subs = .nil := by
        rw [o2, arOk, if_pos (by omega), Bool.and_eq_true, decide_eq_true_eq] at har
        cases subs with
        | nil => rfl
        | cons x l => simp [RexL.len] at har
      simp (config := { maxSteps := 1000000 }) (disch := first | omega | ((repeat (first | rw [n_new] | rw [n_put])) <;> omega) | fail) only [tt25, tt3, g1, decide_eq_true o2, decide_eq_false o1, G_nil, G_skip, G_seq, G_cond, GIf_true, GIf_false, G_block, G_ret, G_region, G_codeR, G_blkR, G_onil, G_op, GG_true, GG_false, GX_val, GP_some, put_lt, wantedG_none, wantedG_some, wG_some, isB_bool, List.getElem?_toArray, eq_self, tget_set, tget_of1, nbeq, evalO_tmp, evalO_int, evalO_bool, Tr.get_set, oval_eq, cx_move, cx_assign, cx_pick, xpick_false, cx_load, cx_bin, cx_un, cx_fieldAddr, loadAt_some, loadIn_cells, xfieldAddr_some, xfa_some, cbin_eql, cbin_neq, takeN, resAll, resOne, tupV3, Outs_ret, OutR_some, un_not, List.drop_zero, List.head?_cons, Nat.add_zero, List.getElem?_cons_zero, List.getElem?_cons_succ, Option.map_some, cond_true, cond_false, Bool.not_true, Bool.not_false, decide_true, decide_false, if_true, if_false, Nat.reduceEqDiff]
      refine ⟨trivial, ?_, kH1⟩
      have hl : leavesT (.node op set subs) = 1 := by rw [leavesT, if_pos (by omega)]
      have hd : deepT (.node op set subs) = 0 := by rw [deepT, if_neg o1, hsub0, deepL]
      have hf : fitT (.node op set subs) = true := by rw [fitT, hsh, if_pos o2, har, hl, hd, hsub0, shapedL]; rfl
      rw [hf, hl, hd]; rfl
    rw [if_neg o2, Bool.and_true] at har
    cases hs : set.isEmpty with
    | false =>
      rw [hs] at hse
      simp (config := { maxSteps := 1000000 }) (disch := first | omega | ((repeat (first | rw [n_new] | rw [n_put])) <;> omega) | fail) only [tt25, tt22, tt3, g1, decide_eq_false o2, hse, G_nil, G_seq, G_cond, GIf_true, G_ret, G_region, G_codeR, G_onil, G_op, GG_true, GX_val, GP_some, put_lt, wantedG_none, wantedG_some, wG_some, isB_bool, List.getElem?_toArray, eq_self, Nat.zero_add, tget_set, tget_of1, nbeq, evalO_tmp, evalO_int, evalO_bool, Tr.get_set, oval_eq, cx_move, cx_assign, cx_pick, xpick_true, xpick_false, cx_load, cx_bin, cx_un, cx_fieldAddr, cx_builtin, loadAt_some, loadIn_cells, xfieldAddr_some, xfa_some, cbin_neq, cbin_gtr, bi_len, tyAt0, xlen_sl, takeN, resAll, resOne, tupV3, Outs_ret, OutR_some, un_not, List.map_cons, List.map_nil, List.drop_zero, List.drop_succ_cons, List.head?_cons, Nat.add_zero, List.getElem?_cons_zero, List.getElem?_cons_succ, Option.map_some, cond_true, cond_false, Bool.not_true, Bool.not_false, decide_true, decide_false, if_true, if_false, Nat.reduceEqDiff]
      refine ⟨trivial, no rfl ?_, kH1⟩
      rw [fitT, hsh, if_neg o2, hs, Bool.and_false, Bool.false_and, Bool.false_and]
    | true =>
      rw [hs] at hse
      have hl0 : leavesT (.node op set subs) = leavesL subs := by rw [leavesT, if_neg (by omega)]
      have hd0 : deepT (.node op set subs) = deepL op subs 0 := by rw [deepT, if_neg o1]
      have hf0 : fitT (.node op set subs) = (shapedL subs && (decide (leavesL subs ≤ 400) && decide (deepL op subs 0 ≤ 16))) := by rw [fitT, hsh, if_neg o2, hs, har, hl0, hd0, Bool.true_and, Bool.true_and]
      simp (config := { maxSteps := 1000000 }) (disch := first | omega | ((repeat (first | rw [n_new] | rw [n_put])) <;> omega) | fail) only [tt25, tt23, tt22, tt3, g1, decide_eq_false o2, decide_eq_false o1, hse, G_skip, G_seq, G_cond, GIf_false, G_block, G_region, G_blkN, G_onil, G_op, GG_true, GX_val, GP_some, put_lt, wantedG_none, wantedG_some, wG_some, isB_bool, List.getElem?_toArray, eq_self, Nat.zero_add, tget_set, tget_of1, nbeq, evalO_tmp, evalO_int, evalO_bool, Tr.get_set, oval_eq, cx_move, cx_assign, cx_pick, xpick_true, xpick_false, cx_load, cx_bin, cx_un, cx_fieldAddr, cx_builtin, loadAt_some, loadIn_cells, xfieldAddr_some, xfa_some, cbin_eql, cbin_neq, cbin_gtr, bi_len, tyAt0, xlen_sl, takeN, un_not, List.map_cons, List.map_nil, List.drop_zero, List.drop_succ_cons, List.head?_cons, Nat.add_zero, List.getElem?_cons_zero, List.getElem?_cons_succ, Option.map_some, cond_true, cond_false, Bool.not_true, Bool.not_false, decide_true, decide_false, if_true, if_false, Nat.reduceEqDiff]
      refine G_loop_ind (fun k s => ∃ tm H2 i m n, s = ⟨tm, [], H2⟩ ∧ k + i = els.length ∧ tget tm 1 = .pointer (some ⟨H.n, 0, none⟩) ∧ tget tm 33 = .slice ab els.length els.length ∧ tget tm 34 = .int .i64 ((els.length : Nat) : Int) ∧ tget tm 35 = .int .i64 ((i : Nat) : Int) ∧ tget tm 5 = .int .i64 ((m : Nat) : Int) ∧ tget tm 6 = .int .i64 ((n : Nat) : Int) ∧ Keep (H.new (.cells [.int .i64 op, .slice asv set.length set.length, .slice ab els.length els.length] 25 none 0)) H2 ∧
        m ≤ 400 ∧ n ≤ 16 ∧ m + leavesL (subs.drop i) = leavesL subs ∧ deepL op (subs.drop i) n = deepL op subs 0 ∧ shapedL (subs.drop i) = shapedL subs) ?_ els.length _ ?_
      · rintro k ih2 s ⟨tm, H2, i, m, n, rfl, hk, h1, h33, h34, h35, h5, h6, k2, hm, hnn, hlv, hdp, hss⟩
        have g2 := hbx H2 k2
        have kH2 := kH.trans k2
        by_cases hi : (i : Int) < (els.length : Int)
        · obtain ⟨x, e, hdx, he, hxe⟩ := RXL.at hsub (i := i) (by omega)
          obtain ⟨b, ty, l, r, rfl, hb, hg, hdr, hl3⟩ := hbv.elem he
          have hg2 : H2.get b = some (.cells l ty (some 3) 3) := by rw [kH2.get hb]; exact hg
          have hlx : leavesL (subs.drop i) = leavesT x + leavesL (subs.drop (i + 1)) := by rw [hdx, leavesL]
          have hdx2 : deepL op (subs.drop i) n = deepL op (subs.drop (i + 1)) (max n (deepT x + if wrapV op x.op then 1 else 0)) := by rw [hdx, deepL]
          have hsx : shapedL (subs.drop i) = (shapedT x && shapedL (subs.drop (i + 1))) := by rw [hdx, shapedL]
          have hdge := deepL_ge op (subs.drop (i + 1)) (max n (deepT x + if wrapV op x.op then 1 else 0))
          match e, hl3 with
          | [e0, e1, e2], _ =>
            have hdrx : l.drop (i * 3) = e0 :: e1 :: e2 :: r := hdr
            obtain ⟨a1, n1, a2, n2, rfl, rfl, rfl⟩ := hxe.shape
            simp (config := { maxSteps := 1000000 }) (disch := first | omega | ((repeat (first | rw [n_new] | rw [n_put])) <;> omega) | fail) only [tt25, tt23, h33, h34, h35, hg2, hdrx, decide_eq_true hi, ft29, cc29, G_skip, G_seq, G_cond, GIf_true, G_block, G_region, G_onil, G_op, GG_true, GX_val, GX_skip, GX_enter, GP_some, put_lt, put_none, wantedG_none, eq_self, Nat.zero_add, tget_set, nbeq, nble, evalO_tmp, evalO_func, oval_eq, oskip_some, xnew_eq, get_put_eq, get_new_eq, cx_alloc, cx_load, cx_store, cx_bin, cx_indexAddr, cx_call, xcallv_func, xalloc_some, loadAt_some, loadIn_cells, storeAt_some, storeIn_cells, xindexAddr_some, natOf_nat, xidx_sl, cbin_lss, isJunk, oneC, splice, takeN, Value.cells, List.toList_toArray, List.map_cons, List.map_nil, List.all_cons, List.all_nil, List.length_cons, List.length_nil, List.append_nil, List.nil_append, List.drop_zero, List.head?_cons, Option.map_some, cond_true, cond_false, Bool.and_true, decide_true, if_true, if_false, Nat.reduceAdd, Nat.reduceEqDiff, Nat.reduceLeDiff]
            refine GCall.of (ih i x _ hdx _ _ (wt_at hwl hdx) (RX.mono (Keep.trans kH2 (by repeat (first | assumption | exact Keep.refl _ | refine Keep.new ?_ _ | refine Keep.put ?_ _ (by first | omega | (simp only [n_new, n_put] <;> omega))))) _ _ hxe)) ?_
            rintro v H3 ⟨rfl, k3⟩
            have k23 : Keep H2 H3 := Keep.trans (by repeat (first | assumption | exact Keep.refl _ | refine Keep.new ?_ _ | refine Keep.put ?_ _ (by first | omega | (simp only [n_new, n_put] <;> omega)))) k3
            have g3 : H3.get H2.n = some (.cells [.int .i64 x.op, .slice a1 n1 n1, .slice a2 n2 n2] 25 none 0) := (k3.get (by simp only [n_put, n_new]; omega)).trans (get_put_eq rfl)
            have g4 := hbx H3 (k2.trans k23)
            simp (config := { maxSteps := 1000000 }) (disch := first | omega | ((repeat (first | rw [n_new] | rw [n_put])) <;> omega) | fail) only [tt25, tt3, h1, g3, g4, ft33, cc33, G_seq, G_region, G_onil, G_op, GG_true, GX_val, GX_enter, GP_some, put_lt, wantedG_none, eq_self, tget_set, nbeq, evalO_tmp, evalO_func, oval_eq, cx_move, cx_assign, cx_load, cx_fieldAddr, cx_extract, cx_call, xcallv_func, loadAt_some, loadIn_cells, xfieldAddr_some, xfa_some, xextract_tuple, takeN, List.map_cons, List.map_nil, List.append_nil, List.nil_append, List.drop_zero, List.head?_cons, Nat.add_zero, List.getElem?_cons_zero, List.getElem?_cons_succ, Option.map_some, cond_true, cond_false, decide_true, decide_false, if_true, if_false, Nat.reduceEqDiff]
            refine GCall.of (has_wrapped33 N.n33 rfl rfl) ?_
            rintro v H4 ⟨rfl, k4⟩
            have bad : ∀ {b : Bool}, (shapedT x = true → leavesT x ≤ 400 → deepT x ≤ 16 → m + leavesT x ≤ 400 → max n (deepT x + if wrapV op x.op then 1 else 0) ≤ 16 → False) → fitT (.node op set subs) = false := by
              intro _ hc
              rw [hf0]
              cases hq : (shapedL subs && (decide (leavesL subs ≤ 400) && decide (deepL op subs 0 ≤ 16))) with
              | false => rfl
              | true =>
                simp only [Bool.and_eq_true, decide_eq_true_eq] at hq
                obtain ⟨q1, q2, q3⟩ := hq
                rw [← hss, hsx, Bool.and_eq_true] at q1
                exact (hc q1.1 (by omega) (by omega) (by omega) (by omega)).elim
            cases hw : wrapV op x.op with
            | true =>
              rw [hw, if_pos rfl] at hdx2 hdge bad
              cases hfx : fitT x with
              | false =>
                have hbad := bad (b := true) fun q1 q2 q3 q4 q5 => by
                  rw [fitT, q1, decide_eq_true q2, decide_eq_true q3] at hfx; cases hfx
                simp (config := { maxSteps := 1000000 }) (disch := first | omega | ((repeat (first | rw [n_new] | rw [n_put])) <;> omega) | fail) only [h5, h6, natOr, bi_max, G_nil, G_seq, G_cond, GIf_true, G_ret, G_region, G_codeR, G_lpR, G_blkR, G_onil, G_op, GG_true, GG_false, GX_val, GP_some, put_lt, wantedG_none, wantedG_some, wG_some, isB_bool, List.getElem?_toArray, cast_lit, eq_self, Int.reduceAdd, tget_set, evalO_tmp, evalO_int, evalO_bool, Tr.get_set, oval_eq, cx_move, cx_assign, cx_pick, xpick_true, cx_bin, cx_un, cx_builtin, cbin_add, wrap1, resAll, resOne, tupV3, Outs_ret, OutR_some, un_not, List.map_cons, List.map_nil, List.getElem?_cons_zero, List.getElem?_cons_succ, cond_true, cond_false, Bool.not_false, if_true, if_false, Nat.reduceEqDiff]
                exact ⟨trivial, no rfl hbad, (kH2.trans k23).trans k4⟩
              | true =>
                simp only [fitT, Bool.and_eq_true, decide_eq_true_eq] at hfx
                obtain ⟨q1, q2, q3⟩ := hfx
                have hmx : (if ((deepT x : Nat) : Int) + 1 > ((n : Nat) : Int) then ((deepT x : Nat) : Int) + 1 else ((n : Nat) : Int)) = ((max n (deepT x + 1) : Nat) : Int) := by split <;> omega
                have hw1 : IntKind.i64.wrap (((m : Nat) : Int) + ((leavesT x : Nat) : Int)) = ((m + leavesT x : Nat) : Int) := by rw [wrap_ok (by omega) (by omega)]; omega
                have hw2 : IntKind.i64.wrap (((deepT x : Nat) : Int) + 1) = ((deepT x : Nat) : Int) + 1 := wrap_ok (by omega) (by omega)
                by_cases c1 : ((m + leavesT x : Nat) : Int) > 400
                · simp (config := { maxSteps := 1000000 }) (disch := first | omega | ((repeat (first | rw [n_new] | rw [n_put])) <;> omega) | fail) only [h5, h6, natOr, bi_max, hmx, hw1, hw2, decide_eq_true c1, G_nil, G_seq, G_cond, GIf_true, G_ret, G_region, G_codeR, G_lpR, G_blkR, G_onil, G_op, GG_true, GG_false, GX_val, GP_some, put_lt, wantedG_none, wantedG_some, wG_some, isB_bool, List.getElem?_toArray, eq_self, tget_set, evalO_tmp, evalO_int, evalO_bool, Tr.get_set, oval_eq, cx_move, cx_assign, cx_pick, xpick_true, xpick_false, cx_bin, cx_un, cx_builtin, cbin_add, cbin_gtr, resAll, resOne, tupV3, Outs_ret, OutR_some, un_not, List.map_cons, List.map_nil, List.getElem?_cons_zero, List.getElem?_cons_succ, cond_true, cond_false, Bool.not_true, Bool.not_false, if_true, if_false, Nat.reduceEqDiff]
                  exact ⟨trivial, no rfl (bad (b := true) fun _ _ _ q4 _ => by omega), (kH2.trans k23).trans k4⟩
                · by_cases c2 : ((max n (deepT x + 1) : Nat) : Int) > 16
                  · simp (config := { maxSteps := 1000000 }) (disch := first | omega | ((repeat (first | rw [n_new] | rw [n_put])) <;> omega) | fail) only [h5, h6, natOr, bi_max, hmx, hw1, hw2, decide_eq_false c1, decide_eq_true c2, G_nil, G_seq, G_cond, GIf_true, G_ret, G_region, G_codeR, G_lpR, G_blkR, G_onil, G_op, GG_true, GX_val, GP_some, put_lt, wantedG_none, wantedG_some, wG_some, isB_bool, List.getElem?_toArray, eq_self, tget_set, evalO_tmp, evalO_int, evalO_bool, Tr.get_set, oval_eq, cx_move, cx_assign, cx_pick, xpick_false, cx_bin, cx_un, cx_builtin, cbin_add, cbin_gtr, resAll, resOne, tupV3, Outs_ret, OutR_some, un_not, List.map_cons, List.map_nil, List.getElem?_cons_zero, List.getElem?_cons_succ, cond_true, cond_false, Bool.not_true, Bool.not_false, if_true, if_false, Nat.reduceEqDiff]
                    exact ⟨trivial, no rfl (bad (b := true) fun _ _ _ _ q5 => by omega), (kH2.trans k23).trans k4⟩
                  · simp (config := { maxSteps := 1000000 }) (disch := first | omega | ((repeat (first | rw [n_new] | rw [n_put])) <;> omega) | fail) only [h5, h6, h35, natOr, bi_max, hmx, hw1, hw2, decide_eq_false c1, decide_eq_false c2, G_skip, G_seq, G_cond, GIf_true, GIf_false, G_again, G_region, G_blkN, G_onil, G_op, GG_true, GX_val, GP_some, put_lt, wantedG_none, wantedG_some, wG_some, isB_bool, List.getElem?_toArray, eq_self, tget_set, evalO_tmp, evalO_int, evalO_bool, Tr.get_set, oval_eq, cx_move, cx_assign, cx_pick, xpick_false, cx_bin, cx_un, cx_builtin, cbin_add, cbin_gtr, wrap_nat_add1, un_not, List.map_cons, List.map_nil, List.getElem?_cons_zero, List.getElem?_cons_succ, cond_true, cond_false, Bool.not_true, Bool.not_false, if_true, if_false, Nat.reduceEqDiff]
                    refine ih2 (k - 1) _ (by omega) ⟨_, H4, i + 1, m + leavesT x, max n (deepT x + 1), rfl, by omega, ?_, ?_, ?_, ?_, ?_, ?_, (k2.trans k23).trans k4, by omega, by omega, by omega, by rw [← hdx2]; exact hdp, by rw [← hss, hsx, q1, Bool.true_and]⟩
                    · simp (config := { maxSteps := 1000000 }) (disch := first | omega | ((repeat (first | rw [n_new] | rw [n_put])) <;> omega) | fail) only [h1, eq_self, tget_set, if_false, Nat.reduceEqDiff]
                    · simp (config := { maxSteps := 1000000 }) (disch := first | omega | ((repeat (first | rw [n_new] | rw [n_put])) <;> omega) | fail) only [h33, eq_self, tget_set, if_false, Nat.reduceEqDiff]
                    · simp (config := { maxSteps := 1000000 }) (disch := first | omega | ((repeat (first | rw [n_new] | rw [n_put])) <;> omega) | fail) only [h34, eq_self, tget_set, if_false, Nat.reduceEqDiff]
                    · simp (config := { maxSteps := 1000000 }) (disch := first | omega | ((repeat (first | rw [n_new] | rw [n_put])) <;> omega) | fail) only [h35, eq_self, tget_set, if_true, if_false, Nat.reduceEqDiff]
                    · simp (config := { maxSteps := 1000000 }) (disch := first | omega | ((repeat (first | rw [n_new] | rw [n_put])) <;> omega) | fail) only [eq_self, tget_set, if_true, if_false, Nat.reduceEqDiff]
                    · simp (config := { maxSteps := 1000000 }) (disch := first | omega | ((repeat (first | rw [n_new] | rw [n_put])) <;> omega) | fail) only [eq_self, tget_set, if_true, if_false, Nat.reduceEqDiff]
            | false =>
              simp only [hw, Nat.add_zero, Bool.false_eq_true, if_false] at hdx2 hdge bad
              cases hfx : fitT x with
              | false =>
                have hbad := bad (b := true) fun q1 q2 q3 q4 q5 => by
                  rw [fitT, q1, decide_eq_true q2, decide_eq_true q3] at hfx; cases hfx
                simp (config := { maxSteps := 1000000 }) (disch := first | omega | ((repeat (first | rw [n_new] | rw [n_put])) <;> omega) | fail) only [h5, h6, natOr, bi_max, G_nil, G_skip, G_seq, G_cond, GIf_true, GIf_false, G_ret, G_region, G_codeR, G_lpR, G_blkR, G_onil, G_op, GG_true, GG_false, GX_val, GP_some, put_lt, wantedG_none, wantedG_some, wG_some, isB_bool, List.getElem?_toArray, cast_lit, eq_self, tget_set, evalO_tmp, evalO_int, evalO_bool, Tr.get_set, oval_eq, cx_move, cx_assign, cx_pick, xpick_true, cx_bin, cx_un, cx_builtin, cbin_add, resAll, resOne, tupV3, Outs_ret, OutR_some, un_not, List.map_cons, List.map_nil, List.getElem?_cons_zero, List.getElem?_cons_succ, cond_true, cond_false, Bool.not_false, if_true, if_false, Nat.reduceEqDiff]
                exact ⟨trivial, no rfl hbad, (kH2.trans k23).trans k4⟩
              | true =>
                simp only [fitT, Bool.and_eq_true, decide_eq_true_eq] at hfx
                obtain ⟨q1, q2, q3⟩ := hfx
                have hmx : (if ((deepT x : Nat) : Int) > ((n : Nat) : Int) then ((deepT x : Nat) : Int) else ((n : Nat) : Int)) = ((max n (deepT x) : Nat) : Int) := by split <;> omega
                have hw1 : IntKind.i64.wrap (((m : Nat) : Int) + ((leavesT x : Nat) : Int)) = ((m + leavesT x : Nat) : Int) := by rw [wrap_ok (by omega) (by omega)]; omega
                by_cases c1 : ((m + leavesT x : Nat) : Int) > 400
                · simp (config := { maxSteps := 1000000 }) (disch := first | omega | ((repeat (first | rw [n_new] | rw [n_put])) <;> omega) | fail) only [h5, h6, natOr, bi_max, hmx, hw1, decide_eq_true c1, G_nil, G_skip, G_seq, G_cond, GIf_true, GIf_false, G_ret, G_region, G_codeR, G_lpR, G_blkR, G_onil, G_op, GG_true, GG_false, GX_val, GP_some, put_lt, wantedG_none, wantedG_some, wG_some, isB_bool, List.getElem?_toArray, eq_self, tget_set, evalO_tmp, evalO_int, evalO_bool, Tr.get_set, oval_eq, cx_move, cx_assign, cx_pick, xpick_true, xpick_false, cx_bin, cx_un, cx_builtin, cbin_add, cbin_gtr, resAll, resOne, tupV3, Outs_ret, OutR_some, un_not, List.map_cons, List.map_nil, List.getElem?_cons_zero, List.getElem?_cons_succ, cond_true, cond_false, Bool.not_true, Bool.not_false, if_true, if_false, Nat.reduceEqDiff]
                  exact ⟨trivial, no rfl (bad (b := true) fun _ _ _ q4 _ => by omega), (kH2.trans k23).trans k4⟩
                · by_cases c2 : ((max n (deepT x) : Nat) : Int) > 16
                  · simp (config := { maxSteps := 1000000 }) (disch := first | omega | ((repeat (first | rw [n_new] | rw [n_put])) <;> omega) | fail) only [h5, h6, natOr, bi_max, hmx, hw1, decide_eq_false c1, decide_eq_true c2, G_nil, G_skip, G_seq, G_cond, GIf_true, GIf_false, G_ret, G_region, G_codeR, G_lpR, G_blkR, G_onil, G_op, GG_true, GX_val, GP_some, put_lt, wantedG_none, wantedG_some, wG_some, isB_bool, List.getElem?_toArray, eq_self, tget_set, evalO_tmp, evalO_int, evalO_bool, Tr.get_set, oval_eq, cx_move, cx_assign, cx_pick, xpick_false, cx_bin, cx_un, cx_builtin, cbin_add, cbin_gtr, resAll, resOne, tupV3, Outs_ret, OutR_some, un_not, List.map_cons, List.map_nil, List.getElem?_cons_zero, List.getElem?_cons_succ, cond_true, cond_false, Bool.not_true, Bool.not_false, if_true, if_false, Nat.reduceEqDiff]
                    exact ⟨trivial, no rfl (bad (b := true) fun _ _ _ _ q5 => by omega), (kH2.trans k23).trans k4⟩
                  · simp (config := { maxSteps := 1000000 }) (disch := first | omega | ((repeat (first | rw [n_new] | rw [n_put])) <;> omega) | fail) only [h5, h6, h35, natOr, bi_max, hmx, hw1, decide_eq_false c1, decide_eq_false c2, G_skip, G_seq, G_cond, GIf_false, G_again, G_region, G_blkN, G_onil, G_op, GG_true, GX_val, GP_some, put_lt, wantedG_none, wantedG_some, wG_some, isB_bool, List.getElem?_toArray, eq_self, tget_set, evalO_tmp, evalO_int, evalO_bool, Tr.get_set, oval_eq, cx_move, cx_assign, cx_pick, xpick_false, cx_bin, cx_un, cx_builtin, cbin_add, cbin_gtr, wrap_nat_add1, un_not, List.map_cons, List.map_nil, List.getElem?_cons_zero, List.getElem?_cons_succ, cond_true, cond_false, Bool.not_true, Bool.not_false, if_true, if_false, Nat.reduceEqDiff]
                    refine ih2 (k - 1) _ (by omega) ⟨_, H4, i + 1, m + leavesT x, max n (deepT x), rfl, by omega, ?_, ?_, ?_, ?_, ?_, ?_, (k2.trans k23).trans k4, by omega, by omega, by omega, by rw [← hdx2]; exact hdp, by rw [← hss, hsx, q1, Bool.true_and]⟩
                    · simp (config := { maxSteps := 1000000 }) (disch := first | omega | ((repeat (first | rw [n_new] | rw [n_put])) <;> omega) | fail) only [h1, eq_self, tget_set, if_false, Nat.reduceEqDiff]
                    · simp (config := { maxSteps := 1000000 }) (disch := first | omega | ((repeat (first | rw [n_new] | rw [n_put])) <;> omega) | fail) only [h33, eq_self, tget_set, if_false, Nat.reduceEqDiff]
                    · simp (config := { maxSteps := 1000000 }) (disch := first | omega | ((repeat (first | rw [n_new] | rw [n_put])) <;> omega) | fail) only [h34, eq_self, tget_set, if_false, Nat.reduceEqDiff]
                    · simp (config := { maxSteps := 1000000 }) (disch := first | omega | ((repeat (first | rw [n_new] | rw [n_put])) <;> omega) | fail) only [h35, eq_self, tget_set, if_true, if_false, Nat.reduceEqDiff]
                    · simp (config := { maxSteps := 1000000 }) (disch := first | omega | ((repeat (first | rw [n_new] | rw [n_put])) <;> omega) | fail) only [eq_self, tget_set, if_true, if_false, Nat.reduceEqDiff]
                    · simp (config := { maxSteps := 1000000 }) (disch := first | omega | ((repeat (first | rw [n_new] | rw [n_put])) <;> omega) | fail) only [eq_self, tget_set, if_true, if_false, Nat.reduceEqDiff]
        · simp (config := { maxSteps := 1000000 }) (disch := first | omega | ((repeat (first | rw [n_new] | rw [n_put])) <;> omega) | fail) only [h34, h35, h5, h6, decide_eq_false hi, G_nil, G_seq, G_cond, GIf_false, G_exit, G_ret, G_region, G_codeE, G_lpE, G_blkE, G_onil, G_op, GG_true, GX_val, GP_some, put_lt, wantedG_none, eq_self, tget_set, evalO_tmp, evalO_bool, oval_eq, cx_move, cx_assign, cx_bin, cbin_lss, resAll, resOne, tupV3, Outs_ret, OutR_some, if_true, if_false, Nat.reduceEqDiff]
          have e1 : subs.drop i = .nil := RexL.drop_len (by rw [← RXL.len hsub]; omega)
          rw [e1, leavesL] at hlv
          rw [e1, deepL] at hdp
          rw [e1, shapedL] at hss
          have hf : fitT (.node op set subs) = true := by rw [hf0, ← hss, ← hlv, ← hdp, decide_eq_true (by omega), decide_eq_true (by omega)]; rfl
          refine ⟨trivial, ?_, kH2⟩
          rw [hf, hl0, hd0, ← hlv, ← hdp]; rfl
      · refine ⟨_, _, 0, 0, 0, rfl, rfl, ?_, ?_, ?_, ?_, ?_, ?_, k1, by omega, by omega, by rw [Nat.zero_add]; rfl, rfl, rfl⟩
        all_goals (simp (config := { maxSteps := 1000000 }) (disch := first | omega | ((repeat (first | rw [n_new] | rw [n_put])) <;> omega) | fail) only [cast_lit, eq_self, tget_set, tget_of1, List.getElem?_cons_succ, if_true, if_false, Nat.reduceEqDiff]; first | done | rfl)
set_option maxRecDepth 100000 in
set_option maxHeartbeats 8000000 in
theorem has_fit10 (N : NoFit ans eff) (x : RexT) (H : Hp) (cs : List Value) (hwt : wtT x ≤ 100000) (hx : RX H x cs) : Has (tE ans eff) 10 [.agg cs.toArray] H fun v H' => v = .bool (fitT x) ∧ Keep H H' := by
  cases x with | node op set subs =>
  have hx' := hx
  unfold RX at hx
  obtain ⟨sv, bv, els, rfl, hsv, hbv, hsub⟩ := hx
  obtain ⟨asv, rfl, hls⟩ := hsv.lenP
  obtain ⟨ab, rfl, hlb⟩ := hbv.len
  refine Has.of N.n10 ft10 rfl (Nat.le_of_ble_eq_true rfl) ?_
  have kH : Keep H (H.new (.cells [.int .i64 op, .slice asv set.length set.length, .slice ab els.length els.length] 25 none 0)) := (Keep.refl H).new _
  simp (config := { maxSteps := 1000000 }) (disch := first | omega | ((repeat (first | rw [n_new] | rw [n_put])) <;> omega) | fail) only [Tryz.f10, tt25, ft29, cc29, G_seq, G_region, G_onil, G_op, GG_true, GX_val, GX_enter, GP_some, put_lt, wantedG_none, eq_self, Nat.zero_add, tget_set, tget_of1, evalO_tmp, evalO_bool, evalO_func, oval_eq, xnew_eq, get_new_eq, cx_assign, cx_box, cx_load, cx_call, xcallv_func, loadAt_some, loadIn_cells, isJunk, takeN, Value.cells, List.toList_toArray, List.map_cons, List.map_nil, List.length_cons, List.length_nil, List.append_nil, List.nil_append, List.drop_zero, List.head?_cons, List.getElem?_cons_zero, List.getElem?_cons_succ, Option.map_some, cond_true, cond_false, if_true, if_false, Nat.reduceEqDiff]
  refine GCall.of (has_measure N _ _ _ hwt (RX.mono kH _ _ hx')) ?_
  rintro v H1 ⟨rfl, k1⟩
  simp (config := { maxSteps := 1000000 }) (disch := first | omega | ((repeat (first | rw [n_new] | rw [n_put])) <;> omega) | fail) only [G_nil, G_seq, G_ret, G_region, G_onil, G_op, GG_true, GX_val, GP_some, put_lt, wantedG_none, eq_self, tget_set, tget_of1, evalO_tmp, oval_eq, cx_move, cx_assign, cx_extract, xextract_tuple, resAll, resOne, tupV1, Outs_ret, OutR_some, List.getElem?_cons_zero, List.getElem?_cons_succ, if_true, if_false, Nat.reduceEqDiff]
  exact ⟨trivial, (by first | trivial | rfl), kH.trans k1⟩
mutual
theorem nodes_wt : ∀ (t : RexT) (left : Int), (wtT t : Int) ≤ left → left - wtT t ≤ nodesT t left
  | .node op set subs, left, h => by
    rw [wtT] at h
    have := nodesL_wt subs (left - 1) (by omega)
    rw [nodesT, wtT]; omega
theorem nodesL_wt : ∀ (l : RexL) (left : Int), (wtL l : Int) ≤ left → left - wtL l ≤ nodesL l left
  | .nil, left, h => by rw [nodesL, wtL]; omega
  | .cons x l, left, h => by
    rw [wtL] at h
    have h1 := nodes_wt x left (by omega)
    have h2 := nodesL_wt l (nodesT x left) (by omega)
    rw [nodesL, if_pos (by omega), wtL]; omega
end
set_option maxRecDepth 100000 in
set_option maxHeartbeats 8000000 in
theorem has_fit8 (N : NoFit ans eff) (x : RexT) (H : Hp) (cs : List Value) (hwt : wtT x ≤ 20000) (hx : RX H x cs) : Has (tE ans eff) 8 [.agg cs.toArray] H fun v H' => v = .bool (fitT x) ∧ Keep H H' := by
  cases x with | node op set subs =>
  have hx' := hx
  unfold RX at hx
  obtain ⟨sv, bv, els, rfl, hsv, hbv, hsub⟩ := hx
  obtain ⟨asv, rfl, hls⟩ := hsv.lenP
  obtain ⟨ab, rfl, hlb⟩ := hbv.len
  refine Has.of N.n8 ft8 rfl (Nat.le_of_ble_eq_true rfl) ?_
  have kH : Keep H (H.new (.cells [.int .i64 op, .slice asv set.length set.length, .slice ab els.length els.length] 25 none 0)) := (Keep.refl H).new _
  have hbx : ∀ H', Keep (H.new (.cells [.int .i64 op, .slice asv set.length set.length, .slice ab els.length els.length] 25 none 0)) H' → H'.get H.n = some (.cells [.int .i64 op, .slice asv set.length set.length, .slice ab els.length els.length] 25 none 0) := fun H' k => (k.get (Nat.lt_succ_self _)).trans (get_new_eq rfl)
  simp (config := { maxSteps := 1000000 }) (disch := first | omega | ((repeat (first | rw [n_new] | rw [n_put])) <;> omega) | fail) only [Tryz.f8, tt25, ft24, cc24, G_seq, G_region, G_onil, G_op, GG_true, GX_val, GX_enter, GP_some, put_lt, wantedG_none, eq_self, Nat.zero_add, tget_set, tget_of1, evalO_tmp, evalO_int, evalO_bool, evalO_func, oval_eq, xnew_eq, get_new_eq, cx_assign, cx_box, cx_load, cx_call, xcallv_func, loadAt_some, loadIn_cells, isJunk, takeN, Value.cells, List.toList_toArray, List.map_cons, List.map_nil, List.length_cons, List.length_nil, List.append_nil, List.nil_append, List.drop_zero, List.head?_cons, List.getElem?_cons_zero, List.getElem?_cons_succ, Option.map_some, cond_true, cond_false, if_true, if_false, Nat.reduceEqDiff]
  refine GCall.of (has_nodes N.n24 _ _ _ 20000 (RX.mono kH _ _ hx') (by decide) (by decide)) ?_
  rintro v H1 ⟨rfl, k1⟩
  have g1 := hbx _ k1
  have k1' := kH.trans k1
  have hnd : nodesT (.node op set subs) 20000 ≥ 0 := by
    have := nodes_wt (.node op set subs) 20000 (by omega)
    omega
  simp (config := { maxSteps := 1000000 }) (disch := first | omega | ((repeat (first | rw [n_new] | rw [n_put])) <;> omega) | fail) only [tt25, g1, decide_eq_true hnd, ft25, cc25, G_op, GG_true, GX_val, GX_enter, GP_some, put_lt, wantedG_none, wantedG_some, wG_some, isB_bool, List.getElem?_toArray, eq_self, tget_set, tget_of1, evalO_tmp, evalO_int, evalO_func, Tr.get_set, oval_eq, cx_move, cx_load, cx_bin, cx_call, xcallv_func, loadAt_some, loadIn_cells, cbin_geq, takeN, List.map_cons, List.map_nil, List.append_nil, List.nil_append, List.drop_zero, List.head?_cons, List.getElem?_cons_zero, List.getElem?_cons_succ, Option.map_some, cond_true, Bool.not_true, if_true, if_false, Nat.reduceEqDiff]
  refine GCall.of (has_shaped N.n25 N.n47 N.n66 N.n32 _ _ _ (by omega) (RX.mono k1' _ _ hx')) ?_
  rintro v H2 ⟨rfl, k2⟩
  have g2 := hbx _ (k1.trans k2)
  have k2' := k1'.trans k2
  rw [fitT]
  cases hs : shapedT (.node op set subs) with
  | false =>
    simp (config := { maxSteps := 1000000 }) (disch := first | omega | ((repeat (first | rw [n_new] | rw [n_put])) <;> omega) | fail) only [G_nil, G_ret, G_onil, G_op, GG_true, GG_false, GX_val, GP_some, put_lt, wantedG_none, wantedG_some, wG_some, isB_bool, List.getElem?_toArray, eq_self, tget_set, tget_of1, evalO_tmp, evalO_bool, Tr.get_set, cx_move, cx_assign, cx_pick, xpick_true, xpick_false, resAll, resOne, tupV1, Outs_ret, OutR_some, List.getElem?_cons_zero, List.getElem?_cons_succ, cond_false, Bool.false_and, Bool.not_true, if_true, if_false, Nat.reduceEqDiff]
    exact ⟨trivial, (by first | trivial | rfl), k2'⟩
  | true =>
    simp (config := { maxSteps := 1000000 }) (disch := first | omega | ((repeat (first | rw [n_new] | rw [n_put])) <;> omega) | fail) only [tt25, g2, ft26, cc26, G_op, GG_true, GX_val, GX_enter, GP_some, put_lt, wantedG_none, wantedG_some, wG_some, isB_bool, List.getElem?_toArray, eq_self, tget_set, tget_of1, evalO_tmp, evalO_bool, evalO_func, Tr.get_set, oval_eq, cx_move, cx_pick, xpick_true, cx_load, cx_call, xcallv_func, loadAt_some, loadIn_cells, takeN, List.map_cons, List.map_nil, List.append_nil, List.nil_append, List.drop_zero, List.head?_cons, List.getElem?_cons_zero, List.getElem?_cons_succ, Option.map_some, cond_true, Bool.true_and, Bool.not_true, if_true, if_false, Nat.reduceEqDiff]
    refine GCall.of (has_leaves N.n26 _ _ _ (RX.mono k2' _ _ hx') (by omega)) ?_
    rintro v H3 ⟨rfl, k3⟩
    have g3 := hbx _ ((k1.trans k2).trans k3)
    have k3' := k2'.trans k3
    by_cases hl : ((leavesT (.node op set subs) : Nat) : Int) ≤ 400
    · rw [decide_eq_true (show leavesT (.node op set subs) ≤ 400 by omega)]
      simp (config := { maxSteps := 1000000 }) (disch := first | omega | ((repeat (first | rw [n_new] | rw [n_put])) <;> omega) | fail) only [tt25, g3, decide_eq_true hl, ft27, cc27, G_op, GG_true, GX_val, GX_enter, GP_some, put_lt, wantedG_none, wantedG_some, wG_some, isB_bool, List.getElem?_toArray, eq_self, tget_set, tget_of1, evalO_tmp, evalO_int, evalO_bool, evalO_func, Tr.get_set, oval_eq, cx_move, cx_pick, xpick_true, cx_load, cx_bin, cx_call, xcallv_func, loadAt_some, loadIn_cells, cbin_leq, takeN, List.map_cons, List.map_nil, List.append_nil, List.nil_append, List.drop_zero, List.head?_cons, List.getElem?_cons_zero, List.getElem?_cons_succ, Option.map_some, cond_true, Bool.true_and, Bool.not_true, if_true, if_false, Nat.reduceEqDiff]
      refine GCall.of (has_deep N.n27 N.n48 _ _ _ (RX.mono k3' _ _ hx') (by omega)) ?_
      rintro v H4 ⟨rfl, k4⟩
      simp (config := { maxSteps := 1000000 }) (disch := first | omega | ((repeat (first | rw [n_new] | rw [n_put])) <;> omega) | fail) only [G_nil, G_ret, G_onil, G_op, GG_true, GX_val, GP_some, put_lt, wantedG_none, wantedG_some, wG_some, isB_bool, List.getElem?_toArray, eq_self, tget_set, tget_of1, evalO_tmp, evalO_int, evalO_bool, Tr.get_set, oval_eq, cx_assign, cx_pick, xpick_true, cx_bin, cbin_leq, resAll, resOne, tupV1, Outs_ret, OutR_some, List.getElem?_cons_zero, List.getElem?_cons_succ, cond_true, Bool.not_true, if_true, if_false, Nat.reduceEqDiff]
      exact ⟨trivial, by rw [show decide (((deepT (.node op set subs) : Nat) : Int) ≤ 16) = decide (deepT (.node op set subs) ≤ 16) from decide_eq_decide.2 (by omega)], k3'.trans k4⟩
    · rw [decide_eq_false (show ¬ leavesT (.node op set subs) ≤ 400 by omega)]
      simp (config := { maxSteps := 1000000 }) (disch := first | omega | ((repeat (first | rw [n_new] | rw [n_put])) <;> omega) | fail) only [decide_eq_false hl, G_nil, G_ret, G_onil, G_op, GG_true, GG_false, GX_val, GP_some, put_lt, wantedG_none, wantedG_some, wG_some, isB_bool, List.getElem?_toArray, eq_self, tget_set, tget_of1, evalO_tmp, evalO_int, evalO_bool, Tr.get_set, oval_eq, cx_move, cx_assign, cx_pick, xpick_true, xpick_false, cx_bin, cbin_leq, resAll, resOne, tupV1, Outs_ret, OutR_some, List.getElem?_cons_zero, List.getElem?_cons_succ, cond_true, cond_false, Bool.false_and, Bool.not_true, if_true, if_false, Nat.reduceEqDiff]
      exact ⟨trivial, (by first | trivial | rfl), k3'⟩
end
end Go.Proofs
