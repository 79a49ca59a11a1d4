/- Functions of the program under the statement RexPlain, walked: where one letter ends (no statement of the program is proved here). -/
import Derived.Test.YtoanfmlpddlcmaaGreatDoorRB
namespace Go.Proofs
open Go Go.PE
noncomputable section
/-- is a letter in a range -/
theorem has_in {H : Hp} {lo hi c : Nat} {b : Nat} (hb : b < H.n) (hc : H.get b = some (.cells [.int .i64 (c : Int)] 3 none 0)) :
    Has rE 61 [.agg #[.int .i64 (lo : Int), .int .i64 (hi : Int)], .pointer (some ⟨b, 0, none⟩)] H fun v H' => v = .bool (decide (lo ≤ c) && decide (c ≤ hi)) ∧ Keep H H' := by
  refine Has.of (rans_none (by decide) (by decide)) ft61 rfl (Nat.le_of_ble_eq_true rfl) ?_
  by_cases h1 : (lo : Int) ≤ (c : Int)
  · have h1' : lo ≤ c := by omega
    by_cases h2 : (c : Int) ≤ (hi : Int)
    · have h2' : c ≤ hi := by omega
      simp (config := { maxSteps := 1000000 }) (disch := first | omega | ((repeat (first | rw [n_new] | rw [n_put])) <;> omega) | fail) only [Tryz.f61, tt62, tt3, hc, decide_eq_true h1, decide_eq_true h2, decide_eq_true h1', decide_eq_true h2', G_nil, G_seq, G_ret, G_region, G_onil, G_op, GG_true, GX_val, GP_some, put_lt, wantedG_none, wantedG_some, wG_some, isB_bool, List.getElem?_toArray, eq_self, Nat.zero_add, tget_set, tget_of2, nbeq, evalO_tmp, evalO_bool, Tr.get_set, oval_eq, xnew_eq, get_new_eq, get_new_ne, cx_move, cx_assign, cx_pick, xpick_true, cx_box, cx_load, cx_bin, cx_fieldAddr, loadAt_some, loadIn_cells, xfieldAddr_some, xfa_some, cbin_leq, isJunk, takeN, Value.cells, resAll, resOne, tupV1, Outs_ret, OutR_some, List.toList_toArray, List.length_cons, List.length_nil, List.drop_zero, List.drop_succ_cons, List.head?_cons, Nat.add_zero, List.getElem?_cons_zero, List.getElem?_cons_succ, Option.map_some, cond_true, cond_false, Bool.and_true, Bool.not_true, decide_true, decide_false, if_true, if_false, Nat.reduceAdd, Nat.reduceEqDiff]
      exact ⟨trivial, trivial, (by repeat (first | assumption | exact Keep.refl _ | refine Keep.new ?_ _ | refine Keep.put ?_ _ (by first | omega | (simp only [n_new, n_put] <;> omega))))⟩
    · have h2' : ¬ c ≤ hi := by omega
      simp (config := { maxSteps := 1000000 }) (disch := first | omega | ((repeat (first | rw [n_new] | rw [n_put])) <;> omega) | fail) only [Tryz.f61, tt62, tt3, hc, decide_eq_true h1, decide_eq_false h2, decide_eq_true h1', decide_eq_false h2', G_nil, G_seq, G_ret, G_region, G_onil, G_op, GG_true, GX_val, GP_some, put_lt, wantedG_none, wantedG_some, wG_some, isB_bool, List.getElem?_toArray, eq_self, Nat.zero_add, tget_set, tget_of2, nbeq, evalO_tmp, evalO_bool, Tr.get_set, oval_eq, xnew_eq, get_new_eq, get_new_ne, cx_move, cx_assign, cx_pick, xpick_true, cx_box, cx_load, cx_bin, cx_fieldAddr, loadAt_some, loadIn_cells, xfieldAddr_some, xfa_some, cbin_leq, isJunk, takeN, Value.cells, resAll, resOne, tupV1, Outs_ret, OutR_some, List.toList_toArray, List.length_cons, List.length_nil, List.drop_zero, List.drop_succ_cons, List.head?_cons, Nat.add_zero, List.getElem?_cons_zero, List.getElem?_cons_succ, Option.map_some, cond_true, cond_false, Bool.and_false, Bool.not_true, decide_true, decide_false, if_true, if_false, Nat.reduceAdd, Nat.reduceEqDiff]
      exact ⟨trivial, trivial, (by repeat (first | assumption | exact Keep.refl _ | refine Keep.new ?_ _ | refine Keep.put ?_ _ (by first | omega | (simp only [n_new, n_put] <;> omega))))⟩
  · have h1' : ¬ lo ≤ c := by omega
    simp (config := { maxSteps := 1000000 }) (disch := first | omega | ((repeat (first | rw [n_new] | rw [n_put])) <;> omega) | fail) only [Tryz.f61, tt62, tt3, hc, decide_eq_false h1, decide_eq_false h1', G_nil, G_seq, G_ret, G_region, G_onil, G_op, GG_true, GG_false, GX_val, GP_some, put_lt, wantedG_none, wantedG_some, wG_some, isB_bool, List.getElem?_toArray, eq_self, Nat.zero_add, tget_set, tget_of2, nbeq, evalO_tmp, evalO_bool, Tr.get_set, oval_eq, xnew_eq, get_new_eq, get_new_ne, cx_move, cx_assign, cx_pick, xpick_false, cx_box, cx_load, cx_bin, cx_fieldAddr, loadAt_some, loadIn_cells, xfieldAddr_some, xfa_some, cbin_leq, isJunk, takeN, Value.cells, resAll, resOne, tupV1, Outs_ret, OutR_some, List.toList_toArray, List.length_cons, List.length_nil, List.drop_zero, List.head?_cons, Nat.add_zero, List.getElem?_cons_zero, List.getElem?_cons_succ, Option.map_some, cond_true, cond_false, Bool.false_and, Bool.not_true, decide_true, decide_false, if_true, if_false, Nat.reduceAdd, Nat.reduceEqDiff]
    exact ⟨trivial, trivial, (by repeat (first | assumption | exact Keep.refl _ | refine Keep.new ?_ _ | refine Keep.put ?_ _ (by first | omega | (simp only [n_new, n_put] <;> omega))))⟩
theorem has_idx {H : Hp} {v : Value} {d c b : Nat} (hv : Set1 H v d) (hb : b < H.n) (hc : H.get b = some (.cells [.int .i64 (c : Int)] 3 none 0)) :
    Has rE 75 [v, .func (.func 61) #[] #[.pointer (some ⟨b, 0, none⟩)]] H fun r H' => r = .int .i64 (if d = c then 0 else -1) ∧ Keep H H' := by
  obtain ⟨bv, rfl, hbv, hg⟩ := hv
  refine Has.of (rans_none (by decide) (by decide)) ft75 rfl (Nat.le_of_ble_eq_true rfl) ?_
  simp (config := { maxSteps := 1000000 }) (disch := first | omega | ((repeat (first | rw [n_new] | rw [n_put])) <;> omega) | fail) only [Tryz.f75, tt22, G_seq, G_block, G_region, G_onil, G_op, GG_true, GX_val, GP_some, put_lt, wantedG_none, cast_lit, eq_self, Int.reduceNeg, Nat.zero_add, tget_set, tget_of2, nbeq, evalO_tmp, evalO_int, cx_move, cx_assign, cx_builtin, bi_len, tyAt0, xlen_sl, List.toList_toArray, List.map_cons, List.map_nil, List.length_cons, List.length_nil, List.getElem?_cons_zero, List.getElem?_cons_succ, cond_true, decide_true, if_true, if_false, Nat.reduceAdd, Nat.reduceEqDiff]
  rw [G_loop]
  simp (config := { maxSteps := 1000000 }) (disch := first | omega | ((repeat (first | rw [n_new] | rw [n_put])) <;> omega) | fail) only [tt22, tt62, hg, ft61, cc61, G_skip, G_seq, G_cond, GIf_true, G_block, G_region, G_onil, G_op, GG_true, GX_val, GX_enter, GP_some, put_lt, wantedG_none, eq_self, Int.reduceLT, Int.reduceNeg, tget_set, tget_of2, nbeq, evalO_tmp, oval_eq, cx_move, cx_assign, cx_load, cx_bin, cx_indexAddr, cx_call, xcallv_func, loadAt_some, loadIn_cells, xindexAddr_some, natOf_lit, xidx_sl, cbin_lss, takeN, List.map_cons, List.map_nil, List.nil_append, List.cons_append, List.drop_zero, List.head?_cons, Nat.add_zero, List.getElem?_cons_zero, List.getElem?_cons_succ, Option.map_some, cond_true, decide_true, if_true, if_false, Nat.reduceEqDiff, Nat.reduceMul]
  refine GCall.of (has_in (lo := d) (hi := d) hb hc) ?_
  rintro u H1 ⟨rfl, k1⟩
  by_cases hd : d = c
  · subst hd
    simp only [Nat.le_refl, decide_true, Bool.and_self, if_true]
    simp (config := { maxSteps := 1000000 }) (disch := first | omega | ((repeat (first | rw [n_new] | rw [n_put])) <;> omega) | fail) only [G_nil, G_seq, G_cond, GIf_true, G_ret, G_region, G_codeR, G_lpR, G_blkR, G_onil, G_op, GG_true, GX_val, GP_some, put_lt, wantedG_none, eq_self, Int.reduceNeg, tget_set, tget_of2, evalO_tmp, cx_move, cx_assign, resAll, resOne, tupV1, Outs_ret, OutR_some, List.getElem?_cons_succ, if_true, if_false, Nat.reduceEqDiff]
    exact ⟨trivial, trivial, (by repeat (first | assumption | exact Keep.refl _ | refine Keep.new ?_ _ | refine Keep.put ?_ _ (by first | omega | (simp only [n_new, n_put] <;> omega))))⟩
  · have : (decide (d ≤ c) && decide (c ≤ d)) = false := by
      cases h : (decide (d ≤ c) && decide (c ≤ d)) with
      | false => rfl
      | true => simp at h; omega
    rw [this, if_neg hd]
    simp (config := { maxSteps := 1000000 }) (disch := first | omega | ((repeat (first | rw [n_new] | rw [n_put])) <;> omega) | fail) only [G_skip, G_cond, GIf_false, G_again, G_region, G_blkN, G_onil, G_op, GG_true, GX_val, GP_some, put_lt, wantedG_none, eq_self, Int.reduceAdd, Int.reduceNeg, tget_set, tget_of2, evalO_tmp, evalO_int, oval_eq, cx_move, cx_bin, cbin_add, wrap1, List.getElem?_cons_succ, if_true, if_false, Nat.reduceEqDiff]
    rw [G_loop]
    simp (config := { maxSteps := 1000000 }) (disch := first | omega | ((repeat (first | rw [n_new] | rw [n_put])) <;> omega) | fail) only [G_nil, G_seq, G_cond, GIf_false, G_exit, G_ret, G_region, G_codeE, G_lpE, G_blkE, G_onil, G_op, GG_true, GX_val, GP_some, put_lt, wantedG_none, eq_self, Int.reduceLT, Int.reduceNeg, tget_set, tget_of2, evalO_tmp, evalO_int, oval_eq, cx_assign, cx_bin, cbin_lss, resAll, resOne, tupV1, Outs_ret, OutR_some, List.getElem?_cons_succ, decide_false, if_true, if_false, Nat.reduceEqDiff]
    exact ⟨trivial, trivial, (by repeat (first | assumption | exact Keep.refl _ | refine Keep.new ?_ _ | refine Keep.put ?_ _ (by first | omega | (simp only [n_new, n_put] <;> omega))))⟩
theorem has_contains {H : Hp} {v : Value} {d c b : Nat} (hv : Set1 H v d) (hb : b < H.n) (hc : H.get b = some (.cells [.int .i64 (c : Int)] 3 none 0)) :
    Has rE 60 [v, .func (.func 61) #[] #[.pointer (some ⟨b, 0, none⟩)]] H fun r H' => r = .bool (decide (d = c)) ∧ Keep H H' := by
  refine Has.of (rans_none (by decide) (by decide)) ft60 rfl (Nat.le_of_ble_eq_true rfl) ?_
  simp (config := { maxSteps := 1000000 }) (disch := first | omega | ((repeat (first | rw [n_new] | rw [n_put])) <;> omega) | fail) only [Tryz.f60, ft75, cc75, G_seq, G_region, G_onil, G_op, GG_true, GX_val, GX_enter, GP_some, put_lt, wantedG_none, eq_self, Nat.zero_add, tget_set, tget_of2, evalO_tmp, evalO_bool, evalO_func, cx_move, cx_assign, cx_call, xcallv_func, List.toList_toArray, List.map_cons, List.map_nil, List.length_cons, List.length_nil, List.append_nil, List.nil_append, List.getElem?_cons_zero, List.getElem?_cons_succ, if_true, if_false, Nat.reduceAdd, Nat.reduceEqDiff]
  refine GCall.of (has_idx hv hb hc) ?_
  rintro u H1 ⟨rfl, k1⟩
  by_cases hd : d = c
  · simp (config := { maxSteps := 1000000 }) (disch := first | omega | ((repeat (first | rw [n_new] | rw [n_put])) <;> omega) | fail) only [hd, G_nil, G_ret, G_onil, G_op, GG_true, GX_val, GP_some, put_lt, wantedG_none, eq_self, Int.reduceLE, Int.reduceNeg, tget_set, tget_of2, evalO_tmp, evalO_int, oval_eq, cx_assign, cx_bin, cbin_geq, resAll, resOne, tupV1, Outs_ret, OutR_some, List.getElem?_cons_succ, decide_true, if_true, if_false, Nat.reduceEqDiff]
    exact ⟨trivial, trivial, (by repeat (first | assumption | exact Keep.refl _ | refine Keep.new ?_ _ | refine Keep.put ?_ _ (by first | omega | (simp only [n_new, n_put] <;> omega))))⟩
  · simp (config := { maxSteps := 1000000 }) (disch := first | omega | ((repeat (first | rw [n_new] | rw [n_put])) <;> omega) | fail) only [hd, G_nil, G_ret, G_onil, G_op, GG_true, GX_val, GP_some, put_lt, wantedG_none, eq_self, Int.reduceLE, Int.reduceNeg, tget_set, tget_of2, evalO_tmp, evalO_int, oval_eq, cx_assign, cx_bin, cbin_geq, resAll, resOne, tupV1, Outs_ret, OutR_some, List.getElem?_cons_succ, decide_false, if_true, if_false, Nat.reduceEqDiff]
    exact ⟨trivial, trivial, (by repeat (first | assumption | exact Keep.refl _ | refine Keep.new ?_ _ | refine Keep.put ?_ _ (by first | omega | (simp only [n_new, n_put] <;> omega))))⟩
end
end Go.Proofs
