/- The reference's measures of an expression, walked (no statement of the program is proved here). -/
import Derived.Test.YtoanfmlpddlcmaaGreatDoorQB
namespace Go.Proofs
open Go Go.PE
noncomputable section
variable {ans : Tr (List Value → Option Value)} {eff : Tr (List Value → Hp → Option (Value × Hp))}
/-- does a part stand in parentheses within another one -/
def wrapV (op xo : Int) : Bool := if op = 3 then decide (xo = 3) || decide (xo = 4) else if op = 4 then decide (xo = 4) else !decide (xo = 2) && !decide (xo = 1)
set_option maxRecDepth 100000 in
set_option maxHeartbeats 8000000 in
theorem has_wrapped48 (hn : (tE ans eff).ans.get 48 = none ∧ (tE ans eff).eff.get 48 = none) {H : Hp} {op xo : Int} {sv bv : Value} (hs : oneC sv = true) (hb : oneC bv = true) : Has (tE ans eff) 48 [.int .i64 op, .agg #[.int .i64 xo, sv, bv]] H fun r H' => r = .bool (wrapV op xo) ∧ Keep H H' := by
  refine Has.of hn ft48 rfl (Nat.le_of_ble_eq_true rfl) ?_
  have hj : isJunk sv = false := by cases sv <;> first | rfl | (cases hs; done)
  unfold wrapV
  by_cases h3 : op = 3
  · by_cases x3 : xo = 3
    · simp (config := { maxSteps := 1000000 }) (disch := first | omega | ((repeat (first | rw [n_new] | rw [n_put])) <;> omega) | fail) only [Tryz.f48, tt25, tt3, decide_eq_true h3, decide_eq_true x3, if_pos h3, Bool.true_or, G_nil, G_seq, G_cond, GIf_true, G_block, G_ret, G_region, G_codeR, G_blkR, G_onil, G_op, GG_true, GG_false, GX_val, GP_some, put_lt, wantedG_none, wantedG_some, wG_some, isB_bool, List.getElem?_toArray, eq_self, Nat.zero_add, tget_set, tget_of2, nbeq, evalO_tmp, evalO_int, evalO_bool, Tr.get_set, oval_eq, xnew_eq, get_new_eq, cx_move, cx_assign, cx_pick, xpick_true, cx_box, cx_load, cx_bin, cx_fieldAddr, loadAt_some, loadIn_cells, xfieldAddr_some, xfa_some, cbin_eql, isJunk, takeN, Value.cells, resAll, resOne, tupV1, Outs_ret, OutR_some, List.toList_toArray, List.length_cons, List.length_nil, List.drop_zero, List.head?_cons, Nat.add_zero, List.getElem?_cons_zero, List.getElem?_cons_succ, Option.map_some, cond_true, cond_false, Bool.not_false, decide_true, decide_false, if_true, if_false, Nat.reduceAdd, Nat.reduceEqDiff]
      exact ⟨trivial, (by first | trivial | rfl), (by repeat (first | assumption | exact Keep.refl _ | refine Keep.new ?_ _ | refine Keep.put ?_ _ (by first | omega | (simp only [n_new, n_put] <;> omega))))⟩
    · simp (config := { maxSteps := 1000000 }) (disch := first | omega | ((repeat (first | rw [n_new] | rw [n_put])) <;> omega) | fail) only [Tryz.f48, tt25, tt3, decide_eq_true h3, decide_eq_false x3, if_pos h3, Bool.false_or, G_nil, G_seq, G_cond, GIf_true, G_block, G_ret, G_region, G_codeR, G_blkR, G_onil, G_op, GG_true, GX_val, GP_some, put_lt, wantedG_none, wantedG_some, wG_some, isB_bool, List.getElem?_toArray, eq_self, Nat.zero_add, tget_set, tget_of2, nbeq, evalO_tmp, evalO_int, evalO_bool, Tr.get_set, oval_eq, xnew_eq, get_new_eq, cx_move, cx_assign, cx_pick, xpick_false, cx_box, cx_load, cx_bin, cx_fieldAddr, loadAt_some, loadIn_cells, xfieldAddr_some, xfa_some, cbin_eql, isJunk, takeN, Value.cells, resAll, resOne, tupV1, Outs_ret, OutR_some, List.toList_toArray, List.length_cons, List.length_nil, List.drop_zero, List.head?_cons, Nat.add_zero, List.getElem?_cons_zero, List.getElem?_cons_succ, Option.map_some, cond_true, cond_false, Bool.not_false, decide_true, decide_false, if_true, if_false, Nat.reduceAdd, Nat.reduceEqDiff]
      exact ⟨trivial, (by first | trivial | rfl), (by repeat (first | assumption | exact Keep.refl _ | refine Keep.new ?_ _ | refine Keep.put ?_ _ (by first | omega | (simp only [n_new, n_put] <;> omega))))⟩
  · by_cases h4 : op = 4
    · simp (config := { maxSteps := 1000000 }) (disch := first | omega | ((repeat (first | rw [n_new] | rw [n_put])) <;> omega) | fail) only [Tryz.f48, tt25, tt3, decide_eq_false h3, decide_eq_true h4, if_neg h3, if_pos h4, G_nil, G_seq, G_cond, GIf_true, GIf_false, G_block, G_ret, G_region, G_codeR, G_blkR, G_onil, G_op, GG_true, GX_val, GP_some, put_lt, wantedG_none, eq_self, Nat.zero_add, tget_set, tget_of2, nbeq, evalO_tmp, evalO_int, evalO_bool, oval_eq, xnew_eq, get_new_eq, cx_move, cx_assign, cx_box, cx_load, cx_bin, cx_fieldAddr, loadAt_some, loadIn_cells, xfieldAddr_some, xfa_some, cbin_eql, isJunk, takeN, Value.cells, resAll, resOne, tupV1, Outs_ret, OutR_some, List.toList_toArray, List.length_cons, List.length_nil, List.drop_zero, List.head?_cons, Nat.add_zero, List.getElem?_cons_zero, List.getElem?_cons_succ, Option.map_some, cond_true, cond_false, decide_true, decide_false, if_true, if_false, Nat.reduceAdd, Nat.reduceEqDiff]
      exact ⟨trivial, (by first | trivial | rfl), (by repeat (first | assumption | exact Keep.refl _ | refine Keep.new ?_ _ | refine Keep.put ?_ _ (by first | omega | (simp only [n_new, n_put] <;> omega))))⟩
    · by_cases x2 : xo = 2
      · simp (config := { maxSteps := 1000000 }) (disch := first | omega | ((repeat (first | rw [n_new] | rw [n_put])) <;> omega) | fail) only [Tryz.f48, tt25, tt3, decide_eq_false h3, decide_eq_false h4, decide_eq_true x2, if_neg h3, if_neg h4, G_nil, G_skip, G_seq, G_cond, GIf_false, G_block, G_ret, G_region, G_blkN, G_onil, G_op, GG_true, GG_false, GX_val, GP_some, put_lt, wantedG_none, wantedG_some, wG_some, isB_bool, List.getElem?_toArray, eq_self, Nat.zero_add, tget_set, tget_of2, nbeq, evalO_tmp, evalO_int, evalO_bool, Tr.get_set, oval_eq, xnew_eq, get_new_eq, cx_move, cx_assign, cx_pick, xpick_false, cx_box, cx_load, cx_bin, cx_fieldAddr, loadAt_some, loadIn_cells, xfieldAddr_some, xfa_some, cbin_eql, cbin_neq, isJunk, takeN, Value.cells, resAll, resOne, tupV1, Outs_ret, OutR_some, List.toList_toArray, List.length_cons, List.length_nil, List.drop_zero, List.head?_cons, Nat.add_zero, List.getElem?_cons_zero, List.getElem?_cons_succ, Option.map_some, cond_true, cond_false, Bool.false_and, Bool.not_true, decide_true, decide_false, if_true, if_false, Nat.reduceAdd, Nat.reduceEqDiff]
        exact ⟨trivial, (by first | trivial | rfl), (by repeat (first | assumption | exact Keep.refl _ | refine Keep.new ?_ _ | refine Keep.put ?_ _ (by first | omega | (simp only [n_new, n_put] <;> omega))))⟩
      · simp (config := { maxSteps := 1000000 }) (disch := first | omega | ((repeat (first | rw [n_new] | rw [n_put])) <;> omega) | fail) only [Tryz.f48, tt25, tt3, decide_eq_false h3, decide_eq_false h4, decide_eq_false x2, if_neg h3, if_neg h4, G_nil, G_skip, G_seq, G_cond, GIf_false, G_block, G_ret, G_region, G_blkN, G_onil, G_op, GG_true, GX_val, GP_some, put_lt, wantedG_none, wantedG_some, wG_some, isB_bool, List.getElem?_toArray, eq_self, Nat.zero_add, tget_set, tget_of2, nbeq, evalO_tmp, evalO_int, evalO_bool, Tr.get_set, oval_eq, xnew_eq, get_new_eq, cx_move, cx_assign, cx_pick, xpick_true, cx_box, cx_load, cx_bin, cx_fieldAddr, loadAt_some, loadIn_cells, xfieldAddr_some, xfa_some, cbin_eql, cbin_neq, isJunk, takeN, Value.cells, resAll, resOne, tupV1, Outs_ret, OutR_some, List.toList_toArray, List.length_cons, List.length_nil, List.drop_zero, List.head?_cons, Nat.add_zero, List.getElem?_cons_zero, List.getElem?_cons_succ, Option.map_some, cond_true, cond_false, Bool.true_and, Bool.not_true, Bool.not_false, decide_true, decide_false, if_true, if_false, Nat.reduceAdd, Nat.reduceEqDiff]
        exact ⟨trivial, (by first | trivial | rfl), (by repeat (first | assumption | exact Keep.refl _ | refine Keep.new ?_ _ | refine Keep.put ?_ _ (by first | omega | (simp only [n_new, n_put] <;> omega))))⟩
set_option maxRecDepth 100000 in
set_option maxHeartbeats 8000000 in
theorem has_wrapped33 (hn : (tE ans eff).ans.get 33 = none ∧ (tE ans eff).eff.get 33 = none) {H : Hp} {op xo : Int} {sv bv : Value} (hs : oneC sv = true) (hb : oneC bv = true) : Has (tE ans eff) 33 [.int .i64 op, .agg #[.int .i64 xo, sv, bv]] H fun r H' => r = .bool (wrapV op xo) ∧ Keep H H' := by
  refine Has.of hn ft33 rfl (Nat.le_of_ble_eq_true rfl) ?_
  have hj : isJunk sv = false := by cases sv <;> first | rfl | (cases hs; done)
  unfold wrapV
  by_cases h3 : op = 3
  · by_cases x3 : xo = 3
    · simp (config := { maxSteps := 1000000 }) (disch := first | omega | ((repeat (first | rw [n_new] | rw [n_put])) <;> omega) | fail) only [Tryz.f33, tt25, tt3, decide_eq_true h3, decide_eq_true x3, if_pos h3, Bool.true_or, G_nil, G_seq, G_cond, GIf_true, G_block, G_ret, G_region, G_codeR, G_blkR, G_onil, G_op, GG_true, GG_false, GX_val, GP_some, put_lt, wantedG_none, wantedG_some, wG_some, isB_bool, List.getElem?_toArray, eq_self, Nat.zero_add, tget_set, tget_of2, nbeq, evalO_tmp, evalO_int, evalO_bool, Tr.get_set, oval_eq, xnew_eq, get_new_eq, cx_move, cx_assign, cx_pick, xpick_true, cx_box, cx_load, cx_bin, cx_fieldAddr, loadAt_some, loadIn_cells, xfieldAddr_some, xfa_some, cbin_eql, isJunk, takeN, Value.cells, resAll, resOne, tupV1, Outs_ret, OutR_some, List.toList_toArray, List.length_cons, List.length_nil, List.drop_zero, List.head?_cons, Nat.add_zero, List.getElem?_cons_zero, List.getElem?_cons_succ, Option.map_some, cond_true, cond_false, Bool.not_false, decide_true, decide_false, if_true, if_false, Nat.reduceAdd, Nat.reduceEqDiff]
      exact ⟨trivial, (by first | trivial | rfl), (by repeat (first | assumption | exact Keep.refl _ | refine Keep.new ?_ _ | refine Keep.put ?_ _ (by first | omega | (simp only [n_new, n_put] <;> omega))))⟩
    · simp (config := { maxSteps := 1000000 }) (disch := first | omega | ((repeat (first | rw [n_new] | rw [n_put])) <;> omega) | fail) only [Tryz.f33, tt25, tt3, decide_eq_true h3, decide_eq_false x3, if_pos h3, Bool.false_or, G_nil, G_seq, G_cond, GIf_true, G_block, G_ret, G_region, G_codeR, G_blkR, G_onil, G_op, GG_true, GX_val, GP_some, put_lt, wantedG_none, wantedG_some, wG_some, isB_bool, List.getElem?_toArray, eq_self, Nat.zero_add, tget_set, tget_of2, nbeq, evalO_tmp, evalO_int, evalO_bool, Tr.get_set, oval_eq, xnew_eq, get_new_eq, cx_move, cx_assign, cx_pick, xpick_false, cx_box, cx_load, cx_bin, cx_fieldAddr, loadAt_some, loadIn_cells, xfieldAddr_some, xfa_some, cbin_eql, isJunk, takeN, Value.cells, resAll, resOne, tupV1, Outs_ret, OutR_some, List.toList_toArray, List.length_cons, List.length_nil, List.drop_zero, List.head?_cons, Nat.add_zero, List.getElem?_cons_zero, List.getElem?_cons_succ, Option.map_some, cond_true, cond_false, Bool.not_false, decide_true, decide_false, if_true, if_false, Nat.reduceAdd, Nat.reduceEqDiff]
      exact ⟨trivial, (by first | trivial | rfl), (by repeat (first | assumption | exact Keep.refl _ | refine Keep.new ?_ _ | refine Keep.put ?_ _ (by first | omega | (simp only [n_new, n_put] <;> omega))))⟩
  · by_cases h4 : op = 4
    · simp (config := { maxSteps := 1000000 }) (disch := first | omega | ((repeat (first | rw [n_new] | rw [n_put])) <;> omega) | fail) only [Tryz.f33, tt25, tt3, decide_eq_false h3, decide_eq_true h4, if_neg h3, if_pos h4, G_nil, G_seq, G_cond, GIf_true, GIf_false, G_block, G_ret, G_region, G_codeR, G_blkR, G_onil, G_op, GG_true, GX_val, GP_some, put_lt, wantedG_none, eq_self, Nat.zero_add, tget_set, tget_of2, nbeq, evalO_tmp, evalO_int, evalO_bool, oval_eq, xnew_eq, get_new_eq, cx_move, cx_assign, cx_box, cx_load, cx_bin, cx_fieldAddr, loadAt_some, loadIn_cells, xfieldAddr_some, xfa_some, cbin_eql, isJunk, takeN, Value.cells, resAll, resOne, tupV1, Outs_ret, OutR_some, List.toList_toArray, List.length_cons, List.length_nil, List.drop_zero, List.head?_cons, Nat.add_zero, List.getElem?_cons_zero, List.getElem?_cons_succ, Option.map_some, cond_true, cond_false, decide_true, decide_false, if_true, if_false, Nat.reduceAdd, Nat.reduceEqDiff]
      exact ⟨trivial, (by first | trivial | rfl), (by repeat (first | assumption | exact Keep.refl _ | refine Keep.new ?_ _ | refine Keep.put ?_ _ (by first | omega | (simp only [n_new, n_put] <;> omega))))⟩
    · by_cases x2 : xo = 2
      · simp (config := { maxSteps := 1000000 }) (disch := first | omega | ((repeat (first | rw [n_new] | rw [n_put])) <;> omega) | fail) only [Tryz.f33, tt25, tt3, decide_eq_false h3, decide_eq_false h4, decide_eq_true x2, if_neg h3, if_neg h4, G_nil, G_skip, G_seq, G_cond, GIf_false, G_block, G_ret, G_region, G_blkN, G_onil, G_op, GG_true, GG_false, GX_val, GP_some, put_lt, wantedG_none, wantedG_some, wG_some, isB_bool, List.getElem?_toArray, eq_self, Nat.zero_add, tget_set, tget_of2, nbeq, evalO_tmp, evalO_int, evalO_bool, Tr.get_set, oval_eq, xnew_eq, get_new_eq, cx_move, cx_assign, cx_pick, xpick_false, cx_box, cx_load, cx_bin, cx_fieldAddr, loadAt_some, loadIn_cells, xfieldAddr_some, xfa_some, cbin_eql, cbin_neq, isJunk, takeN, Value.cells, resAll, resOne, tupV1, Outs_ret, OutR_some, List.toList_toArray, List.length_cons, List.length_nil, List.drop_zero, List.head?_cons, Nat.add_zero, List.getElem?_cons_zero, List.getElem?_cons_succ, Option.map_some, cond_true, cond_false, Bool.false_and, Bool.not_true, decide_true, decide_false, if_true, if_false, Nat.reduceAdd, Nat.reduceEqDiff]
        exact ⟨trivial, (by first | trivial | rfl), (by repeat (first | assumption | exact Keep.refl _ | refine Keep.new ?_ _ | refine Keep.put ?_ _ (by first | omega | (simp only [n_new, n_put] <;> omega))))⟩
      · simp (config := { maxSteps := 1000000 }) (disch := first | omega | ((repeat (first | rw [n_new] | rw [n_put])) <;> omega) | fail) only [Tryz.f33, tt25, tt3, decide_eq_false h3, decide_eq_false h4, decide_eq_false x2, if_neg h3, if_neg h4, G_nil, G_skip, G_seq, G_cond, GIf_false, G_block, G_ret, G_region, G_blkN, G_onil, G_op, GG_true, GX_val, GP_some, put_lt, wantedG_none, wantedG_some, wG_some, isB_bool, List.getElem?_toArray, eq_self, Nat.zero_add, tget_set, tget_of2, nbeq, evalO_tmp, evalO_int, evalO_bool, Tr.get_set, oval_eq, xnew_eq, get_new_eq, cx_move, cx_assign, cx_pick, xpick_true, cx_box, cx_load, cx_bin, cx_fieldAddr, loadAt_some, loadIn_cells, xfieldAddr_some, xfa_some, cbin_eql, cbin_neq, isJunk, takeN, Value.cells, resAll, resOne, tupV1, Outs_ret, OutR_some, List.toList_toArray, List.length_cons, List.length_nil, List.drop_zero, List.head?_cons, Nat.add_zero, List.getElem?_cons_zero, List.getElem?_cons_succ, Option.map_some, cond_true, cond_false, Bool.true_and, Bool.not_true, Bool.not_false, decide_true, decide_false, if_true, if_false, Nat.reduceAdd, Nat.reduceEqDiff]
        exact ⟨trivial, (by first | trivial | rfl), (by repeat (first | assumption | exact Keep.refl _ | refine Keep.new ?_ _ | refine Keep.put ?_ _ (by first | omega | (simp only [n_new, n_put] <;> omega))))⟩
/-! ### nodes -/
mutual
def nodesT : RexT → Int → Int
  | .node _ _ subs, left => nodesL subs (left - 1)
def nodesL : RexL → Int → Int
  | .nil, left => left
  | .cons x l, left => if 0 ≤ left then nodesL l (nodesT x left) else left
end
mutual
theorem nodesT_le : ∀ (t : RexT) (left : Int), nodesT t left ≤ left - 1
  | .node op set subs, left => by
    have := nodesL_le subs (left - 1)
    unfold nodesT; omega
theorem nodesL_le : ∀ (l : RexL) (left : Int), nodesL l left ≤ left
  | .nil, left => by unfold nodesL; omega
  | .cons x l, left => by
    unfold nodesL
    have h1 := nodesT_le x left
    have h2 := nodesL_le l (nodesT x left)
    split <;> omega
end
mutual
theorem nodesT_ge : ∀ (t : RexT) (left : Int), 0 ≤ left → -1 ≤ nodesT t left
  | .node op set subs, left, h => by
    unfold nodesT; exact nodesL_ge subs _ (by omega)
theorem nodesL_ge : ∀ (l : RexL) (left : Int), -1 ≤ left → -1 ≤ nodesL l left
  | .nil, left, h => by unfold nodesL; exact h
  | .cons x l, left, h => by
    unfold nodesL
    split
    · rename_i h0; exact nodesL_ge l _ (nodesT_ge x left h0)
    · exact h
end
set_option maxRecDepth 100000 in
set_option maxHeartbeats 8000000 in
theorem has_nodes (hn : (tE ans eff).ans.get 24 = none ∧ (tE ans eff).eff.get 24 = none) : ∀ (t : RexT) (H : Hp) (cs : List Value) (left : Int), RX H t cs → 0 ≤ left → left ≤ 100000 →
    Has (tE ans eff) 24 [.agg cs.toArray, .int .i64 left] H fun v H' => v = .int .i64 (nodesT t left) ∧ Keep H H' := by
  refine RexT.indT _ fun op set subs ih => ?_
  intro H cs left hx h0 h1
  unfold RX at hx
  obtain ⟨sv, bv, els, rfl, hsv, hbv, hsub⟩ := hx
  obtain ⟨asv, rfl, hls⟩ := hsv.len
  obtain ⟨ab, rfl, hlb⟩ := hbv.len
  rw [List.length_map] at *
  refine Has.of hn ft24 rfl (Nat.le_of_ble_eq_true rfl) ?_
  have hbx : ∀ H', Keep (H.new (.cells [.int .i64 op, .slice asv set.length set.length, .slice ab els.length els.length] 25 none 0)) H' → H'.get H.n = some (.cells [.int .i64 op, .slice asv set.length set.length, .slice ab els.length els.length] 25 none 0) := fun H' k => (k.get (Nat.lt_succ_self _)).trans (get_new_eq rfl)
  have hw1 : IntKind.i64.wrap (left - 1) = left - 1 := wrap_ok (by omega) (by omega)
  simp (config := { maxSteps := 1000000 }) (disch := first | omega | ((repeat (first | rw [n_new] | rw [n_put])) <;> omega) | fail) only [Tryz.f24, hw1, G_seq, G_block, G_region, G_onil, G_op, GG_true, GX_val, GP_some, put_lt, wantedG_none, eq_self, Nat.zero_add, tget_set, tget_of2, evalO_tmp, evalO_int, oval_eq, xnew_eq, cx_move, cx_assign, cx_box, cx_bin, cbin_sub, isJunk, Value.cells, List.toList_toArray, List.length_cons, List.length_nil, List.getElem?_cons_zero, List.getElem?_cons_succ, cond_false, if_true, if_false, Nat.reduceAdd, Nat.reduceEqDiff]
  have hst : nodesT (.node op set subs) left = nodesL subs (left - 1) := by unfold nodesT; rfl
  rw [hst]
  refine G_loop_ind (fun k s => ∃ tm H2 i lf, s = ⟨tm, [], H2⟩ ∧ k + i = els.length ∧ tget tm 2 = .pointer (some ⟨H.n, 0, none⟩) ∧ tget tm 1 = .int .i64 lf ∧ tget tm 5 = .int .i64 ((i : Nat) : Int) ∧ Keep (H.new (.cells [.int .i64 op, .slice asv set.length set.length, .slice ab els.length els.length] 25 none 0)) H2 ∧
    lf ≤ 100000 ∧ nodesL (subs.drop i) lf = nodesL subs (left - 1)) ?_ els.length _ ?_
  · rintro k ih2 s ⟨tm, H2, i, lf, rfl, hk, h2, h1', h5, k2, hlf, hsm⟩
    have g2 := hbx H2 k2
    have kH : Keep H H2 := ((Keep.refl H).new _).trans k2
    by_cases hi : (i : Int) < (els.length : Int)
    · obtain ⟨x, e, hd, he, hxe⟩ := RXL.at hsub (i := i) (by omega)
      by_cases h0' : (0 : Int) ≤ lf
      · obtain ⟨b, ty, l, r, rfl, hb, hg, hdr, hl3⟩ := hbv.elem he
        have hg2 : H2.get b = some (.cells l ty (some 3) 3) := by rw [kH.get hb]; exact hg
        match e, hl3 with
        | [e0, e1, e2], _ =>
          have hdr' : l.drop (i * 3) = e0 :: e1 :: e2 :: r := hdr
          simp (config := { maxSteps := 1000000 }) (disch := first | omega | ((repeat (first | rw [n_new] | rw [n_put])) <;> omega) | fail) only [tt25, tt23, h2, h1', h5, g2, hg2, hdr', decide_eq_true hi, decide_eq_true h0', ft24, cc24, G_skip, G_seq, G_cond, GIf_true, G_block, G_region, G_onil, G_op, GG_true, GX_val, GX_enter, GP_some, put_lt, wantedG_none, wantedG_some, wG_some, isB_bool, List.getElem?_toArray, eq_self, Nat.zero_add, tget_set, nbeq, evalO_tmp, evalO_int, evalO_bool, evalO_func, Tr.get_set, oval_eq, cx_move, cx_pick, xpick_true, cx_load, cx_bin, cx_fieldAddr, cx_indexAddr, cx_call, cx_builtin, xcallv_func, loadAt_some, loadIn_cells, xfieldAddr_some, xfa_some, xindexAddr_some, natOf_nat, xidx_sl, cbin_lss, cbin_geq, bi_len, tyAt0, xlen_sl, takeN, List.map_cons, List.map_nil, List.append_nil, List.nil_append, List.drop_zero, List.drop_succ_cons, List.head?_cons, List.getElem?_cons_zero, List.getElem?_cons_succ, Option.map_some, cond_true, cond_false, Bool.not_true, decide_true, decide_false, if_true, if_false, Nat.reduceEqDiff]
          refine GCall.of (ih i x _ hd H2 [e0, e1, e2] lf (RX.mono kH _ _ hxe) h0' hlf) ?_
          rintro v H3 ⟨rfl, k3⟩
          simp (config := { maxSteps := 1000000 }) (disch := first | omega | ((repeat (first | rw [n_new] | rw [n_put])) <;> omega) | fail) only [h5, G_again, G_region, G_blkN, G_onil, G_op, GG_true, GX_val, GP_some, put_lt, wantedG_none, eq_self, tget_set, evalO_tmp, evalO_int, oval_eq, cx_move, cx_assign, cx_bin, cbin_add, wrap_nat_add1, if_true, if_false, Nat.reduceEqDiff]
          have hle := nodesT_le x lf
          refine ih2 (k - 1) _ (by omega) ⟨_, H3, i + 1, nodesT x lf, rfl, by omega, ?_, ?_, ?_, k2.trans k3, by omega, ?_⟩
          · simp (config := { maxSteps := 1000000 }) (disch := first | omega | ((repeat (first | rw [n_new] | rw [n_put])) <;> omega) | fail) only [h2, eq_self, tget_set, if_false, Nat.reduceEqDiff]
          · simp (config := { maxSteps := 1000000 }) (disch := first | omega | ((repeat (first | rw [n_new] | rw [n_put])) <;> omega) | fail) only [eq_self, tget_set, if_true, if_false, Nat.reduceEqDiff]
          · simp (config := { maxSteps := 1000000 }) (disch := first | omega | ((repeat (first | rw [n_new] | rw [n_put])) <;> omega) | fail) only [h5, eq_self, tget_set, if_true, if_false, Nat.reduceEqDiff]
          · rw [← hsm, hd, nodesL, if_pos h0']
      · simp (config := { maxSteps := 1000000 }) (disch := first | omega | ((repeat (first | rw [n_new] | rw [n_put])) <;> omega) | fail) only [tt25, tt23, h2, h1', h5, g2, decide_eq_true hi, decide_eq_false h0', G_nil, G_seq, G_cond, GIf_false, G_exit, G_ret, G_region, G_codeE, G_lpE, G_blkE, G_onil, G_op, GG_true, GX_val, GP_some, put_lt, wantedG_none, wantedG_some, wG_some, isB_bool, List.getElem?_toArray, eq_self, Nat.zero_add, tget_set, nbeq, evalO_tmp, evalO_int, evalO_bool, Tr.get_set, oval_eq, cx_move, cx_assign, cx_pick, xpick_true, cx_load, cx_bin, cx_fieldAddr, cx_builtin, loadAt_some, loadIn_cells, xfieldAddr_some, xfa_some, cbin_lss, cbin_geq, bi_len, tyAt0, xlen_sl, takeN, resAll, resOne, tupV1, Outs_ret, OutR_some, List.map_cons, List.map_nil, List.drop_zero, List.drop_succ_cons, List.head?_cons, List.getElem?_cons_zero, List.getElem?_cons_succ, Option.map_some, cond_true, cond_false, Bool.not_true, decide_true, decide_false, if_true, if_false, Nat.reduceEqDiff]
        have : nodesL (subs.drop i) lf = lf := by rw [hd, nodesL, if_neg h0']
        rw [← hsm, this]
        exact ⟨trivial, (by first | trivial | rfl), kH⟩
    · simp (config := { maxSteps := 1000000 }) (disch := first | omega | ((repeat (first | rw [n_new] | rw [n_put])) <;> omega) | fail) only [tt25, tt23, h2, h1', h5, g2, decide_eq_false hi, G_nil, G_seq, G_cond, GIf_false, G_exit, G_ret, G_region, G_codeE, G_lpE, G_blkE, G_onil, G_op, GG_true, GG_false, GX_val, GP_some, put_lt, wantedG_none, wantedG_some, wG_some, isB_bool, List.getElem?_toArray, eq_self, Nat.zero_add, tget_set, nbeq, evalO_tmp, evalO_bool, Tr.get_set, oval_eq, cx_move, cx_assign, cx_pick, xpick_false, cx_load, cx_bin, cx_fieldAddr, cx_builtin, loadAt_some, loadIn_cells, xfieldAddr_some, xfa_some, cbin_lss, bi_len, tyAt0, xlen_sl, takeN, resAll, resOne, tupV1, Outs_ret, OutR_some, List.map_cons, List.map_nil, List.drop_zero, List.drop_succ_cons, List.head?_cons, List.getElem?_cons_zero, List.getElem?_cons_succ, Option.map_some, cond_true, cond_false, Bool.not_true, decide_true, decide_false, if_true, if_false, Nat.reduceEqDiff]
      have : subs.drop i = .nil := RexL.drop_len (by rw [← RXL.len hsub]; omega)
      rw [this, nodesL] at hsm
      rw [← hsm]
      exact ⟨trivial, (by first | trivial | rfl), kH⟩
  · refine ⟨_, _, 0, left - 1, rfl, rfl, ?_, ?_, ?_, Keep.refl _, by omega, rfl⟩
    all_goals (simp (config := { maxSteps := 1000000 }) (disch := first | omega | ((repeat (first | rw [n_new] | rw [n_put])) <;> omega) | fail) only [cast_lit, eq_self, tget_set, tget_of2, List.getElem?_cons_zero, List.getElem?_cons_succ, if_true, if_false, Nat.reduceEqDiff]; done)
/-! ### weights -/
mutual
def wtT : RexT → Nat
  | .node _ set subs => 1 + set.length + wtL subs
def wtL : RexL → Nat
  | .nil => 0
  | .cons x l => wtT x + wtL l
end
mutual
theorem small_wt : ∀ (t : RexT) (left : Int), 0 ≤ left → 0 ≤ smallT t left → smallT t left = left - wtT t
  | .node op set subs, left, h0, h => by
    unfold smallT at h ⊢
    unfold wtT
    by_cases hl : 0 ≤ left - 1 - (set.length : Int)
    · have := smallL_wt subs _ hl h
      rw [this]; omega
    · have := smallL_le subs (left - 1 - set.length)
      omega
theorem smallL_wt : ∀ (l : RexL) (left : Int), 0 ≤ left → 0 ≤ smallL l left → smallL l left = left - wtL l
  | .nil, left, h0, h => by unfold smallL wtL; omega
  | .cons x l, left, h0, h => by
    unfold smallL at h ⊢
    unfold wtL
    rw [if_pos h0] at h ⊢
    have h1 := smallL_le l (smallT x left)
    have h2 := small_wt x left h0 (by omega)
    have h3 := smallL_wt l (smallT x left) (by omega) h
    rw [h3, h2]; omega
end
theorem drop_wt : ∀ (l : RexL) (i : Nat), wtL (l.drop i) ≤ wtL l
  | l, 0 => Nat.le_refl _
  | .nil, _ + 1 => Nat.le_refl _
  | .cons x l, i + 1 => by
    have := drop_wt l i
    show wtL (l.drop i) ≤ _
    rw [wtL]; omega
/-! ### leaves, depth -/
mutual
def leavesT : RexT → Nat
  | .node op _ subs => if op = 1 ∨ op = 2 then 1 else leavesL subs
def leavesL : RexL → Nat
  | .nil => 0
  | .cons x l => leavesT x + leavesL l
end
mutual
theorem leaves_wt : ∀ (t : RexT), leavesT t ≤ wtT t
  | .node op set subs => by
    have := leavesL_wt subs
    unfold leavesT wtT; split <;> omega
theorem leavesL_wt : ∀ (l : RexL), leavesL l ≤ wtL l
  | .nil => by unfold leavesL wtL; omega
  | .cons x l => by
    have h1 := leaves_wt x
    have h2 := leavesL_wt l
    unfold leavesL wtL; omega
end
set_option maxRecDepth 100000 in
set_option maxHeartbeats 8000000 in
theorem has_leaves (hn : (tE ans eff).ans.get 26 = none ∧ (tE ans eff).eff.get 26 = none) : ∀ (t : RexT) (H : Hp) (cs : List Value), RX H t cs → wtT t ≤ 100000 →
    Has (tE ans eff) 26 [.agg cs.toArray] H fun v H' => v = .int .i64 ((leavesT t : Nat) : Int) ∧ Keep H H' := by
  refine RexT.indT _ fun op set subs ih => ?_
  intro H cs hx hwt
  unfold RX at hx
  obtain ⟨sv, bv, els, rfl, hsv, hbv, hsub⟩ := hx
  obtain ⟨asv, rfl, hls⟩ := hsv.len
  obtain ⟨ab, rfl, hlb⟩ := hbv.len
  rw [List.length_map] at *
  refine Has.of hn ft26 rfl (Nat.le_of_ble_eq_true rfl) ?_
  have hbx : ∀ H', Keep (H.new (.cells [.int .i64 op, .slice asv set.length set.length, .slice ab els.length els.length] 25 none 0)) H' → H'.get H.n = some (.cells [.int .i64 op, .slice asv set.length set.length, .slice ab els.length els.length] 25 none 0) := fun H' k => (k.get (Nat.lt_succ_self _)).trans (get_new_eq rfl)
  by_cases o1 : op = 1
  · simp (config := { maxSteps := 1000000 }) (disch := first | omega | ((repeat (first | rw [n_new] | rw [n_put])) <;> omega) | fail) only [Tryz.f26, tt25, tt3, decide_eq_true o1, G_nil, G_seq, G_cond, GIf_true, G_ret, G_region, G_codeR, G_onil, G_op, GG_true, GG_false, GX_val, GP_some, put_lt, wantedG_none, wantedG_some, wG_some, isB_bool, List.getElem?_toArray, eq_self, Nat.zero_add, tget_set, tget_of1, nbeq, evalO_tmp, evalO_int, evalO_bool, Tr.get_set, oval_eq, xnew_eq, get_new_eq, cx_move, cx_assign, cx_pick, xpick_true, cx_box, cx_load, cx_bin, cx_fieldAddr, loadAt_some, loadIn_cells, xfieldAddr_some, xfa_some, cbin_eql, isJunk, takeN, Value.cells, resAll, resOne, tupV1, Outs_ret, OutR_some, List.toList_toArray, List.length_cons, List.length_nil, List.drop_zero, List.head?_cons, Nat.add_zero, List.getElem?_cons_zero, List.getElem?_cons_succ, Option.map_some, cond_true, cond_false, Bool.not_false, decide_true, decide_false, if_true, if_false, Nat.reduceEqDiff]
    refine ⟨trivial, ?_, (by repeat (first | assumption | exact Keep.refl _ | refine Keep.new ?_ _ | refine Keep.put ?_ _ (by first | omega | (simp only [n_new, n_put] <;> omega))))⟩
    unfold leavesT; rw [if_pos (.inl o1)]; rfl
  · by_cases o2 : op = 2
    · simp (config := { maxSteps := 1000000 }) (disch := first | omega | ((repeat (first | rw [n_new] | rw [n_put])) <;> omega) | fail) only [Tryz.f26, tt25, tt3, decide_eq_false o1, decide_eq_true o2, G_nil, G_seq, G_cond, GIf_true, G_ret, G_region, G_codeR, G_onil, G_op, GG_true, GX_val, GP_some, put_lt, wantedG_none, wantedG_some, wG_some, isB_bool, List.getElem?_toArray, eq_self, Nat.zero_add, tget_set, tget_of1, nbeq, evalO_tmp, evalO_int, evalO_bool, Tr.get_set, oval_eq, xnew_eq, get_new_eq, cx_move, cx_assign, cx_pick, xpick_false, cx_box, cx_load, cx_bin, cx_fieldAddr, loadAt_some, loadIn_cells, xfieldAddr_some, xfa_some, cbin_eql, isJunk, takeN, Value.cells, resAll, resOne, tupV1, Outs_ret, OutR_some, List.toList_toArray, List.length_cons, List.length_nil, List.drop_zero, List.head?_cons, Nat.add_zero, List.getElem?_cons_zero, List.getElem?_cons_succ, Option.map_some, cond_true, cond_false, Bool.not_false, decide_true, decide_false, if_true, if_false, Nat.reduceEqDiff]
      refine ⟨trivial, ?_, (by repeat (first | assumption | exact Keep.refl _ | refine Keep.new ?_ _ | refine Keep.put ?_ _ (by first | omega | (simp only [n_new, n_put] <;> omega))))⟩
      unfold leavesT; rw [if_pos (.inr o2)]; rfl
    · have hst : leavesT (.node op set subs) = leavesL subs := by unfold leavesT; rw [if_neg (by omega)]
      have hwl : wtL subs ≤ 100000 := by unfold wtT at hwt; omega
      rw [hst]
      simp (config := { maxSteps := 1000000 }) (disch := first | omega | ((repeat (first | rw [n_new] | rw [n_put])) <;> omega) | fail) only [Tryz.f26, tt25, tt3, decide_eq_false o1, decide_eq_false o2, G_skip, G_seq, G_cond, GIf_false, G_block, G_region, G_onil, G_op, GG_true, GX_val, GP_some, put_lt, wantedG_none, wantedG_some, wG_some, isB_bool, List.getElem?_toArray, eq_self, Nat.zero_add, tget_set, tget_of1, nbeq, evalO_tmp, evalO_int, evalO_bool, Tr.get_set, oval_eq, xnew_eq, get_new_eq, cx_move, cx_assign, cx_pick, xpick_false, cx_box, cx_load, cx_bin, cx_fieldAddr, loadAt_some, loadIn_cells, xfieldAddr_some, xfa_some, cbin_eql, isJunk, takeN, Value.cells, List.toList_toArray, List.length_cons, List.length_nil, List.drop_zero, List.head?_cons, Nat.add_zero, List.getElem?_cons_zero, List.getElem?_cons_succ, Option.map_some, cond_true, cond_false, Bool.not_false, decide_true, decide_false, if_true, if_false, Nat.reduceEqDiff]
      refine G_loop_ind (fun k s => ∃ tm H2 i n, s = ⟨tm, [], H2⟩ ∧ k + i = els.length ∧ tget tm 1 = .pointer (some ⟨H.n, 0, none⟩) ∧ tget tm 3 = .int .i64 ((n : Nat) : Int) ∧ tget tm 4 = .int .i64 ((i : Nat) : Int) ∧ Keep (H.new (.cells [.int .i64 op, .slice asv set.length set.length, .slice ab els.length els.length] 25 none 0)) H2 ∧
        n + leavesL (subs.drop i) = leavesL subs) ?_ els.length _ ?_
      · rintro k ih2 s ⟨tm, H2, i, n, rfl, hk, h1, h3, h4, k2, hsm⟩
        have g2 := hbx H2 k2
        have kH : Keep H H2 := ((Keep.refl H).new _).trans k2
        have hlw := leavesL_wt subs
        by_cases hi : (i : Int) < (els.length : Int)
        · obtain ⟨x, e, hd, he, hxe⟩ := RXL.at hsub (i := i) (by omega)
          obtain ⟨b, ty, l, r, rfl, hb, hg, hdr, hl3⟩ := hbv.elem he
          have hg2 : H2.get b = some (.cells l ty (some 3) 3) := by rw [kH.get hb]; exact hg
          have hwx : wtT x ≤ 100000 := by
            have := drop_wt subs i
            rw [hd, wtL] at this; omega
          have hlx : n + leavesT x ≤ 100000 := by
            rw [hd, leavesL] at hsm; omega
          match e, hl3 with
          | [e0, e1, e2], _ =>
            have hdr' : l.drop (i * 3) = e0 :: e1 :: e2 :: r := hdr
            simp (config := { maxSteps := 1000000 }) (disch := first | omega | ((repeat (first | rw [n_new] | rw [n_put])) <;> omega) | fail) only [tt25, tt23, h1, h3, h4, g2, hg2, hdr', decide_eq_true hi, ft26, cc26, G_skip, G_seq, G_cond, GIf_true, G_block, G_region, G_onil, G_op, GG_true, GX_val, GX_enter, GP_some, put_lt, wantedG_none, eq_self, Nat.zero_add, tget_set, nbeq, evalO_tmp, evalO_func, oval_eq, cx_move, cx_load, cx_bin, cx_fieldAddr, cx_indexAddr, cx_call, cx_builtin, xcallv_func, loadAt_some, loadIn_cells, xfieldAddr_some, xfa_some, xindexAddr_some, natOf_nat, xidx_sl, cbin_lss, bi_len, tyAt0, xlen_sl, takeN, List.map_cons, List.map_nil, List.append_nil, List.nil_append, List.drop_zero, List.drop_succ_cons, List.head?_cons, List.getElem?_cons_zero, List.getElem?_cons_succ, Option.map_some, cond_true, cond_false, decide_true, decide_false, if_true, if_false, Nat.reduceEqDiff]
            refine GCall.of (ih i x _ hd H2 [e0, e1, e2] (RX.mono kH _ _ hxe) hwx) ?_
            rintro v H3 ⟨rfl, k3⟩
            simp (config := { maxSteps := 1000000 }) (disch := first | omega | ((repeat (first | rw [n_new] | rw [n_put])) <;> omega) | fail) only [h4, G_again, G_region, G_blkN, G_onil, G_op, GG_true, GX_val, GP_some, put_lt, wantedG_none, eq_self, tget_set, evalO_tmp, evalO_int, oval_eq, cx_move, cx_assign, cx_bin, cbin_add, wrap_nat_add, wrap_nat_add1, if_true, if_false, Nat.reduceEqDiff]
            refine ih2 (k - 1) _ (by omega) ⟨_, H3, i + 1, n + leavesT x, rfl, by omega, ?_, ?_, ?_, k2.trans k3, ?_⟩
            · simp (config := { maxSteps := 1000000 }) (disch := first | omega | ((repeat (first | rw [n_new] | rw [n_put])) <;> omega) | fail) only [h1, eq_self, tget_set, if_false, Nat.reduceEqDiff]
            · simp (config := { maxSteps := 1000000 }) (disch := first | omega | ((repeat (first | rw [n_new] | rw [n_put])) <;> omega) | fail) only [h3, eq_self, tget_set, if_true, if_false, Nat.reduceEqDiff]
            · simp (config := { maxSteps := 1000000 }) (disch := first | omega | ((repeat (first | rw [n_new] | rw [n_put])) <;> omega) | fail) only [h4, eq_self, tget_set, if_true, if_false, Nat.reduceEqDiff]
            · rw [← hsm, hd, leavesL]; omega
        · simp (config := { maxSteps := 1000000 }) (disch := first | omega | ((repeat (first | rw [n_new] | rw [n_put])) <;> omega) | fail) only [tt25, tt23, h1, h3, h4, g2, decide_eq_false hi, G_nil, G_seq, G_cond, GIf_false, G_exit, G_ret, G_region, G_codeE, G_lpE, G_blkE, G_onil, G_op, GG_true, GX_val, GP_some, put_lt, wantedG_none, eq_self, Nat.zero_add, tget_set, nbeq, evalO_tmp, oval_eq, cx_move, cx_assign, cx_load, cx_bin, cx_fieldAddr, cx_builtin, loadAt_some, loadIn_cells, xfieldAddr_some, xfa_some, cbin_lss, bi_len, tyAt0, xlen_sl, takeN, resAll, resOne, tupV1, Outs_ret, OutR_some, List.map_cons, List.map_nil, List.drop_zero, List.drop_succ_cons, List.head?_cons, List.getElem?_cons_zero, List.getElem?_cons_succ, Option.map_some, cond_true, cond_false, decide_true, decide_false, if_true, if_false, Nat.reduceEqDiff]
          have : subs.drop i = .nil := RexL.drop_len (by rw [← RXL.len hsub]; omega)
          rw [this, leavesL] at hsm
          refine ⟨trivial, ?_, kH⟩
          rw [← hsm]; rfl
      · refine ⟨_, _, 0, 0, rfl, rfl, ?_, ?_, ?_, Keep.refl _, by rw [Nat.zero_add]; rfl⟩
        all_goals (simp (config := { maxSteps := 1000000 }) (disch := first | omega | ((repeat (first | rw [n_new] | rw [n_put])) <;> omega) | fail) only [cast_lit, eq_self, tget_set, tget_of1, List.getElem?_cons_succ, if_true, if_false, Nat.reduceEqDiff]; done)
end
end Go.Proofs
