/- Functions of the program under the statement RexPlain, walked: where one letter ends (no statement of the program is proved here). -/
import Derived.Test.YtoanfmlpddlcmaaGreatDoorRC
namespace Go.Proofs
open Go Go.PE
noncomputable section
/-- where the letter c, from a place on, ends -/
def setF (S : List UInt8) (c at' : Nat) : List Bool := if at' < S.length then (List.replicate (S.length + 1) false).set (at' + (letN (S.drop at')).2) (decide (0 < (letN (S.drop at')).2) && decide (c = (letN (S.drop at')).1)) else List.replicate (S.length + 1) false
theorem setF_len {S : List UInt8} {c at' : Nat} : (setF S c at').length = S.length + 1 := by
  unfold setF; split <;> simp
/-- a letter, as a part of an expression -/
def LetP (H : Hp) (bk off c : Nat) : Prop := bk < H.n ∧ (∃ l es v, H.get bk = some (.cells l 25 es 0) ∧ l[off]? = some (.int .i64 2) ∧ l[off + 1]? = some v ∧ l[off + 2]? = some (.slice none 0 0) ∧ Set1 H v c)
def RunP (H : Hp) (br mk : Nat) (S : List UInt8) : Prop := H.get br = some (.cells [.string (bs S), .map (some mk)] 48 none 0) ∧ br < H.n
set_option maxRecDepth 100000 in
theorem find_letter {H : Hp} {br mk bk off c at' : Nat} {S : List UInt8} (hr : RunP H br mk S) (hl : LetP H bk off c) (hS : S.length ≤ 100000) (ha : at' ≤ S.length) :
    Has rE 46 [.pointer (some ⟨br, 0, none⟩), .pointer (some ⟨bk, off, none⟩), .int .i64 (at' : Int)] H fun v H' => BAt H' v (setF S c at') ∧ Keep H H' := by
  obtain ⟨hr, hbr⟩ := hr
  obtain ⟨hbk, l, es, v, hg, g0, g1, g2, hs⟩ := hl
  refine Has.of (rans_none (by decide) (by decide)) ft46 rfl (Nat.le_of_ble_eq_true rfl) ?_
  simp (config := { maxSteps := 1000000 }) (disch := first | omega | ((repeat (first | rw [n_new] | rw [n_put])) <;> omega) | fail) only [Tryz.f46, tt48, tt9, tt53, hr, G_seq, G_region, G_onil, G_op, GG_true, GX_val, GP_some, put_lt, wantedG_none, eq_self, Nat.zero_add, tget_set, tget_of3, nbeq, evalO_tmp, evalO_int, evalO_nsl, oval_eq, cx_move, cx_assign, cx_load, cx_nilCheck, cx_bin, cx_makeSlice, cx_fieldAddr, cx_builtin, xnil_ptr, loadAt_some, loadIn_cells, xfieldAddr_some, xfa_some, cbin_add, wrap_nat_add1, bi_len, tyAt0, xlen_str, takeN, List.toList_toArray, List.map_cons, List.map_nil, List.length_cons, List.length_nil, List.drop_zero, List.head?_cons, Nat.add_zero, List.getElem?_cons_zero, List.getElem?_cons_succ, Option.map_some, cond_true, cond_false, decide_true, decide_false, if_true, if_false, Nat.reduceAdd, Nat.reduceEqDiff]
  rw [mk_sl rfl tt4 rfl rfl rfl (by show (S.length + 1) * 2 ≤ 16777216; omega) (by rw [bytes4]; show (S.length + 1) * 1 ≤ 16777216; omega)]
  by_cases hlt : (at' : Int) < (S.length : Int)
  · have hlt' : at' < S.length := by omega
    simp (config := { maxSteps := 1000000 }) (disch := first | omega | ((repeat (first | rw [n_new] | rw [n_put])) <;> omega) | fail) only [tt48, tt25, tt9, tt3, hr, hg, g0, decide_eq_true hlt, ft17, cc17, G_seq, G_cond, GIf_true, G_block, G_region, G_onil, G_op, GG_true, GX_val, GX_enter, GP_some, put_lt, wantedG_none, eq_self, tget_set, tget_of3, nbeq, evalO_tmp, evalO_int, evalO_func, oval_eq, get_new_ne, cx_move, cx_assign, cx_load, cx_nilCheck, cx_bin, cx_slice, cx_fieldAddr, cx_call, cx_builtin, xcallv_func, xnil_ptr, loadAt_some, loadIn_cells, xfieldAddr_some, xfa_some, cbin_eql, cbin_lss, bi_len, tyAt0, xlen_str, cslice_from, takeN, List.map_cons, List.map_nil, List.append_nil, List.nil_append, List.drop_zero, List.head?_cons, List.head?_drop, Nat.add_zero, List.getElem?_cons_zero, List.getElem?_cons_succ, Option.map_some, Option.map_none, cond_true, cond_false, decide_true, decide_false, if_true, if_false, Nat.reduceEqDiff]
    refine GCall.of has_letter ?_
    rintro v1 H1 ⟨rfl, rfl⟩
    obtain ⟨c', n, hcn⟩ : ∃ c' n, letN (S.drop at') = (c', n) := ⟨_, _, rfl⟩
    have hsf : setF S c at' = (List.replicate (S.length + 1) false).set (at' + n) (decide (0 < n) && decide (c = c')) := by
      unfold setF; rw [if_pos hlt', hcn]
    have hn := letN_le hcn
    rw [List.length_drop] at hn
    rw [hcn, hsf]
    dsimp only
    by_cases h0 : (0 : Int) < (n : Int)
    · have h0' : 0 < n := by omega
      simp (config := { maxSteps := 1000000 }) (disch := first | omega | ((repeat (first | rw [n_new] | rw [n_put])) <;> omega) | fail) only [tt25, tt22, tt3, hg, g1, decide_eq_true h0, ft60, cc60, G_region, G_onil, G_op, GG_true, GX_val, GX_skip, GX_enter, GP_some, put_lt, put_none, wantedG_none, wantedG_some, wG_some, isB_bool, List.getElem?_toArray, eq_self, Nat.zero_add, tget_set, tget_of3, nbeq, nble, evalO_tmp, evalO_int, evalO_func, Tr.get_set, oval_eq, oskip_some, xnew_eq, get_put_ne, get_new_eq, get_new_ne, n_new, cx_move, cx_assign, cx_alloc, cx_load, cx_store, cx_nilCheck, cx_bin, cx_makeFunc, cx_fieldAddr, cx_extract, cx_call, xcallv_func, xmakeFunc_eq, xnil_ptr, xalloc_some, loadAt_some, loadIn_cells, storeAt_some, storeIn_cells, xfieldAddr_some, xfa_some, xextract_tuple, cbin_add, cbin_gtr, wrap_nat_add, isJunk, oneC, splice, Value.cells, List.toList_toArray, List.map_cons, List.map_nil, List.all_cons, List.all_nil, List.length_cons, List.length_nil, List.append_nil, List.nil_append, List.head?_drop, List.getElem?_cons_zero, List.getElem?_cons_succ, Option.map_some, cond_true, cond_false, Bool.and_true, Bool.not_true, decide_true, decide_false, if_true, if_false, List.map_toArray, Nat.reduceEqDiff, Nat.reduceLeDiff]
      refine GCall.of (has_contains (d := c) (c := c') (b := H.n + 1) ?_ ?_ ?_) ?_
      · exact Set1.keep (by repeat (first | assumption | exact Keep.refl _ | refine Keep.new ?_ _ | refine Keep.put ?_ _ (by first | omega | (simp only [n_new, n_put] <;> omega)))) hs
      · simp only [n_new, n_put]; omega
      · simp (config := { maxSteps := 1000000 }) (disch := first | omega | ((repeat (first | rw [n_new] | rw [n_put])) <;> omega) | fail) only [eq_self, get_put_eq]
      rintro u H2 ⟨rfl, k2⟩
      have n2 := k2.le
      have q2 : H2.get H.n = some (.cells (List.replicate (S.length + 1) (.bool false)) 4 none 0) := by
        rw [k2.get (by simp only [n_new, n_put]; omega)]
        simp (config := { maxSteps := 1000000 }) (disch := first | omega | ((repeat (first | rw [n_new] | rw [n_put])) <;> omega) | fail) only [eq_self, get_put_ne, get_new_eq, get_new_ne]
      simp only [n_new, n_put] at n2
      simp (config := { maxSteps := 1000000 }) (disch := first | omega | ((repeat (first | rw [n_new] | rw [n_put])) <;> omega) | fail) only [tt53, tt4, q2, G_op, GG_true, GX_val, GP_some, put_lt, wantedG_none, eq_self, Nat.zero_add, tget_set, tget_of3, nbeq, nble, evalO_tmp, evalO_bool, cx_pick, xpick_true, cx_store, cx_indexAddr, storeAt_some, storeIn_cells, xindexAddr_some, natOf_nat, xidx_sl, isJunk, oneC, Value.cells, List.toList_toArray, List.all_cons, List.all_nil, List.length_cons, List.length_nil, Nat.mul_one, List.getElem?_cons_succ, cond_true, cond_false, Bool.and_true, decide_true, if_true, if_false, Nat.reduceEqDiff, Nat.reduceLeDiff]
      rw [splice_one (by rw [List.length_replicate]; omega)]
      simp (config := { maxSteps := 1000000 }) (disch := first | omega | ((repeat (first | rw [n_new] | rw [n_put])) <;> omega) | fail) only [G_nil, G_seq, G_ret, G_region, G_codeR, G_blkR, G_onil, G_op, GG_true, GX_val, GX_skip, GP_some, put_lt, put_none, wantedG_none, eq_self, tget_set, tget_of3, evalO_tmp, oskip_some, cx_move, cx_assign, resAll, resOne, tupV1, Outs_ret, OutR_some, List.getElem?_cons_succ, Option.map_some, if_true, if_false, Nat.reduceEqDiff]
      refine ⟨trivial, ⟨H.n, none, by simp only [List.length_set, List.length_replicate], by rw [n_put]; omega, ?_⟩, ?_⟩
      · rw [get_put_eq rfl, decide_eq_true h0', Bool.true_and, List.map_set, List.map_replicate]
      · exact (Keep.trans (by repeat (first | assumption | exact Keep.refl _ | refine Keep.new ?_ _ | refine Keep.put ?_ _ (by first | omega | (simp only [n_new, n_put] <;> omega)))) k2).put _ (Nat.le_refl _)
    · have h0' : ¬ 0 < n := by omega
      simp (config := { maxSteps := 1000000 }) (disch := first | omega | ((repeat (first | rw [n_new] | rw [n_put])) <;> omega) | fail) only [tt3, tt53, tt4, decide_eq_false h0, G_region, G_onil, G_op, GG_true, GG_false, GX_val, GX_skip, GP_some, put_lt, put_none, wantedG_none, wantedG_some, wG_some, isB_bool, List.getElem?_toArray, eq_self, Nat.zero_add, tget_set, tget_of3, nbeq, nble, evalO_tmp, evalO_int, evalO_bool, Tr.get_set, oval_eq, oskip_some, xnew_eq, get_put_ne, get_new_eq, get_new_ne, n_new, cx_move, cx_assign, cx_pick, xpick_false, cx_alloc, cx_store, cx_bin, cx_indexAddr, cx_extract, xalloc_some, storeAt_some, storeIn_cells, xindexAddr_some, natOf_nat, xidx_sl, xextract_tuple, cbin_add, cbin_gtr, wrap_nat_add, isJunk, oneC, splice, Value.cells, List.toList_toArray, List.all_cons, List.all_nil, List.length_cons, List.length_nil, Nat.mul_one, List.getElem?_cons_zero, List.getElem?_cons_succ, Option.map_some, cond_true, cond_false, Bool.and_true, Bool.not_true, decide_true, if_true, if_false, Nat.reduceEqDiff, Nat.reduceLeDiff]
      rw [splice_one (by rw [List.length_replicate]; omega)]
      simp (config := { maxSteps := 1000000 }) (disch := first | omega | ((repeat (first | rw [n_new] | rw [n_put])) <;> omega) | fail) only [G_nil, G_seq, G_ret, G_region, G_codeR, G_blkR, G_onil, G_op, GG_true, GX_val, GX_skip, GP_some, put_lt, put_none, wantedG_none, eq_self, tget_set, tget_of3, evalO_tmp, oskip_some, cx_move, cx_assign, resAll, resOne, tupV1, Outs_ret, OutR_some, List.getElem?_cons_succ, Option.map_some, if_true, if_false, Nat.reduceEqDiff]
      refine ⟨trivial, ⟨H.n, none, by simp only [List.length_set, List.length_replicate], Nat.lt_succ_of_lt (Nat.lt_succ_self _), ?_⟩, (by repeat (first | assumption | exact Keep.refl _ | refine Keep.new ?_ _ | refine Keep.put ?_ _ (by first | omega | (simp only [n_new, n_put] <;> omega))))⟩
      rw [get_put_eq rfl, decide_eq_false h0', Bool.false_and, List.map_set, List.map_replicate]
  · have hlt' : ¬ at' < S.length := by omega
    simp (config := { maxSteps := 1000000 }) (disch := first | omega | ((repeat (first | rw [n_new] | rw [n_put])) <;> omega) | fail) only [tt48, tt25, tt9, tt3, hr, hg, g0, decide_eq_false hlt, G_nil, G_skip, G_seq, G_cond, GIf_true, GIf_false, G_block, G_ret, G_region, G_codeR, G_blkR, G_onil, G_op, GG_true, GX_val, GP_some, put_lt, wantedG_none, eq_self, tget_set, tget_of3, nbeq, evalO_tmp, evalO_int, oval_eq, get_new_ne, cx_move, cx_assign, cx_load, cx_nilCheck, cx_bin, cx_fieldAddr, cx_builtin, xnil_ptr, loadAt_some, loadIn_cells, xfieldAddr_some, xfa_some, cbin_eql, cbin_lss, bi_len, tyAt0, xlen_str, takeN, resAll, resOne, tupV1, Outs_ret, OutR_some, List.map_cons, List.map_nil, List.drop_zero, List.head?_cons, List.head?_drop, Nat.add_zero, List.getElem?_cons_zero, List.getElem?_cons_succ, Option.map_some, cond_true, cond_false, decide_true, decide_false, if_true, if_false, Nat.reduceEqDiff]
    have hsf : setF S c at' = List.replicate (S.length + 1) false := by unfold setF; rw [if_neg hlt']
    rw [hsf]
    exact ⟨trivial, ⟨H.n, none, by simp only [List.length_replicate], Nat.lt_succ_self _, by rw [get_new_eq rfl, List.map_replicate]⟩, (by repeat (first | assumption | exact Keep.refl _ | refine Keep.new ?_ _ | refine Keep.put ?_ _ (by first | omega | (simp only [n_new, n_put] <;> omega))))⟩
end
end Go.Proofs
