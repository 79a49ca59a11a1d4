/- Functions of the reference under the statement RexPlain, walked: what can be (no statement of the program is proved here). -/
import Derived.Test.YtoanfmlpddlcmaaGreatDoorRJ
namespace Go.Proofs
open Go Go.PE
noncomputable section
theorem SetAt.keep {H H' : Hp} (k : Keep H H') {v : Value} {c : Nat} (h : SetAt H v c) : SetAt H' v c := by
  obtain ⟨b, es, h1, h2, h3⟩ := h
  exact ⟨b, es, h1, Nat.lt_of_lt_of_le h2 k.le, by rw [k.get h2]; exact h3⟩
set_option maxRecDepth 100000 in
set_option maxHeartbeats 8000000 in
theorem has_sameSet {H : Hp} {u v : Value} {c : Nat} (hu : SetAt H u c) (hv : SetAt H v c) : Has rE 32 [u, v] H fun r H' => r = .bool true ∧ Keep H H' := by
  obtain ⟨b, eb, rfl, hb, hg⟩ := hu
  obtain ⟨b', eb', rfl, hb', hg'⟩ := hv
  refine Has.of (rans_none (by decide) (by decide)) ft32 rfl (Nat.le_of_ble_eq_true rfl) ?_
  have hbeq : (!((c : Int) == (c : Int) && (c : Int) == (c : Int))) = false := by simp
  simp (config := { maxSteps := 1000000 }) (disch := first | omega | ((repeat (first | rw [n_new] | rw [n_put])) <;> omega) | fail) only [Tryz.f32, tt22, G_skip, G_seq, G_cond, GIf_false, G_block, G_region, G_onil, G_op, GG_true, GX_val, GP_some, put_lt, wantedG_none, cast_lit, eq_self, Nat.zero_add, tget_set, tget_of2, nbeq, evalO_tmp, evalO_int, evalO_bool, oval_eq, cx_move, cx_assign, cx_bin, cx_builtin, cbin_neq, bi_len, tyAt0, xlen_sl, List.toList_toArray, List.map_cons, List.map_nil, List.length_cons, List.length_nil, List.getElem?_cons_zero, List.getElem?_cons_succ, cond_true, Bool.not_true, decide_true, if_true, if_false, Nat.reduceAdd, Nat.reduceEqDiff]
  rw [G_loop]
  simp (config := { maxSteps := 1000000 }) (disch := first | omega | ((repeat (first | rw [n_new] | rw [n_put])) <;> omega) | fail) only [tt22, G_skip, G_seq, G_cond, GIf_true, G_block, G_region, G_onil, G_op, GG_true, GX_val, GP_some, put_lt, wantedG_none, cast_lit, eq_self, Int.reduceLT, tget_set, tget_of2, nbeq, evalO_tmp, oval_eq, cx_move, cx_bin, cx_builtin, cbin_lss, bi_len, tyAt0, xlen_sl, List.map_cons, List.map_nil, List.getElem?_cons_zero, List.getElem?_cons_succ, cond_true, decide_true, if_true, if_false, Nat.reduceEqDiff]
  rw [G_draw (by kernel_rfl)]
  simp (config := { maxSteps := 1000000 }) (disch := first | omega | ((repeat (first | rw [n_new] | rw [n_put])) <;> omega) | fail) only [tt22, tt62, hg, hg', cbin_neq62, hbeq, G_skip, G_cond, GIf_false, G_again, G_region, G_blkN, G_onil, G_op, GG_true, GX_val, GP_some, put_lt, wantedG_none, eq_self, Int.reduceAdd, tget_set, tget_of2, nbeq, evalO_tmp, evalO_int, oval_eq, cx_move, cx_assign, cx_load, cx_bin, cx_indexAddr, loadAt_some, loadIn_cells, xindexAddr_some, natOf_lit, xidx_sl, cbin_add, wrap1, takeN, List.drop_zero, List.head?_cons, Nat.add_zero, List.getElem?_cons_zero, List.getElem?_cons_succ, Option.map_some, cond_true, decide_true, if_true, if_false, Nat.reduceEqDiff, Nat.reduceMul]
  rw [G_loop]
  simp (config := { maxSteps := 1000000 }) (disch := first | omega | ((repeat (first | rw [n_new] | rw [n_put])) <;> omega) | fail) only [tt22, G_nil, G_seq, G_cond, GIf_false, G_exit, G_ret, G_region, G_codeE, G_lpE, G_blkE, G_onil, G_op, GG_true, GX_val, GP_some, put_lt, wantedG_none, cast_lit, eq_self, Int.reduceLT, tget_set, tget_of2, nbeq, evalO_tmp, evalO_bool, oval_eq, cx_move, cx_assign, cx_bin, cx_builtin, cbin_lss, bi_len, tyAt0, xlen_sl, resAll, resOne, tupV1, Outs_ret, OutR_some, List.map_cons, List.map_nil, List.getElem?_cons_zero, List.getElem?_cons_succ, cond_true, decide_true, decide_false, if_true, if_false, Nat.reduceEqDiff]
  exact ⟨trivial, trivial, (by repeat (first | assumption | exact Keep.refl _ | refine Keep.new ?_ _ | refine Keep.put ?_ _ (by first | omega | (simp only [n_new, n_put] <;> omega))))⟩
set_option maxRecDepth 100000 in
set_option maxHeartbeats 8000000 in
theorem has_fitSet {H : Hp} {v : Value} {c : Nat} (hv : Set1 H v c) (hc : c ≤ 1114111) (hs : c < 55296 ∨ 57344 ≤ c) : Has rE 47 [v] H fun r H' => r = .bool true ∧ Keep H H' := by
  have hv' := hv
  obtain ⟨b, rfl, hb, hg⟩ := hv
  refine Has.of (rans_none (by decide) (by decide)) ft47 rfl (Nat.le_of_ble_eq_true rfl) ?_
  have d1 : decide ((c : Int) < 0) = false := decide_eq_false (by omega)
  have d2 : decide ((1114111 : Int) < (c : Int)) = false := decide_eq_false (by omega)
  have d3 : decide ((c : Int) < (c : Int)) = false := decide_eq_false (by omega)
  simp (config := { maxSteps := 1000000 }) (disch := first | omega | ((repeat (first | rw [n_new] | rw [n_put])) <;> omega) | fail) only [Tryz.f47, G_seq, G_block, G_region, G_onil, G_op, GG_true, GX_val, GP_some, put_lt, wantedG_none, Nat.zero_add, evalO_int, evalO_bool, cx_assign, List.toList_toArray, List.length_cons, List.length_nil]
  rw [G_loop]
  simp (config := { maxSteps := 1000000 }) (disch := first | omega | ((repeat (first | rw [n_new] | rw [n_put])) <;> omega) | fail) only [tt22, G_skip, G_seq, G_cond, GIf_true, G_block, G_region, G_onil, G_op, GG_true, GX_val, GP_some, put_lt, wantedG_none, cast_lit, eq_self, Int.reduceLT, tget_set, tget_of1, nbeq, evalO_tmp, oval_eq, cx_move, cx_bin, cx_builtin, cbin_lss, bi_len, tyAt0, xlen_sl, List.map_cons, List.map_nil, List.getElem?_cons_zero, List.getElem?_cons_succ, cond_true, decide_true, if_true, if_false, Nat.reduceEqDiff]
  rw [G_draw (by kernel_rfl)]
  simp (config := { maxSteps := 1000000 }) (disch := first | omega | ((repeat (first | rw [n_new] | rw [n_put])) <;> omega) | fail) only [tt22, tt62, tt3, hg, d1, d2, d3, G_skip, G_cond, GIf_false, G_again, G_region, G_blkN, G_onil, G_op, GG_true, GX_val, GP_some, put_lt, wantedG_none, wantedG_some, wG_some, isB_bool, List.getElem?_toArray, eq_self, Int.reduceAdd, Nat.zero_add, tget_set, tget_of1, nbeq, evalO_tmp, evalO_int, evalO_bool, Tr.get_set, oval_eq, cx_move, cx_assign, cx_pick, xpick_false, cx_load, cx_bin, cx_fieldAddr, cx_indexAddr, loadAt_some, loadIn_cells, xfieldAddr_some, xfa_some, xindexAddr_some, natOf_lit, xidx_sl, cbin_add, cbin_lss, cbin_gtr, wrap1, takeN, List.drop_zero, List.drop_succ_cons, List.head?_cons, Nat.add_zero, List.getElem?_cons_zero, List.getElem?_cons_succ, Option.map_some, cond_true, cond_false, Bool.not_false, decide_true, decide_false, if_true, if_false, Nat.reduceEqDiff, Nat.reduceMul]
  rw [G_loop]
  simp (config := { maxSteps := 1000000 }) (disch := first | omega | ((repeat (first | rw [n_new] | rw [n_put])) <;> omega) | fail) only [tt22, ft66, cc66, G_seq, G_cond, GIf_false, G_exit, G_region, G_codeE, G_lpE, G_blkE, G_onil, G_op, GG_true, GX_val, GX_enter, GP_some, put_lt, wantedG_none, wantedG_some, wG_some, isB_bool, List.getElem?_toArray, cast_lit, eq_self, Int.reduceLT, tget_set, tget_of1, nbeq, evalO_tmp, evalO_int, evalO_func, Tr.get_set, oval_eq, cx_move, cx_bin, cx_call, cx_builtin, xcallv_func, cbin_lss, cbin_gtr, bi_len, tyAt0, xlen_sl, List.map_cons, List.map_nil, List.append_nil, List.nil_append, List.getElem?_cons_zero, List.getElem?_cons_succ, cond_true, Bool.not_true, decide_true, decide_false, if_true, if_false, Nat.reduceEqDiff]
  refine GCall.of (has_norm hv' hc hs) ?_
  rintro u H1 ⟨hu, k1⟩
  have hu' := hu
  obtain ⟨b1, e1, rfl, hb1, hg1⟩ := hu
  simp (config := { maxSteps := 1000000 }) (disch := first | omega | ((repeat (first | rw [n_new] | rw [n_put])) <;> omega) | fail) only [ft32, cc32, G_op, GG_true, GX_enter, GP_some, put_lt, wantedG_some, wG_some, isB_bool, List.getElem?_toArray, eq_self, tget_set, tget_of1, evalO_tmp, evalO_func, Tr.get_set, cx_call, xcallv_func, List.map_cons, List.map_nil, List.append_nil, List.nil_append, List.getElem?_cons_zero, List.getElem?_cons_succ, cond_true, Bool.not_true, if_true, if_false, Nat.reduceEqDiff]
  refine GCall.of (has_sameSet (hv'.at.keep k1) hu') ?_
  rintro r H2 ⟨rfl, k2⟩
  simp (config := { maxSteps := 1000000 }) (disch := first | omega | ((repeat (first | rw [n_new] | rw [n_put])) <;> omega) | fail) only [G_nil, G_ret, G_onil, G_op, GG_true, GX_val, GP_some, put_lt, wantedG_none, eq_self, tget_set, tget_of1, evalO_tmp, evalO_bool, cx_assign, cx_pick, xpick_true, resAll, resOne, tupV1, Outs_ret, OutR_some, List.getElem?_cons_succ, if_true, if_false, Nat.reduceEqDiff]
  exact ⟨trivial, trivial, k1.trans k2⟩
/-- a row of three cells is one that can be loaded -/
theorem load25 {H : Hp} {b off : Nat} {l : List Value} {es : Option Nat} {ti : TI} {a b' c : Value} (hti : rE.tt.get 25 = some ti) (hg : H.get b = some (.cells l 25 es 0)) (h0 : l[off]? = some a) (h1 : l[off + 1]? = some b') (h2 : l[off + 2]? = some c) :
    loadAt H (some ti) (.pointer (some ⟨b, off, none⟩)) = some (.agg #[a, b', c]) := by
  rw [tt25] at hti; cases hti
  have hd : l.drop off = a :: b' :: c :: l.drop (off + 3) := by
    refine List.ext_getElem? fun j => ?_
    rw [List.getElem?_drop]
    match j with
    | 0 => simpa using h0
    | 1 => simpa using h1
    | 2 => simpa using h2
    | j + 3 => simp only [List.getElem?_cons_succ, List.getElem?_drop]; congr 1; omega
  simp only [loadAt_some, hg, loadIn_cells, hd, cond_true, takeN]; rfl
/-- an expression that is one letter -/
def LV (v : Value) : Value := .agg #[.int .i64 2, v, .slice none 0 0]
/-- several letters, one behind the other -/
def CV (bb k : Nat) : Value := .agg #[.int .i64 3, .slice none 0 0, .slice (some ⟨bb, 0, none⟩) k k]
set_option maxRecDepth 100000 in
set_option maxHeartbeats 8000000 in
theorem has_wrapped {H : Hp} {v : Value} {c : Nat} (hv : Set1 H v c) : Has rE 48 [.int .i64 3, LV v] H fun r H' => r = .bool false ∧ Keep H H' := by
  refine Has.of (rans_none (by decide) (by decide)) ft48 rfl (Nat.le_of_ble_eq_true rfl) ?_
  simp (config := { maxSteps := 1000000 }) (disch := first | omega | ((repeat (first | rw [n_new] | rw [n_put])) <;> omega) | fail) only [Tryz.f48, LV, tt25, tt3, G_nil, G_seq, G_cond, GIf_true, G_block, G_ret, G_region, G_codeR, G_blkR, G_onil, G_op, GG_true, GX_val, GP_some, put_lt, wantedG_none, wantedG_some, wG_some, isB_bool, List.getElem?_toArray, eq_self, Int.reduceEq, Nat.zero_add, tget_set, tget_of2, nbeq, evalO_tmp, evalO_int, evalO_bool, Tr.get_set, oval_eq, xnew_eq, get_new_eq, cx_move, cx_assign, cx_pick, xpick_false, cx_box, cx_load, cx_bin, cx_fieldAddr, loadAt_some, loadIn_cells, xfieldAddr_some, xfa_some, cbin_eql, isJunk, takeN, Value.cells, resAll, resOne, tupV1, Outs_ret, OutR_some, List.toList_toArray, List.length_cons, List.length_nil, List.drop_zero, List.head?_cons, Nat.add_zero, List.getElem?_cons_zero, List.getElem?_cons_succ, Option.map_some, cond_true, cond_false, Bool.not_false, decide_true, decide_false, if_true, if_false, Nat.reduceAdd, Nat.reduceEqDiff]
  exact ⟨trivial, trivial, (by repeat (first | assumption | exact Keep.refl _ | refine Keep.new ?_ _ | refine Keep.put ?_ _ (by first | omega | (simp only [n_new, n_put] <;> omega))))⟩
set_option maxRecDepth 100000 in
set_option maxHeartbeats 8000000 in
theorem nodes_letter {H : Hp} {v : Value} {c n : Nat} (hv : Set1 H v c) (hn : n ≤ 100000) : Has rE 24 [LV v, .int .i64 ((n + 1 : Nat) : Int)] H fun r H' => r = .int .i64 ((n : Nat) : Int) ∧ Keep H H' := by
  refine Has.of (rans_none (by decide) (by decide)) ft24 rfl (Nat.le_of_ble_eq_true rfl) ?_
  have hw : IntKind.i64.wrap (((n + 1 : Nat) : Int) - 1) = ((n : Nat) : Int) := by rw [wrap_ok (by omega) (by omega)]; omega
  simp (config := { maxSteps := 1000000 }) (disch := first | omega | ((repeat (first | rw [n_new] | rw [n_put])) <;> omega) | fail) only [Tryz.f24, LV, hw, G_seq, G_block, G_region, G_onil, G_op, GG_true, GX_val, GP_some, put_lt, wantedG_none, eq_self, Nat.zero_add, tget_set, tget_of2, evalO_tmp, evalO_int, oval_eq, xnew_eq, cx_move, cx_assign, cx_box, cx_bin, cbin_sub, isJunk, Value.cells, List.toList_toArray, List.length_cons, List.length_nil, List.getElem?_cons_zero, List.getElem?_cons_succ, cond_false, if_true, if_false, Nat.reduceAdd, Nat.reduceEqDiff]
  rw [G_loop]
  simp (config := { maxSteps := 1000000 }) (disch := first | omega | ((repeat (first | rw [n_new] | rw [n_put])) <;> omega) | fail) only [tt25, tt23, G_nil, G_seq, G_cond, GIf_false, G_exit, G_ret, G_region, G_codeE, G_lpE, G_blkE, G_onil, G_op, GG_true, GG_false, GX_val, GP_some, put_lt, wantedG_none, wantedG_some, wG_some, isB_bool, List.getElem?_toArray, cast_lit, eq_self, Int.reduceLT, Nat.zero_add, tget_set, tget_of2, nbeq, evalO_tmp, evalO_bool, Tr.get_set, oval_eq, get_new_eq, cx_move, cx_assign, cx_pick, xpick_false, cx_load, cx_bin, cx_fieldAddr, cx_builtin, loadAt_some, loadIn_cells, xfieldAddr_some, xfa_some, cbin_lss, bi_len, tyAt0, xlen_sl, takeN, resAll, resOne, tupV1, Outs_ret, OutR_some, List.map_cons, List.map_nil, List.drop_zero, List.drop_succ_cons, List.head?_cons, List.getElem?_cons_zero, List.getElem?_cons_succ, Option.map_some, cond_true, cond_false, Bool.not_true, decide_true, decide_false, if_true, if_false, Nat.reduceEqDiff]
  exact ⟨trivial, trivial, (by repeat (first | assumption | exact Keep.refl _ | refine Keep.new ?_ _ | refine Keep.put ?_ _ (by first | omega | (simp only [n_new, n_put] <;> omega))))⟩
set_option maxRecDepth 100000 in
set_option maxHeartbeats 8000000 in
theorem leaves_letter {H : Hp} {v : Value} {c : Nat} (hv : Set1 H v c) : Has rE 26 [LV v] H fun r H' => r = .int .i64 1 ∧ Keep H H' := by
  refine Has.of (rans_none (by decide) (by decide)) ft26 rfl (Nat.le_of_ble_eq_true rfl) ?_
  simp (config := { maxSteps := 1000000 }) (disch := first | omega | ((repeat (first | rw [n_new] | rw [n_put])) <;> omega) | fail) only [Tryz.f26, LV, tt25, tt3, G_nil, G_seq, G_cond, GIf_true, G_ret, G_region, G_codeR, G_onil, G_op, GG_true, GX_val, GP_some, put_lt, wantedG_none, wantedG_some, wG_some, isB_bool, List.getElem?_toArray, eq_self, Int.reduceEq, Nat.zero_add, tget_set, tget_of1, nbeq, evalO_tmp, evalO_int, evalO_bool, Tr.get_set, oval_eq, xnew_eq, get_new_eq, cx_move, cx_assign, cx_pick, xpick_false, cx_box, cx_load, cx_bin, cx_fieldAddr, loadAt_some, loadIn_cells, xfieldAddr_some, xfa_some, cbin_eql, isJunk, takeN, Value.cells, resAll, resOne, tupV1, Outs_ret, OutR_some, List.toList_toArray, List.length_cons, List.length_nil, List.drop_zero, List.head?_cons, Nat.add_zero, List.getElem?_cons_zero, List.getElem?_cons_succ, Option.map_some, cond_true, cond_false, Bool.not_false, decide_true, decide_false, if_true, if_false, Nat.reduceEqDiff]
  exact ⟨trivial, trivial, (by repeat (first | assumption | exact Keep.refl _ | refine Keep.new ?_ _ | refine Keep.put ?_ _ (by first | omega | (simp only [n_new, n_put] <;> omega))))⟩
set_option maxRecDepth 100000 in
set_option maxHeartbeats 8000000 in
theorem deep_letter {H : Hp} {v : Value} {c : Nat} (hv : Set1 H v c) : Has rE 27 [LV v] H fun r H' => r = .int .i64 0 ∧ Keep H H' := by
  refine Has.of (rans_none (by decide) (by decide)) ft27 rfl (Nat.le_of_ble_eq_true rfl) ?_
  simp (config := { maxSteps := 1000000 }) (disch := first | omega | ((repeat (first | rw [n_new] | rw [n_put])) <;> omega) | fail) only [Tryz.f27, LV, tt25, tt3, G_skip, G_seq, G_cond, GIf_false, G_block, G_region, G_onil, G_op, GG_true, GX_val, GP_some, put_lt, wantedG_none, eq_self, Int.reduceEq, Nat.zero_add, tget_set, tget_of1, nbeq, evalO_tmp, evalO_int, oval_eq, xnew_eq, get_new_eq, cx_assign, cx_box, cx_load, cx_bin, cx_fieldAddr, loadAt_some, loadIn_cells, xfieldAddr_some, xfa_some, cbin_eql, isJunk, takeN, Value.cells, List.toList_toArray, List.length_cons, List.length_nil, List.drop_zero, List.head?_cons, Nat.add_zero, List.getElem?_cons_zero, List.getElem?_cons_succ, Option.map_some, cond_true, cond_false, decide_true, decide_false, if_true, if_false, Nat.reduceEqDiff]
  rw [G_loop]
  simp (config := { maxSteps := 1000000 }) (disch := first | omega | ((repeat (first | rw [n_new] | rw [n_put])) <;> omega) | fail) only [tt25, tt23, G_nil, G_seq, G_cond, GIf_false, G_exit, G_ret, G_region, G_codeE, G_lpE, G_blkE, G_onil, G_op, GG_true, GX_val, GP_some, put_lt, wantedG_none, cast_lit, eq_self, Int.reduceLT, Nat.zero_add, tget_set, tget_of1, nbeq, evalO_tmp, oval_eq, get_new_eq, cx_move, cx_assign, cx_load, cx_bin, cx_fieldAddr, cx_builtin, loadAt_some, loadIn_cells, xfieldAddr_some, xfa_some, cbin_lss, bi_len, tyAt0, xlen_sl, takeN, resAll, resOne, tupV1, Outs_ret, OutR_some, List.map_cons, List.map_nil, List.drop_zero, List.drop_succ_cons, List.head?_cons, List.getElem?_cons_zero, List.getElem?_cons_succ, Option.map_some, cond_true, cond_false, decide_true, decide_false, if_true, if_false, Nat.reduceEqDiff]
  exact ⟨trivial, trivial, (by repeat (first | assumption | exact Keep.refl _ | refine Keep.new ?_ _ | refine Keep.put ?_ _ (by first | omega | (simp only [n_new, n_put] <;> omega))))⟩
set_option maxRecDepth 100000 in
set_option maxHeartbeats 8000000 in
theorem shaped_letter {H : Hp} {v : Value} {c : Nat} (hv : Set1 H v c) (hc : c ≤ 1114111) (hs : c < 55296 ∨ 57344 ≤ c) : Has rE 25 [LV v] H fun r H' => r = .bool true ∧ Keep H H' := by
  have hv' := hv
  obtain ⟨b, rfl, hb, hg⟩ := hv
  refine Has.of (rans_none (by decide) (by decide)) ft25 rfl (Nat.le_of_ble_eq_true rfl) ?_
  simp (config := { maxSteps := 1000000 }) (disch := first | omega | ((repeat (first | rw [n_new] | rw [n_put])) <;> omega) | fail) only [Tryz.f25, LV, tt25, tt23, tt22, tt3, ft47, cc47, G_seq, G_cond, GIf_true, GIf_false, G_block, G_region, G_blkN, G_onil, G_op, GG_true, GX_val, GX_enter, GP_some, put_lt, wantedG_none, wantedG_some, wG_some, isB_bool, List.getElem?_toArray, cast_lit, eq_self, Int.reduceEq, Nat.zero_add, tget_set, tget_of1, nbeq, evalO_tmp, evalO_int, evalO_bool, evalO_func, Tr.get_set, oval_eq, xnew_eq, get_new_eq, cx_move, cx_assign, cx_box, cx_load, cx_bin, cx_un, cx_fieldAddr, cx_call, cx_builtin, xcallv_func, loadAt_some, loadIn_cells, xfieldAddr_some, xfa_some, cbin_eql, bi_len, tyAt0, xlen_sl, isJunk, takeN, Value.cells, un_not, List.toList_toArray, List.map_cons, List.map_nil, List.length_cons, List.length_nil, List.append_nil, List.nil_append, List.drop_zero, List.drop_succ_cons, List.head?_cons, Nat.add_zero, List.getElem?_cons_zero, List.getElem?_cons_succ, Option.map_some, cond_true, cond_false, Bool.not_true, Bool.not_false, decide_true, decide_false, if_true, if_false, Nat.reduceEqDiff]
  refine GCall.of (has_fitSet (Set1.keep ?_ hv') hc hs) ?_
  · exact (by repeat (first | assumption | exact Keep.refl _ | refine Keep.new ?_ _ | refine Keep.put ?_ _ (by first | omega | (simp only [n_new, n_put] <;> omega))))
  rintro r H1 ⟨rfl, k1⟩
  have g1 : H1.get H.n = some (.cells [.int .i64 2, .slice (some ⟨b, 0, none⟩) 1 1, .slice none 0 0] 25 none 0) := by
    rw [k1.get (Nat.lt_succ_self _)]; exact get_new_eq rfl
  simp (config := { maxSteps := 1000000 }) (disch := first | omega | ((repeat (first | rw [n_new] | rw [n_put])) <;> omega) | fail) only [tt25, tt3, g1, G_skip, G_seq, G_cond, GIf_false, G_block, G_region, G_onil, G_op, GG_true, GG_false, GX_val, GP_some, put_lt, wantedG_none, wantedG_some, wG_some, isB_bool, List.getElem?_toArray, eq_self, tget_set, tget_of1, nbeq, evalO_tmp, evalO_int, evalO_bool, Tr.get_set, oval_eq, cx_move, cx_assign, cx_pick, xpick_true, xpick_false, cx_load, cx_bin, cx_un, cx_fieldAddr, loadAt_some, loadIn_cells, xfieldAddr_some, xfa_some, cbin_neq, takeN, un_not, List.drop_zero, List.head?_cons, Nat.add_zero, List.getElem?_cons_zero, List.getElem?_cons_succ, Option.map_some, cond_true, cond_false, Bool.not_true, Bool.not_false, decide_true, decide_false, if_true, if_false, Nat.reduceEqDiff]
  rw [G_loop]
  simp (config := { maxSteps := 1000000 }) (disch := first | omega | ((repeat (first | rw [n_new] | rw [n_put])) <;> omega) | fail) only [G_nil, G_seq, G_cond, GIf_false, G_exit, G_ret, G_region, G_codeE, G_lpE, G_blkE, G_onil, G_op, GG_true, GX_val, GP_some, put_lt, wantedG_none, eq_self, Int.reduceLT, tget_set, tget_of1, evalO_tmp, evalO_bool, oval_eq, cx_move, cx_assign, cx_bin, cbin_lss, resAll, resOne, tupV1, Outs_ret, OutR_some, List.getElem?_cons_succ, decide_false, if_true, if_false, Nat.reduceEqDiff]
  exact ⟨trivial, trivial, Keep.trans ((Keep.refl H).new _) k1⟩
end
end Go.Proofs
