/- How a letter is shown, by the program and by the reference, walked (no statement of the program is proved here). -/
import Derived.Test.YtoanfmlpddlcmaaGreatDoorQT0
namespace Go.Proofs
open Go Go.PE
noncomputable section
variable {ans : Tr (List Value → Option Value)} {eff : Tr (List Value → Hp → Option (Value × Hp))}
/-- what the walks of the texts ask of the calls that are answered -/
structure NoText (ans : Tr (List Value → Option Value)) (eff : Tr (List Value → Hp → Option (Value × Hp))) : Prop where
  n13 : NoA ans eff 13
  n14 : NoA ans eff 14
  n33 : NoA ans eff 33
  n34 : NoA ans eff 34
  n36 : NoA ans eff 36
  n37 : NoA ans eff 37
  n48 : NoA ans eff 48
  n50 : NoA ans eff 50
  n54 : NoA ans eff 54
  n68 : NoA ans eff 68
  n72 : NoA ans eff 72
  n79 : NoA ans eff 79
  n86 : NoA ans eff 86
  n92 : NoA ans eff 92
set_option maxRecDepth 100000 in
set_option maxHeartbeats 8000000 in
theorem has_utf54 (N : NoText ans eff) {H : Hp} {c : Nat} (hc : letterP c) : Has (tE ans eff) 54 [.int .i64 (c : Int)] H fun r H' => r = .string (bs (utfB c)) ∧ Keep H H' := by
  obtain ⟨hc1, hc2⟩ := hc
  refine Has.of N.n54 ft54 rfl (Nat.le_of_ble_eq_true rfl) ?_
  unfold utfB
  by_cases h1 : ((c : Nat) : Int) < 128
  · rw [if_pos (by omega)]
    simp (config := { maxSteps := 1000000 }) (disch := first | omega | ((repeat (first | rw [n_new] | rw [n_put])) <;> omega) | fail) only [Tryz.f54, cv_3_5, tt83, tt5, tt3, decide_eq_true h1, G_seq, G_cond, GIf_true, G_block, G_region, G_onil, G_op, GG_true, GX_val, GP_some, put_lt, wantedG_none, eq_self, Nat.zero_add, tget_set, tget_of1, nbeq, nble, evalO_tmp, evalO_int, evalO_str, evalO_nsl, oval_eq, xnewSl_eq, cx_move, cx_assign, cx_buildSlice, cx_bin, cx_convert, cx_builtin, cbin_lss, isJunk, partsV, fillC, elemPl, splice, Value.cells, xbuildSlice, rep, limN, List.toList_toArray, List.map_cons, List.map_nil, List.length_cons, List.length_nil, List.append_nil, Nat.mul_one, List.getElem?_cons_zero, List.getElem?_cons_succ, cond_true, Bool.and_true, Bool.not_false, decide_true, if_true, if_false, List.size_toArray, Nat.reduceEqDiff, Nat.reduceLeDiff]
    rw [(bi_app (E := tE ans eff) tt83 tt83 rfl rfl tt5 (get_new_eq rfl) rfl rfl rfl 0 rfl (by decide)).trans (capp_nil (by decide))]
    simp (config := { maxSteps := 1000000 }) (disch := first | omega | ((repeat (first | rw [n_new] | rw [n_put])) <;> omega) | fail) only [tt83, G_seq, G_region, G_blkN, G_onil, G_op, GG_true, GX_val, GP_some, put_lt, wantedG_none, eq_self, tget_set, tget_of1, evalO_tmp, n_new, cx_move, cx_assign, cx_convert, List.getElem?_cons_succ, if_true, if_false, Nat.reduceEqDiff]
    rw [tt9, cv_83_9 (l := [UInt8.ofNat c]) (n := 1) rfl (ty := 5) (es := some 1) (fl := 0) (by rw [get_new_eq (by rw [n_new])]; simp only [List.map_cons, List.map_nil]; rw [byteCell (by omega)])]
    simp (config := { maxSteps := 1000000 }) (disch := first | omega | ((repeat (first | rw [n_new] | rw [n_put])) <;> omega) | fail) only [G_nil, G_ret, G_onil, G_op, GG_true, GX_val, GP_some, put_lt, wantedG_none, eq_self, tget_set, tget_of1, evalO_tmp, cx_assign, resAll, resOne, tupV1, Outs_ret, OutR_some, List.getElem?_cons_succ, if_true, if_false, Nat.reduceEqDiff]
    exact ⟨trivial, (by first | trivial | rfl), (by repeat (first | assumption | exact Keep.refl _ | refine Keep.new ?_ _ | refine Keep.put ?_ _ (by first | omega | (simp only [n_new, n_put] <;> omega))))⟩
  rw [if_neg (by omega)]
  by_cases h2 : ((c : Nat) : Int) < 2048
  · rw [if_pos (by omega)]
    simp (config := { maxSteps := 1000000 }) (disch := first | omega | ((repeat (first | rw [n_new] | rw [n_put])) <;> omega) | fail) only [Tryz.f54, cv_3_5, cq64, cr64, add128, add192, tt83, tt5, tt3, decide_eq_false h1, decide_eq_true h2, G_seq, G_cond, GIf_true, GIf_false, G_block, G_region, G_onil, G_op, GG_true, GX_val, GP_some, put_lt, wantedG_none, eq_self, Nat.zero_add, tget_set, tget_of1, nbeq, nble, evalO_tmp, evalO_int, evalO_str, evalO_nsl, oval_eq, xnewSl_eq, cx_move, cx_assign, cx_buildSlice, cx_bin, cx_convert, cx_builtin, cbin_add, cbin_lss, isJunk, partsV, fillC, elemPl, splice, Value.cells, xbuildSlice, rep, limN, List.toList_toArray, List.map_cons, List.map_nil, List.length_cons, List.length_nil, List.append_nil, List.nil_append, List.cons_append, Nat.mul_one, List.getElem?_cons_zero, List.getElem?_cons_succ, cond_true, Bool.and_true, Bool.not_false, decide_true, if_true, if_false, List.size_toArray, Nat.reduceEqDiff, Nat.reduceLeDiff]
    rw [(bi_app (E := tE ans eff) tt83 tt83 rfl rfl tt5 (get_new_eq rfl) rfl rfl rfl 0 rfl (by decide)).trans (capp_nil (by decide))]
    simp (config := { maxSteps := 1000000 }) (disch := first | omega | ((repeat (first | rw [n_new] | rw [n_put])) <;> omega) | fail) only [tt83, G_seq, G_region, G_blkN, G_onil, G_op, GG_true, GX_val, GP_some, put_lt, wantedG_none, eq_self, tget_set, tget_of1, evalO_tmp, n_new, cx_move, cx_assign, cx_convert, List.getElem?_cons_succ, if_true, if_false, Nat.reduceEqDiff]
    rw [tt9, cv_83_9 (l := [UInt8.ofNat (192 + c / 64), UInt8.ofNat (128 + c % 64)]) (n := 2) rfl (ty := 5) (es := some 1) (fl := 0) (by rw [get_new_eq (by rw [n_new])]; simp only [List.map_cons, List.map_nil]; rw [byteCell (by omega), byteCell (by omega)])]
    simp (config := { maxSteps := 1000000 }) (disch := first | omega | ((repeat (first | rw [n_new] | rw [n_put])) <;> omega) | fail) only [G_nil, G_ret, G_onil, G_op, GG_true, GX_val, GP_some, put_lt, wantedG_none, eq_self, tget_set, tget_of1, evalO_tmp, cx_assign, resAll, resOne, tupV1, Outs_ret, OutR_some, List.getElem?_cons_succ, if_true, if_false, Nat.reduceEqDiff]
    exact ⟨trivial, (by first | trivial | rfl), (by repeat (first | assumption | exact Keep.refl _ | refine Keep.new ?_ _ | refine Keep.put ?_ _ (by first | omega | (simp only [n_new, n_put] <;> omega))))⟩
  rw [if_neg (by omega)]
  by_cases h3 : ((c : Nat) : Int) < 65536
  · rw [if_pos (by omega)]
    simp (config := { maxSteps := 1000000 }) (disch := first | omega | ((repeat (first | rw [n_new] | rw [n_put])) <;> omega) | fail) only [Tryz.f54, cv_3_5, cq64, cq4096, cr64, add128, add224, tt83, tt5, tt3, decide_eq_false h1, decide_eq_false h2, decide_eq_true h3, G_seq, G_cond, GIf_true, GIf_false, G_block, G_region, G_onil, G_op, GG_true, GX_val, GP_some, put_lt, wantedG_none, eq_self, Nat.zero_add, tget_set, tget_of1, nbeq, nble, evalO_tmp, evalO_int, evalO_str, evalO_nsl, oval_eq, xnewSl_eq, cx_move, cx_assign, cx_buildSlice, cx_bin, cx_convert, cx_builtin, cbin_add, cbin_lss, isJunk, partsV, fillC, elemPl, splice, Value.cells, xbuildSlice, rep, limN, List.toList_toArray, List.map_cons, List.map_nil, List.length_cons, List.length_nil, List.append_nil, List.nil_append, List.cons_append, Nat.mul_one, List.getElem?_cons_zero, List.getElem?_cons_succ, cond_true, Bool.and_true, Bool.not_false, decide_true, if_true, if_false, List.size_toArray, Nat.reduceEqDiff, Nat.reduceLeDiff]
    rw [(bi_app (E := tE ans eff) tt83 tt83 rfl rfl tt5 (get_new_eq rfl) rfl rfl rfl 0 rfl (by decide)).trans (capp_nil (by decide))]
    simp (config := { maxSteps := 1000000 }) (disch := first | omega | ((repeat (first | rw [n_new] | rw [n_put])) <;> omega) | fail) only [tt83, G_seq, G_region, G_blkN, G_onil, G_op, GG_true, GX_val, GP_some, put_lt, wantedG_none, eq_self, tget_set, tget_of1, evalO_tmp, n_new, cx_move, cx_assign, cx_convert, List.getElem?_cons_succ, if_true, if_false, Nat.reduceEqDiff]
    rw [tt9, cv_83_9 (l := [UInt8.ofNat (224 + c / 4096), UInt8.ofNat (128 + c / 64 % 64), UInt8.ofNat (128 + c % 64)]) (n := 3) rfl (ty := 5) (es := some 1) (fl := 0) (by rw [get_new_eq (by rw [n_new])]; simp only [List.map_cons, List.map_nil]; rw [byteCell (by omega), byteCell (by omega), byteCell (by omega)])]
    simp (config := { maxSteps := 1000000 }) (disch := first | omega | ((repeat (first | rw [n_new] | rw [n_put])) <;> omega) | fail) only [G_nil, G_ret, G_onil, G_op, GG_true, GX_val, GP_some, put_lt, wantedG_none, eq_self, tget_set, tget_of1, evalO_tmp, cx_assign, resAll, resOne, tupV1, Outs_ret, OutR_some, List.getElem?_cons_succ, if_true, if_false, Nat.reduceEqDiff]
    exact ⟨trivial, (by first | trivial | rfl), (by repeat (first | assumption | exact Keep.refl _ | refine Keep.new ?_ _ | refine Keep.put ?_ _ (by first | omega | (simp only [n_new, n_put] <;> omega))))⟩
  · rw [if_neg (by omega)]
    simp (config := { maxSteps := 1000000 }) (disch := first | omega | ((repeat (first | rw [n_new] | rw [n_put])) <;> omega) | fail) only [Tryz.f54, cv_3_5, cq64, cq4096, cq262144, cr64, add128, add240, tt83, tt5, tt3, decide_eq_false h1, decide_eq_false h2, decide_eq_false h3, G_seq, G_cond, GIf_false, G_block, G_region, G_onil, G_op, GG_true, GX_val, GP_some, put_lt, wantedG_none, eq_self, Nat.zero_add, tget_set, tget_of1, nbeq, nble, evalO_tmp, evalO_int, evalO_str, evalO_nsl, oval_eq, xnewSl_eq, cx_move, cx_assign, cx_buildSlice, cx_bin, cx_convert, cx_builtin, cbin_add, cbin_lss, isJunk, partsV, fillC, elemPl, splice, Value.cells, xbuildSlice, rep, limN, List.toList_toArray, List.map_cons, List.map_nil, List.length_cons, List.length_nil, List.append_nil, List.nil_append, List.cons_append, Nat.mul_one, List.getElem?_cons_zero, List.getElem?_cons_succ, cond_true, Bool.and_true, Bool.not_false, decide_true, if_true, if_false, List.size_toArray, Nat.reduceEqDiff, Nat.reduceLeDiff]
    rw [(bi_app (E := tE ans eff) tt83 tt83 rfl rfl tt5 (get_new_eq rfl) rfl rfl rfl 0 rfl (by decide)).trans (capp_nil (by decide))]
    simp (config := { maxSteps := 1000000 }) (disch := first | omega | ((repeat (first | rw [n_new] | rw [n_put])) <;> omega) | fail) only [tt83, G_seq, G_region, G_blkN, G_onil, G_op, GG_true, GX_val, GP_some, put_lt, wantedG_none, eq_self, tget_set, tget_of1, evalO_tmp, n_new, cx_move, cx_assign, cx_convert, List.getElem?_cons_succ, if_true, if_false, Nat.reduceEqDiff]
    rw [tt9, cv_83_9 (l := [UInt8.ofNat (240 + c / 262144), UInt8.ofNat (128 + c / 4096 % 64), UInt8.ofNat (128 + c / 64 % 64), UInt8.ofNat (128 + c % 64)]) (n := 4) rfl (ty := 5) (es := some 1) (fl := 0) (by rw [get_new_eq (by rw [n_new])]; simp only [List.map_cons, List.map_nil]; rw [byteCell (by omega), byteCell (by omega), byteCell (by omega), byteCell (by omega)])]
    simp (config := { maxSteps := 1000000 }) (disch := first | omega | ((repeat (first | rw [n_new] | rw [n_put])) <;> omega) | fail) only [G_nil, G_ret, G_onil, G_op, GG_true, GX_val, GP_some, put_lt, wantedG_none, eq_self, tget_set, tget_of1, evalO_tmp, cx_assign, resAll, resOne, tupV1, Outs_ret, OutR_some, List.getElem?_cons_succ, if_true, if_false, Nat.reduceEqDiff]
    exact ⟨trivial, (by first | trivial | rfl), (by repeat (first | assumption | exact Keep.refl _ | refine Keep.new ?_ _ | refine Keep.put ?_ _ (by first | omega | (simp only [n_new, n_put] <;> omega))))⟩
/-! ### is a letter one of the signs -/
set_option maxRecDepth 100000 in
set_option maxHeartbeats 8000000 in
theorem has_valid92 (N : NoText ans eff) {H : Hp} {c : Nat} (hc : letterP c) : Has (tE ans eff) 92 [.int .i32 (c : Int)] H fun r H' => r = .bool true ∧ Keep H H' := by
  obtain ⟨hc1, hc2⟩ := hc
  refine Has.of N.n92 ft92 rfl (Nat.le_of_ble_eq_true rfl) ?_
  have h0 : (0 : Int) ≤ ((c : Nat) : Int) := by omega
  by_cases h1 : ((c : Nat) : Int) < 55296
  · simp (config := { maxSteps := 1000000 }) (disch := first | omega | ((repeat (first | rw [n_new] | rw [n_put])) <;> omega) | fail) only [Tryz.f92, decide_eq_true h0, decide_eq_true h1, G_nil, G_seq, G_cond, GIf_true, G_block, G_ret, G_region, G_codeR, G_blkR, G_onil, G_op, GG_true, GX_val, GP_some, put_lt, wantedG_none, wantedG_some, wG_some, isB_bool, List.getElem?_toArray, eq_self, Nat.zero_add, tget_set, tget_of1, evalO_tmp, evalO_int, evalO_bool, Tr.get_set, oval_eq, cx_move, cx_assign, cx_pick, xpick_true, cx_bin, cbin_lss, cbin_leq, resAll, resOne, tupV1, Outs_ret, OutR_some, List.toList_toArray, List.length_cons, List.length_nil, List.getElem?_cons_zero, List.getElem?_cons_succ, cond_true, Bool.not_true, if_true, if_false, Nat.reduceEqDiff]
    exact ⟨trivial, (by first | trivial | rfl), (by repeat (first | assumption | exact Keep.refl _ | refine Keep.new ?_ _ | refine Keep.put ?_ _ (by first | omega | (simp only [n_new, n_put] <;> omega))))⟩
  · have h2 : (57343 : Int) < ((c : Nat) : Int) := by omega
    have h3 : ((c : Nat) : Int) ≤ 1114111 := by omega
    simp (config := { maxSteps := 1000000 }) (disch := first | omega | ((repeat (first | rw [n_new] | rw [n_put])) <;> omega) | fail) only [Tryz.f92, decide_eq_true h0, decide_eq_false h1, decide_eq_true h2, decide_eq_true h3, G_nil, G_seq, G_cond, GIf_true, GIf_false, G_block, G_ret, G_region, G_codeR, G_blkR, G_onil, G_op, GG_true, GX_val, GP_some, put_lt, wantedG_none, wantedG_some, wG_some, isB_bool, List.getElem?_toArray, eq_self, Nat.zero_add, tget_set, tget_of1, evalO_tmp, evalO_int, evalO_bool, Tr.get_set, oval_eq, cx_move, cx_assign, cx_pick, xpick_true, cx_bin, cbin_lss, cbin_leq, resAll, resOne, tupV1, Outs_ret, OutR_some, List.toList_toArray, List.length_cons, List.length_nil, List.getElem?_cons_zero, List.getElem?_cons_succ, cond_true, Bool.not_true, if_true, if_false, Nat.reduceEqDiff]
    exact ⟨trivial, (by first | trivial | rfl), (by repeat (first | assumption | exact Keep.refl _ | refine Keep.new ?_ _ | refine Keep.put ?_ _ (by first | omega | (simp only [n_new, n_put] <;> omega))))⟩
set_option maxRecDepth 100000 in
set_option maxHeartbeats 8000000 in
theorem has_byte86 (N : NoText ans eff) {H : Hp} {s : List UInt8} {c : Nat} (hc : c < 256) : Has (tE ans eff) 86 [.string (bs s), .int .u8 (c : Int)] H fun r H' => r = .int .i64 (idxOf c 0 s) ∧ Keep H H' := by
  refine Has.of N.n86 ft86 rfl (Nat.le_of_ble_eq_true rfl) ?_
  simp (config := { maxSteps := 1000000 }) (disch := first | omega | ((repeat (first | rw [n_new] | rw [n_put])) <;> omega) | fail) only [Tryz.f86, ft99, cc99, G_nil, G_seq, G_ret, G_region, G_onil, G_op, GG_true, GX_val, GP_some, put_lt, wantedG_none, eq_self, Nat.zero_add, tget_set, tget_of2, evalO_tmp, evalO_int, evalO_func, cx_move, cx_assign, cx_call, xcallv_func, resAll, resOne, tupV1, Outs_ret, OutR_some, List.toList_toArray, List.map_cons, List.map_nil, List.length_cons, List.length_nil, List.append_nil, List.nil_append, List.getElem?_cons_zero, List.getElem?_cons_succ, if_true, if_false, Nat.reduceAdd, Nat.reduceEqDiff]
  exact ⟨trivial, (by first | trivial | rfl), (by repeat (first | assumption | exact Keep.refl _ | refine Keep.new ?_ _ | refine Keep.put ?_ _ (by first | omega | (simp only [n_new, n_put] <;> omega))))⟩
set_option maxRecDepth 100000 in
set_option maxHeartbeats 8000000 in
theorem has_byte72 (N : NoText ans eff) {H : Hp} {s : List UInt8} {c : Nat} (hc : c < 256) : Has (tE ans eff) 72 [.string (bs s), .int .u8 (c : Int)] H fun r H' => r = .int .i64 (idxOf c 0 s) ∧ Keep H H' := by
  refine Has.of N.n72 ft72 rfl (Nat.le_of_ble_eq_true rfl) ?_
  simp (config := { maxSteps := 1000000 }) (disch := first | omega | ((repeat (first | rw [n_new] | rw [n_put])) <;> omega) | fail) only [Tryz.f72, ft86, cc86, G_seq, G_region, G_onil, G_op, GG_true, GX_val, GX_enter, GP_some, put_lt, wantedG_none, eq_self, Nat.zero_add, tget_set, tget_of2, evalO_tmp, evalO_int, evalO_func, cx_move, cx_assign, cx_call, xcallv_func, List.toList_toArray, List.map_cons, List.map_nil, List.length_cons, List.length_nil, List.append_nil, List.nil_append, List.getElem?_cons_zero, List.getElem?_cons_succ, if_true, if_false, Nat.reduceAdd, Nat.reduceEqDiff]
  refine GCall.of (has_byte86 N hc) ?_
  rintro v H2 ⟨rfl, k2⟩
  simp (config := { maxSteps := 1000000 }) (disch := first | omega | ((repeat (first | rw [n_new] | rw [n_put])) <;> omega) | fail) only [G_nil, G_ret, G_onil, G_op, GG_true, GX_val, GP_some, put_lt, wantedG_none, eq_self, tget_set, tget_of2, evalO_tmp, cx_assign, resAll, resOne, tupV1, Outs_ret, OutR_some, List.getElem?_cons_succ, if_true, if_false, Nat.reduceEqDiff]
  exact ⟨trivial, (by first | trivial | rfl), k2⟩
theorem spdec : ∀ i : Fin 12, (Utf8.decode (bs spL) i.1).2 = 1 ∧ (Utf8.decode (bs spL) i.1).1 < 128 := by decide
theorem xi_sp1 : xindex (tE ans eff) 9 (.string (bs spL)) (.int .i64 1) = some (.int .u8 41) := by kernel_rfl
theorem xi_sp2 : xindex (tE ans eff) 9 (.string (bs spL)) (.int .i64 2) = some (.int .u8 91) := by kernel_rfl
theorem xi_sp3 : xindex (tE ans eff) 9 (.string (bs spL)) (.int .i64 3) = some (.int .u8 93) := by kernel_rfl
theorem xi_b1 {a b : UInt8} : xindex (tE ans eff) 9 (.string (bs [a, b])) (.int .i64 1) = some (.int .u8 ((b.toNat : Nat) : Int)) := by kernel_rfl
theorem xi_b2 {a b c : UInt8} : xindex (tE ans eff) 9 (.string (bs [a, b, c])) (.int .i64 2) = some (.int .u8 ((c.toNat : Nat) : Int)) := by kernel_rfl
theorem xi_b3 {a b c d : UInt8} : xindex (tE ans eff) 9 (.string (bs [a, b, c, d])) (.int .i64 3) = some (.int .u8 ((d.toNat : Nat) : Int)) := by kernel_rfl
theorem csl_sp2 {H : Hp} : cslice (tE ans eff) H (some (.int .i64 2)) none (some ⟨false, 1, [(Value.string ⟨#[]⟩)], 1, 0, 0, 0, [], some (Value.string ⟨#[]⟩), true⟩) (.string (bs spL)) = some (.string (bs (spL.drop 2))) := (cslice_from (E := tE ans eff) (k := .i64) (lo := 2) (by decide)).trans rfl
theorem csl_sp3 {H : Hp} : cslice (tE ans eff) H (some (.int .i64 3)) none (some ⟨false, 1, [(Value.string ⟨#[]⟩)], 1, 0, 0, 0, [], some (Value.string ⟨#[]⟩), true⟩) (.string (bs spL)) = some (.string (bs (spL.drop 3))) := (cslice_from (E := tE ans eff) (k := .i64) (lo := 3) (by decide)).trans rfl
theorem csl_sp4 {H : Hp} : cslice (tE ans eff) H (some (.int .i64 4)) none (some ⟨false, 1, [(Value.string ⟨#[]⟩)], 1, 0, 0, 0, [], some (Value.string ⟨#[]⟩), true⟩) (.string (bs spL)) = some (.string (bs (spL.drop 4))) := (cslice_from (E := tE ans eff) (k := .i64) (lo := 4) (by decide)).trans rfl
theorem spLen : spL.length = 12 := rfl
set_option maxRecDepth 100000 in
set_option maxHeartbeats 16000000 in
theorem has_index79 (N : NoText ans eff) {H : Hp} {c : Nat} (hc : letterP c) : Has (tE ans eff) 79 [.string (bs spL), .int .i32 (c : Int)] H fun r H' => (∃ k : Int, r = .int .i64 k ∧ decide (k ≥ 0) = specB c) ∧ Keep H H' := by
  have hcc := hc
  obtain ⟨hc1, hc2⟩ := hc
  refine Has.of N.n79 ft79 rfl (Nat.le_of_ble_eq_true rfl) ?_
  have h0 : (0 : Int) ≤ ((c : Nat) : Int) := by omega
  by_cases h1 : ((c : Nat) : Int) < 128
  · simp (config := { maxSteps := 1000000 }) (disch := first | omega | ((repeat (first | rw [n_new] | rw [n_put])) <;> omega) | fail) only [Tryz.f79, tt21, tt5, decide_eq_true h0, decide_eq_true h1, cv_21_5, ft72, cc72, G_seq, G_cond, GIf_true, G_block, G_region, G_onil, G_op, GG_true, GX_val, GX_enter, GP_some, put_lt, wantedG_none, wantedG_some, wG_some, isB_bool, List.getElem?_toArray, eq_self, Int.reduceNeg, Nat.zero_add, tget_set, tget_of2, evalO_tmp, evalO_int, evalO_bool, evalO_func, Tr.get_set, oval_eq, cx_move, cx_assign, cx_pick, xpick_true, cx_bin, cx_convert, cx_call, xcallv_func, cbin_lss, cbin_leq, List.toList_toArray, List.map_cons, List.map_nil, List.length_cons, List.length_nil, List.append_nil, List.nil_append, List.getElem?_cons_zero, List.getElem?_cons_succ, cond_true, Bool.not_true, if_true, if_false, Nat.reduceAdd, Nat.reduceEqDiff]
    refine GCall.of (has_byte72 N (by omega)) ?_
    rintro v H2 ⟨rfl, k2⟩
    simp (config := { maxSteps := 1000000 }) (disch := first | omega | ((repeat (first | rw [n_new] | rw [n_put])) <;> omega) | fail) only [G_nil, G_ret, G_blkR, G_onil, G_op, GG_true, GX_val, GP_some, put_lt, wantedG_none, eq_self, tget_set, tget_of2, evalO_tmp, cx_assign, resAll, resOne, tupV1, Outs_ret, OutR_some, List.getElem?_cons_succ, if_true, if_false, Nat.reduceEqDiff]
    exact ⟨trivial, ⟨_, rfl, idx_spec⟩, k2⟩
  have hsp := spec_lt (c := c) (by omega)
  by_cases h2 : ((c : Nat) : Int) = 65533
  · simp (config := { maxSteps := 1000000 }) (disch := first | omega | ((repeat (first | rw [n_new] | rw [n_put])) <;> omega) | fail) only [Tryz.f79, tt9, decide_eq_true h0, decide_eq_false h1, decide_eq_true h2, G_seq, G_cond, GIf_true, GIf_false, G_block, G_region, G_onil, G_op, GG_true, GX_val, GP_some, put_lt, wantedG_none, wantedG_some, wG_some, isB_bool, List.getElem?_toArray, eq_self, Int.reduceNeg, Nat.zero_add, tget_set, tget_of2, nbeq, evalO_tmp, evalO_int, evalO_bool, Tr.get_set, oval_eq, cx_move, cx_assign, cx_pick, xpick_true, cx_bin, cx_range, cbin_eql, cbin_lss, cbin_leq, xrange_str, List.toList_toArray, List.length_cons, List.length_nil, List.getElem?_cons_zero, List.getElem?_cons_succ, cond_true, Bool.not_true, decide_true, if_true, if_false, Nat.reduceAdd, Nat.reduceEqDiff]
    have kH : Keep H (H.new (.siter (bs spL) 0)) := (Keep.refl H).new _
    refine G_loop_ind (fun k s => ∃ tm H2 i, s = ⟨tm, [], H2⟩ ∧ k + i = 12 ∧ tget tm 175 = .pointer (some ⟨H.n, 0, none⟩) ∧ H2.get H.n = some (.siter (bs spL) i) ∧ H.n < H2.n ∧ Keep H H2) ?_ 12 _ ?_
    · rintro k ih2 s ⟨tm, H2, i, rfl, hk, h175, hg, hlt, kH2⟩
      by_cases hi : i < 12
      · obtain ⟨hd2, hd1⟩ := spdec ⟨i, hi⟩
        simp only at hd2 hd1
        have hsz : i < (bs spL).size := by rw [bs_size, spLen]; exact hi
        have hne : ¬ (((Utf8.decode (bs spL) i).1 : Nat) : Int) = 65533 := by omega
        simp (config := { maxSteps := 1000000 }) (disch := first | assumption | omega | ((repeat (first | rw [n_new] | rw [n_put])) <;> omega) | fail) only [h175, hg, xnextIn_more hsz, decide_eq_false hne, hd2, G_skip, G_seq, G_cond, GIf_true, GIf_false, G_block, G_again, G_region, G_blkN, G_onil, G_op, GG_true, GX_val, GP_some, put_lt, wantedG_none, eq_self, Int.reduceNeg, tget_set, evalO_tmp, evalO_int, oval_eq, cx_move, cx_assign, cx_bin, cx_next, cx_extract, xextract_tuple, cbin_eql, xnext_eq, List.getElem?_cons_zero, List.getElem?_cons_succ, if_true, if_false, Nat.reduceEqDiff]
        refine ih2 (k - 1) _ (by omega) ⟨_, _, i + 1, rfl, by omega, ?_, get_put_eq rfl, (by rw [n_put]; exact hlt), kH2.put _ (Nat.le_refl _)⟩
        simp (config := { maxSteps := 1000000 }) (disch := first | omega | ((repeat (first | rw [n_new] | rw [n_put])) <;> omega) | fail) only [h175, eq_self, tget_set, if_false, Nat.reduceEqDiff]
      · have hsz : ¬ i < (bs spL).size := by rw [bs_size, spLen]; exact hi
        simp (config := { maxSteps := 1000000 }) (disch := first | assumption | omega | ((repeat (first | rw [n_new] | rw [n_put])) <;> omega) | fail) only [h175, hg, xnextIn_end hsz, G_nil, G_seq, G_cond, GIf_false, G_exit, G_ret, G_region, G_codeE, G_lpE, G_blkE, G_blkR, G_onil, G_op, GG_true, GX_val, GP_some, put_lt, wantedG_none, eq_self, Int.reduceNeg, tget_set, evalO_tmp, evalO_int, oval_eq, cx_assign, cx_next, cx_extract, xextract_tuple, xnext_eq, resAll, resOne, tupV1, Outs_ret, OutR_some, List.getElem?_cons_zero, if_true, if_false, Nat.reduceEqDiff]
        exact ⟨trivial, ⟨_, rfl, by rw [hsp.2]; rfl⟩, kH2⟩
    · refine ⟨_, _, 0, rfl, rfl, ?_, get_new_eq rfl, Nat.lt_succ_self _, kH⟩
      simp (config := { maxSteps := 1000000 }) (disch := first | omega | ((repeat (first | rw [n_new] | rw [n_put])) <;> omega) | fail) only [eq_self, tget_set, tget_of2, List.getElem?_cons_succ, if_true, if_false, Nat.reduceEqDiff]
  · simp (config := { maxSteps := 1000000 }) (disch := first | omega | ((repeat (first | rw [n_new] | rw [n_put])) <;> omega) | fail) only [Tryz.f79, decide_eq_true h0, decide_eq_false h1, decide_eq_false h2, ft92, cc92, G_seq, G_cond, GIf_false, G_block, G_region, G_onil, G_op, GG_true, GX_val, GX_enter, GP_some, put_lt, wantedG_none, wantedG_some, wG_some, isB_bool, List.getElem?_toArray, eq_self, Int.reduceNeg, Nat.zero_add, tget_set, tget_of2, evalO_tmp, evalO_int, evalO_bool, evalO_func, Tr.get_set, oval_eq, cx_move, cx_assign, cx_pick, xpick_true, cx_bin, cx_call, xcallv_func, cbin_eql, cbin_lss, cbin_leq, List.toList_toArray, List.map_cons, List.map_nil, List.length_cons, List.length_nil, List.append_nil, List.nil_append, List.getElem?_cons_zero, List.getElem?_cons_succ, cond_true, Bool.not_true, if_true, if_false, Nat.reduceAdd, Nat.reduceEqDiff]
    refine GCall.of (has_valid92 N hcc) ?_
    rintro v H2 ⟨rfl, k2⟩
    have hcut : ∀ b : Nat, b < 256 → 128 ≤ b → ∀ l : List UInt8, (∀ x ∈ l, x ∈ spL) → idxOf b 0 l = -1 := by
      intro b hb1 hb2 l hl
      refine idxOf_none fun hm => ?_
      obtain ⟨x, hx, rfl⟩ := List.mem_map.1 hm
      have : ∀ x ∈ spL, x.toNat < 128 := by decide
      have := this x (hl x hx)
      omega
    have fin : ∀ b : UInt8, 128 ≤ b.toNat → ∀ k, idxOf b.toNat 0 (spL.drop k) = -1 := fun b hb k => hcut _ b.toNat_lt hb _ fun x hx => List.mem_of_mem_drop hx
    by_cases q2 : c < 2048
    · have hu : utfB c = [UInt8.ofNat (192 + c / 64), UInt8.ofNat (128 + c % 64)] := by unfold utfB; rw [if_neg (by omega), if_pos q2]
      have hb : (UInt8.ofNat (128 + c % 64)).toNat = 128 + c % 64 := UInt8.toNat_ofNat_of_lt' (show 128 + c % 64 < 256 by omega)
      obtain ⟨z, hz⟩ : ∃ z, z = UInt8.ofNat (128 + c % 64) := ⟨_, rfl⟩
      rw [← hz] at hu hb
      clear hz
      simp (config := { maxSteps := 1000000 }) (disch := first | assumption | omega | ((repeat (first | rw [n_new] | rw [n_put])) <;> omega) | fail) only [tt21, tt9, cv_21_9, hu, G_seq, G_cond, GIf_false, G_block, G_scope, G_region, G_onil, G_op, GG_true, GX_val, GP_some, put_lt, wantedG_none, cast_lit, eq_self, Int.reduceSub, Int.reduceNeg, Nat.zero_add, tget_set, tget_of2, nbeq, evalO_tmp, evalO_int, oval_eq, cx_move, cx_assign, cx_bin, cx_un, cx_convert, cx_builtin, cbin_sub, wrap1, bi_len, tyAt0, xlen_str, un_not, List.map_cons, List.map_nil, List.length_cons, List.length_nil, List.getElem?_cons_zero, List.getElem?_cons_succ, cond_true, Bool.not_true, decide_true, if_true, if_false, Nat.reduceAdd, Nat.reduceEqDiff]
      rw [G_loop]
      simp (config := { maxSteps := 1000000 }) (disch := first | assumption | omega | ((repeat (first | rw [n_new] | rw [n_put])) <;> omega) | fail) only [tt9, spLen, G_skip, G_seq, G_cond, GIf_true, G_block, G_scope, G_region, G_onil, G_op, GG_true, GX_val, GP_some, put_lt, wantedG_none, cast_lit, eq_self, Int.reduceLT, Int.reduceNeg, tget_set, tget_of2, nbeq, evalO_tmp, oval_eq, cx_move, cx_bin, cx_builtin, cbin_lss, bi_len, tyAt0, xlen_str, List.map_cons, List.map_nil, List.getElem?_cons_zero, List.getElem?_cons_succ, cond_true, decide_true, if_true, if_false, Nat.reduceEqDiff]
      rw [G_draw (by kernel_rfl)]
      have hne : ¬ (41 : Int) = ((z.toNat : Nat) : Int) := by omega
      simp (config := { maxSteps := 1000000 }) (disch := first | assumption | omega | ((repeat (first | rw [n_new] | rw [n_put])) <;> omega) | fail) only [cx_index, xi_sp1, xi_b1, decide_eq_false hne, G_seq, G_cond, GIf_true, G_onil, G_op, GG_true, GX_val, GP_some, put_lt, wantedG_none, eq_self, Int.reduceNeg, tget_set, tget_of2, evalO_tmp, oval_eq, cx_move, cx_bin, cx_index, cbin_neq, List.getElem?_cons_zero, List.getElem?_cons_succ, Bool.not_false, if_true, if_false, Nat.reduceEqDiff]
      rw [G_draw (by kernel_rfl)]
      simp (config := { maxSteps := 1000000 }) (disch := first | assumption | omega | ((repeat (first | rw [n_new] | rw [n_put])) <;> omega) | fail) only [tt9, cx_index, xi_b1, csl_sp2, ft72, cc72, G_op, GG_true, GX_val, GX_enter, GP_some, put_lt, wantedG_none, eq_self, Int.reduceAdd, Int.reduceNeg, tget_set, tget_of2, evalO_tmp, evalO_int, evalO_func, oval_eq, cx_move, cx_bin, cx_slice, cx_index, cx_call, xcallv_func, cbin_add, wrap2, List.map_cons, List.map_nil, List.append_nil, List.nil_append, List.getElem?_cons_zero, List.getElem?_cons_succ, Option.map_some, Option.map_none, if_true, if_false, Nat.reduceEqDiff]
      refine GCall.of (has_byte72 N z.toNat_lt) ?_
      rintro v H3 ⟨rfl, k3⟩
      rw [fin z (by omega)]
      simp (config := { maxSteps := 1000000 }) (disch := first | assumption | omega | ((repeat (first | rw [n_new] | rw [n_put])) <;> omega) | fail) only [G_nil, G_seq, G_cond, GIf_true, G_ret, G_region, G_codeR, G_lpR, G_blkR, G_scpR, G_onil, G_op, GG_true, GX_val, GP_some, put_lt, wantedG_none, eq_self, Int.reduceLT, Int.reduceNeg, tget_set, tget_of2, evalO_tmp, evalO_int, oval_eq, cx_move, cx_assign, cx_bin, cbin_lss, resAll, resOne, tupV1, Outs_ret, OutR_some, List.getElem?_cons_succ, decide_true, if_true, if_false, Nat.reduceEqDiff]
      exact ⟨trivial, ⟨_, rfl, by rw [hsp.2]; rfl⟩, k2.trans k3⟩
    by_cases q3 : c < 65536
    · have hu : utfB c = [UInt8.ofNat (224 + c / 4096), UInt8.ofNat (128 + c / 64 % 64), UInt8.ofNat (128 + c % 64)] := by unfold utfB; rw [if_neg (by omega), if_neg q2, if_pos q3]
      have hb : (UInt8.ofNat (128 + c % 64)).toNat = 128 + c % 64 := UInt8.toNat_ofNat_of_lt' (show 128 + c % 64 < 256 by omega)
      obtain ⟨z, hz⟩ : ∃ z, z = UInt8.ofNat (128 + c % 64) := ⟨_, rfl⟩
      rw [← hz] at hu hb
      clear hz
      simp (config := { maxSteps := 1000000 }) (disch := first | assumption | omega | ((repeat (first | rw [n_new] | rw [n_put])) <;> omega) | fail) only [tt21, tt9, cv_21_9, hu, G_seq, G_cond, GIf_false, G_block, G_scope, G_region, G_onil, G_op, GG_true, GX_val, GP_some, put_lt, wantedG_none, cast_lit, eq_self, Int.reduceSub, Int.reduceNeg, Nat.zero_add, tget_set, tget_of2, nbeq, evalO_tmp, evalO_int, oval_eq, cx_move, cx_assign, cx_bin, cx_un, cx_convert, cx_builtin, cbin_sub, wrap2, bi_len, tyAt0, xlen_str, un_not, List.map_cons, List.map_nil, List.length_cons, List.length_nil, List.getElem?_cons_zero, List.getElem?_cons_succ, cond_true, Bool.not_true, decide_true, if_true, if_false, Nat.reduceAdd, Nat.reduceEqDiff]
      rw [G_loop]
      simp (config := { maxSteps := 1000000 }) (disch := first | assumption | omega | ((repeat (first | rw [n_new] | rw [n_put])) <;> omega) | fail) only [tt9, spLen, G_skip, G_seq, G_cond, GIf_true, G_block, G_scope, G_region, G_onil, G_op, GG_true, GX_val, GP_some, put_lt, wantedG_none, cast_lit, eq_self, Int.reduceLT, Int.reduceNeg, tget_set, tget_of2, nbeq, evalO_tmp, oval_eq, cx_move, cx_bin, cx_builtin, cbin_lss, bi_len, tyAt0, xlen_str, List.map_cons, List.map_nil, List.getElem?_cons_zero, List.getElem?_cons_succ, cond_true, decide_true, if_true, if_false, Nat.reduceEqDiff]
      rw [G_draw (by kernel_rfl)]
      have hne : ¬ (91 : Int) = ((z.toNat : Nat) : Int) := by omega
      simp (config := { maxSteps := 1000000 }) (disch := first | assumption | omega | ((repeat (first | rw [n_new] | rw [n_put])) <;> omega) | fail) only [cx_index, xi_sp2, xi_b2, decide_eq_false hne, G_seq, G_cond, GIf_true, G_onil, G_op, GG_true, GX_val, GP_some, put_lt, wantedG_none, eq_self, Int.reduceNeg, tget_set, tget_of2, evalO_tmp, oval_eq, cx_move, cx_bin, cx_index, cbin_neq, List.getElem?_cons_zero, List.getElem?_cons_succ, Bool.not_false, if_true, if_false, Nat.reduceEqDiff]
      rw [G_draw (by kernel_rfl)]
      simp (config := { maxSteps := 1000000 }) (disch := first | assumption | omega | ((repeat (first | rw [n_new] | rw [n_put])) <;> omega) | fail) only [tt9, cx_index, xi_b2, csl_sp3, wr3, ft72, cc72, G_op, GG_true, GX_val, GX_enter, GP_some, put_lt, wantedG_none, eq_self, Int.reduceAdd, Int.reduceNeg, tget_set, tget_of2, evalO_tmp, evalO_int, evalO_func, oval_eq, cx_move, cx_bin, cx_slice, cx_index, cx_call, xcallv_func, cbin_add, List.map_cons, List.map_nil, List.append_nil, List.nil_append, List.getElem?_cons_zero, List.getElem?_cons_succ, Option.map_some, Option.map_none, if_true, if_false, Nat.reduceEqDiff]
      refine GCall.of (has_byte72 N z.toNat_lt) ?_
      rintro v H3 ⟨rfl, k3⟩
      rw [fin z (by omega)]
      simp (config := { maxSteps := 1000000 }) (disch := first | assumption | omega | ((repeat (first | rw [n_new] | rw [n_put])) <;> omega) | fail) only [G_nil, G_seq, G_cond, GIf_true, G_ret, G_region, G_codeR, G_lpR, G_blkR, G_scpR, G_onil, G_op, GG_true, GX_val, GP_some, put_lt, wantedG_none, eq_self, Int.reduceLT, Int.reduceNeg, tget_set, tget_of2, evalO_tmp, evalO_int, oval_eq, cx_move, cx_assign, cx_bin, cbin_lss, resAll, resOne, tupV1, Outs_ret, OutR_some, List.getElem?_cons_succ, decide_true, if_true, if_false, Nat.reduceEqDiff]
      exact ⟨trivial, ⟨_, rfl, by rw [hsp.2]; rfl⟩, k2.trans k3⟩
    · have hu : utfB c = [UInt8.ofNat (240 + c / 262144), UInt8.ofNat (128 + c / 4096 % 64), UInt8.ofNat (128 + c / 64 % 64), UInt8.ofNat (128 + c % 64)] := by unfold utfB; rw [if_neg (by omega), if_neg q2, if_neg q3]
      have hb : (UInt8.ofNat (128 + c % 64)).toNat = 128 + c % 64 := UInt8.toNat_ofNat_of_lt' (show 128 + c % 64 < 256 by omega)
      obtain ⟨z, hz⟩ : ∃ z, z = UInt8.ofNat (128 + c % 64) := ⟨_, rfl⟩
      rw [← hz] at hu hb
      clear hz
      simp (config := { maxSteps := 1000000 }) (disch := first | assumption | omega | ((repeat (first | rw [n_new] | rw [n_put])) <;> omega) | fail) only [tt21, tt9, cv_21_9, hu, wr3, G_seq, G_cond, GIf_false, G_block, G_scope, G_region, G_onil, G_op, GG_true, GX_val, GP_some, put_lt, wantedG_none, cast_lit, eq_self, Int.reduceSub, Int.reduceNeg, Nat.zero_add, tget_set, tget_of2, nbeq, evalO_tmp, evalO_int, oval_eq, cx_move, cx_assign, cx_bin, cx_un, cx_convert, cx_builtin, cbin_sub, bi_len, tyAt0, xlen_str, un_not, List.map_cons, List.map_nil, List.length_cons, List.length_nil, List.getElem?_cons_zero, List.getElem?_cons_succ, cond_true, Bool.not_true, decide_true, if_true, if_false, Nat.reduceAdd, Nat.reduceEqDiff]
      rw [G_loop]
      simp (config := { maxSteps := 1000000 }) (disch := first | assumption | omega | ((repeat (first | rw [n_new] | rw [n_put])) <;> omega) | fail) only [tt9, spLen, G_skip, G_seq, G_cond, GIf_true, G_block, G_scope, G_region, G_onil, G_op, GG_true, GX_val, GP_some, put_lt, wantedG_none, cast_lit, eq_self, Int.reduceLT, Int.reduceNeg, tget_set, tget_of2, nbeq, evalO_tmp, oval_eq, cx_move, cx_bin, cx_builtin, cbin_lss, bi_len, tyAt0, xlen_str, List.map_cons, List.map_nil, List.getElem?_cons_zero, List.getElem?_cons_succ, cond_true, decide_true, if_true, if_false, Nat.reduceEqDiff]
      rw [G_draw (by kernel_rfl)]
      have hne : ¬ (93 : Int) = ((z.toNat : Nat) : Int) := by omega
      simp (config := { maxSteps := 1000000 }) (disch := first | assumption | omega | ((repeat (first | rw [n_new] | rw [n_put])) <;> omega) | fail) only [cx_index, xi_sp3, xi_b3, decide_eq_false hne, G_seq, G_cond, GIf_true, G_onil, G_op, GG_true, GX_val, GP_some, put_lt, wantedG_none, eq_self, Int.reduceNeg, tget_set, tget_of2, evalO_tmp, oval_eq, cx_move, cx_bin, cx_index, cbin_neq, List.getElem?_cons_zero, List.getElem?_cons_succ, Bool.not_false, if_true, if_false, Nat.reduceEqDiff]
      rw [G_draw (by kernel_rfl)]
      simp (config := { maxSteps := 1000000 }) (disch := first | assumption | omega | ((repeat (first | rw [n_new] | rw [n_put])) <;> omega) | fail) only [tt9, cx_index, xi_b3, csl_sp4, wr4, ft72, cc72, G_op, GG_true, GX_val, GX_enter, GP_some, put_lt, wantedG_none, eq_self, Int.reduceAdd, Int.reduceNeg, tget_set, tget_of2, evalO_tmp, evalO_int, evalO_func, oval_eq, cx_move, cx_bin, cx_slice, cx_index, cx_call, xcallv_func, cbin_add, List.map_cons, List.map_nil, List.append_nil, List.nil_append, List.getElem?_cons_zero, List.getElem?_cons_succ, Option.map_some, Option.map_none, if_true, if_false, Nat.reduceEqDiff]
      refine GCall.of (has_byte72 N z.toNat_lt) ?_
      rintro v H3 ⟨rfl, k3⟩
      rw [fin z (by omega)]
      simp (config := { maxSteps := 1000000 }) (disch := first | assumption | omega | ((repeat (first | rw [n_new] | rw [n_put])) <;> omega) | fail) only [G_nil, G_seq, G_cond, GIf_true, G_ret, G_region, G_codeR, G_lpR, G_blkR, G_scpR, G_onil, G_op, GG_true, GX_val, GP_some, put_lt, wantedG_none, eq_self, Int.reduceLT, Int.reduceNeg, tget_set, tget_of2, evalO_tmp, evalO_int, oval_eq, cx_move, cx_assign, cx_bin, cbin_lss, resAll, resOne, tupV1, Outs_ret, OutR_some, List.getElem?_cons_succ, decide_true, if_true, if_false, Nat.reduceEqDiff]
      exact ⟨trivial, ⟨_, rfl, by rw [hsp.2]; rfl⟩, k2.trans k3⟩
set_option maxRecDepth 100000 in
set_option maxHeartbeats 8000000 in
theorem has_contains68 (N : NoText ans eff) {H : Hp} {c : Nat} (hc : letterP c) : Has (tE ans eff) 68 [.string (bs spL), .int .i32 (c : Int)] H fun r H' => r = .bool (specB c) ∧ Keep H H' := by
  refine Has.of N.n68 ft68 rfl (Nat.le_of_ble_eq_true rfl) ?_
  simp (config := { maxSteps := 1000000 }) (disch := first | omega | ((repeat (first | rw [n_new] | rw [n_put])) <;> omega) | fail) only [Tryz.f68, ft79, cc79, G_seq, G_region, G_onil, G_op, GG_true, GX_val, GX_enter, GP_some, put_lt, wantedG_none, eq_self, Nat.zero_add, tget_set, tget_of2, evalO_tmp, evalO_bool, evalO_func, cx_move, cx_assign, cx_call, xcallv_func, List.toList_toArray, List.map_cons, List.map_nil, List.length_cons, List.length_nil, List.append_nil, List.nil_append, List.getElem?_cons_zero, List.getElem?_cons_succ, if_true, if_false, Nat.reduceAdd, Nat.reduceEqDiff]
  refine GCall.of (has_index79 N hc) ?_
  rintro v H2 ⟨⟨k, rfl, hk⟩, k2⟩
  simp (config := { maxSteps := 1000000 }) (disch := first | omega | ((repeat (first | rw [n_new] | rw [n_put])) <;> omega) | fail) only [hk, G_nil, G_ret, G_onil, G_op, GG_true, GX_val, GP_some, put_lt, wantedG_none, eq_self, tget_set, tget_of2, evalO_tmp, evalO_int, oval_eq, cx_assign, cx_bin, cbin_geq, resAll, resOne, tupV1, Outs_ret, OutR_some, List.getElem?_cons_succ, if_true, if_false, Nat.reduceEqDiff]
  exact ⟨trivial, (by first | trivial | rfl), k2⟩
theorem spLit : bs [40, 41, 91, 93, 42, 43, 63, 124, 46, 92, 45, 94] = bs spL := rfl
theorem utf_lim {c : Nat} {l : List UInt8} (h : l.length ≤ 100) : l.length + (utfB c).length ≤ limN := by
  have := utfB_len c
  have : limN = 16777216 := rfl
  omega
set_option maxRecDepth 100000 in
set_option maxHeartbeats 8000000 in
/-- how the program shows a letter -/
theorem has_shown50 (N : NoText ans eff) {H : Hp} {c : Nat} (hc : letterP c) : Has (tE ans eff) 50 [.int .i64 (c : Int)] H fun r H' => r = .string (bs (shownB c)) ∧ Keep H H' := by
  have hcc := hc
  obtain ⟨hc1, hc2⟩ := hc
  refine Has.of N.n50 ft50 rfl (Nat.le_of_ble_eq_true rfl) ?_
  unfold shownB
  by_cases h1 : ((c : Nat) : Int) = 10
  · rw [if_pos (by omega)]
    simp (config := { maxSteps := 1000000 }) (disch := first | omega | ((repeat (first | rw [n_new] | rw [n_put])) <;> omega) | fail) only [Tryz.f50, bsLit, decide_eq_true h1, G_nil, G_seq, G_cond, GIf_true, G_block, G_ret, G_region, G_codeR, G_blkR, G_onil, G_op, GG_true, GX_val, GP_some, put_lt, wantedG_none, eq_self, Nat.zero_add, tget_set, tget_of1, evalO_tmp, evalO_int, evalO_str, oval_eq, cx_move, cx_assign, cx_bin, cbin_eql, resAll, resOne, tupV1, Outs_ret, OutR_some, List.toList_toArray, List.length_cons, List.length_nil, List.getElem?_cons_zero, List.getElem?_cons_succ, if_true, if_false, Nat.reduceEqDiff]
    exact ⟨trivial, (by first | trivial | rfl), (by repeat (first | assumption | exact Keep.refl _ | refine Keep.new ?_ _ | refine Keep.put ?_ _ (by first | omega | (simp only [n_new, n_put] <;> omega))))⟩
  rw [if_neg (by omega)]
  by_cases h2 : ((c : Nat) : Int) = 9
  · rw [if_pos (by omega)]
    simp (config := { maxSteps := 1000000 }) (disch := first | omega | ((repeat (first | rw [n_new] | rw [n_put])) <;> omega) | fail) only [Tryz.f50, bsLit, decide_eq_false h1, decide_eq_true h2, G_nil, G_seq, G_cond, GIf_true, GIf_false, G_block, G_ret, G_region, G_codeR, G_blkR, G_onil, G_op, GG_true, GX_val, GP_some, put_lt, wantedG_none, eq_self, Nat.zero_add, tget_set, tget_of1, evalO_tmp, evalO_int, evalO_str, oval_eq, cx_move, cx_assign, cx_bin, cbin_eql, resAll, resOne, tupV1, Outs_ret, OutR_some, List.toList_toArray, List.length_cons, List.length_nil, List.getElem?_cons_zero, List.getElem?_cons_succ, if_true, if_false, Nat.reduceEqDiff]
    exact ⟨trivial, (by first | trivial | rfl), (by repeat (first | assumption | exact Keep.refl _ | refine Keep.new ?_ _ | refine Keep.put ?_ _ (by first | omega | (simp only [n_new, n_put] <;> omega))))⟩
  rw [if_neg (by omega)]
  by_cases h3 : ((c : Nat) : Int) = 13
  · rw [if_pos (by omega)]
    simp (config := { maxSteps := 1000000 }) (disch := first | omega | ((repeat (first | rw [n_new] | rw [n_put])) <;> omega) | fail) only [Tryz.f50, bsLit, decide_eq_false h1, decide_eq_false h2, decide_eq_true h3, G_nil, G_seq, G_cond, GIf_true, GIf_false, G_block, G_ret, G_region, G_codeR, G_blkR, G_onil, G_op, GG_true, GX_val, GP_some, put_lt, wantedG_none, eq_self, Nat.zero_add, tget_set, tget_of1, evalO_tmp, evalO_int, evalO_str, oval_eq, cx_move, cx_assign, cx_bin, cbin_eql, resAll, resOne, tupV1, Outs_ret, OutR_some, List.toList_toArray, List.length_cons, List.length_nil, List.getElem?_cons_zero, List.getElem?_cons_succ, if_true, if_false, Nat.reduceEqDiff]
    exact ⟨trivial, (by first | trivial | rfl), (by repeat (first | assumption | exact Keep.refl _ | refine Keep.new ?_ _ | refine Keep.put ?_ _ (by first | omega | (simp only [n_new, n_put] <;> omega))))⟩
  rw [if_neg (by omega)]
  have hlim := utf_lim (c := c) (l := [92]) (by decide)
  simp (config := { maxSteps := 1000000 }) (disch := first | assumption | omega | ((repeat (first | rw [n_new] | rw [n_put])) <;> omega) | fail) only [Tryz.f50, tt21, tt3, bsLit, spLit, cv_3_21, decide_eq_false h1, decide_eq_false h2, decide_eq_false h3, ft68, cc68, G_seq, G_cond, GIf_false, G_block, G_region, G_onil, G_op, GG_true, GX_val, GX_enter, GP_some, put_lt, wantedG_none, eq_self, Nat.zero_add, tget_set, tget_of1, evalO_tmp, evalO_int, evalO_str, evalO_func, oval_eq, cx_move, cx_assign, cx_bin, cx_convert, cx_call, xcallv_func, cbin_eql, List.toList_toArray, List.map_cons, List.map_nil, List.length_cons, List.length_nil, List.append_nil, List.nil_append, List.getElem?_cons_zero, List.getElem?_cons_succ, if_true, if_false, Nat.reduceEqDiff]
  refine GCall.of (has_contains68 N hcc) ?_
  rintro v H2 ⟨rfl, k2⟩
  cases hs : specB c with
  | true =>
    simp (config := { maxSteps := 1000000 }) (disch := first | assumption | omega | ((repeat (first | rw [n_new] | rw [n_put])) <;> omega) | fail) only [tt9, tt21, tt3, cv_3_21, cv_21_9, cbin_sadd, G_nil, G_seq, G_cond, GIf_true, G_ret, G_region, G_codeR, G_blkR, G_onil, G_op, GG_true, GX_val, GP_some, put_lt, wantedG_none, eq_self, tget_set, tget_of1, evalO_tmp, evalO_str, oval_eq, cx_move, cx_assign, cx_bin, cx_convert, cbin_sadd, resAll, resOne, tupV1, Outs_ret, OutR_some, List.nil_append, List.cons_append, List.getElem?_cons_zero, List.getElem?_cons_succ, if_true, if_false, Nat.reduceEqDiff]
    exact ⟨trivial, (by first | trivial | rfl), k2⟩
  | false =>
    simp (config := { maxSteps := 1000000 }) (disch := first | assumption | omega | ((repeat (first | rw [n_new] | rw [n_put])) <;> omega) | fail) only [tt9, tt21, tt3, cv_3_21, cv_21_9, G_nil, G_skip, G_seq, G_cond, GIf_false, G_ret, G_region, G_blkN, G_onil, G_op, GG_true, GX_val, GP_some, put_lt, wantedG_none, eq_self, tget_set, tget_of1, evalO_tmp, cx_move, cx_assign, cx_convert, resAll, resOne, tupV1, Outs_ret, OutR_some, List.getElem?_cons_zero, List.getElem?_cons_succ, if_true, if_false, Nat.reduceEqDiff]
    exact ⟨trivial, (by first | trivial | rfl), k2⟩
theorem spec_cases {c : Nat} (h : specB c = true) : c = 40 ∨ c = 41 ∨ c = 91 ∨ c = 93 ∨ c = 42 ∨ c = 43 ∨ c = 63 ∨ c = 124 ∨ c = 46 ∨ c = 92 ∨ c = 45 ∨ c = 94 := by
  have := List.contains_iff_mem.1 h
  simpa [spL] using this
theorem spec_not {c : Nat} (h : specB c = false) : c ≠ 40 ∧ c ≠ 41 ∧ c ≠ 91 ∧ c ≠ 93 ∧ c ≠ 42 ∧ c ≠ 43 ∧ c ≠ 63 ∧ c ≠ 124 ∧ c ≠ 46 ∧ c ≠ 92 ∧ c ≠ 45 ∧ c ≠ 94 := by
  refine ⟨?_, ?_, ?_, ?_, ?_, ?_, ?_, ?_, ?_, ?_, ?_, ?_⟩ <;> (rintro rfl; exact absurd h (by decide))
set_option maxRecDepth 100000 in
set_option maxHeartbeats 16000000 in
/-- how the reference shows a letter -/
theorem has_shown36 (N : NoText ans eff) {H : Hp} {c : Nat} (hc : letterP c) : Has (tE ans eff) 36 [.int .i64 (c : Int)] H fun r H' => r = .string (bs (shownB c)) ∧ Keep H H' := by
  have hcc := hc
  obtain ⟨hc1, hc2⟩ := hc
  refine Has.of N.n36 ft36 rfl (Nat.le_of_ble_eq_true rfl) ?_
  unfold shownB
  by_cases h1 : ((c : Nat) : Int) = 10
  · rw [if_pos (by omega)]
    simp (config := { maxSteps := 1000000 }) (disch := first | omega | ((repeat (first | rw [n_new] | rw [n_put])) <;> omega) | fail) only [Tryz.f36, bsLit, decide_eq_true h1, G_nil, G_seq, G_cond, GIf_true, G_block, G_ret, G_region, G_codeR, G_blkR, G_onil, G_op, GG_true, GX_val, GP_some, put_lt, wantedG_none, eq_self, Nat.zero_add, tget_set, tget_of1, evalO_tmp, evalO_int, evalO_str, oval_eq, cx_move, cx_assign, cx_bin, cbin_eql, resAll, resOne, tupV1, Outs_ret, OutR_some, List.toList_toArray, List.length_cons, List.length_nil, List.getElem?_cons_zero, List.getElem?_cons_succ, if_true, if_false, Nat.reduceEqDiff]
    exact ⟨trivial, (by first | trivial | rfl), (by repeat (first | assumption | exact Keep.refl _ | refine Keep.new ?_ _ | refine Keep.put ?_ _ (by first | omega | (simp only [n_new, n_put] <;> omega))))⟩
  rw [if_neg (by omega)]
  by_cases h2 : ((c : Nat) : Int) = 9
  · rw [if_pos (by omega)]
    simp (config := { maxSteps := 1000000 }) (disch := first | omega | ((repeat (first | rw [n_new] | rw [n_put])) <;> omega) | fail) only [Tryz.f36, bsLit, decide_eq_false h1, decide_eq_true h2, G_nil, G_seq, G_cond, GIf_true, GIf_false, G_block, G_ret, G_region, G_codeR, G_blkR, G_onil, G_op, GG_true, GX_val, GP_some, put_lt, wantedG_none, eq_self, Nat.zero_add, tget_set, tget_of1, evalO_tmp, evalO_int, evalO_str, oval_eq, cx_move, cx_assign, cx_bin, cbin_eql, resAll, resOne, tupV1, Outs_ret, OutR_some, List.toList_toArray, List.length_cons, List.length_nil, List.getElem?_cons_zero, List.getElem?_cons_succ, if_true, if_false, Nat.reduceEqDiff]
    exact ⟨trivial, (by first | trivial | rfl), (by repeat (first | assumption | exact Keep.refl _ | refine Keep.new ?_ _ | refine Keep.put ?_ _ (by first | omega | (simp only [n_new, n_put] <;> omega))))⟩
  rw [if_neg (by omega)]
  by_cases h3 : ((c : Nat) : Int) = 13
  · rw [if_pos (by omega)]
    simp (config := { maxSteps := 1000000 }) (disch := first | omega | ((repeat (first | rw [n_new] | rw [n_put])) <;> omega) | fail) only [Tryz.f36, bsLit, decide_eq_false h1, decide_eq_false h2, decide_eq_true h3, G_nil, G_seq, G_cond, GIf_true, GIf_false, G_block, G_ret, G_region, G_codeR, G_blkR, G_onil, G_op, GG_true, GX_val, GP_some, put_lt, wantedG_none, eq_self, Nat.zero_add, tget_set, tget_of1, evalO_tmp, evalO_int, evalO_str, oval_eq, cx_move, cx_assign, cx_bin, cbin_eql, resAll, resOne, tupV1, Outs_ret, OutR_some, List.toList_toArray, List.length_cons, List.length_nil, List.getElem?_cons_zero, List.getElem?_cons_succ, if_true, if_false, Nat.reduceEqDiff]
    exact ⟨trivial, (by first | trivial | rfl), (by repeat (first | assumption | exact Keep.refl _ | refine Keep.new ?_ _ | refine Keep.put ?_ _ (by first | omega | (simp only [n_new, n_put] <;> omega))))⟩
  rw [if_neg (by omega)]
  have hlim := utf_lim (c := c) (l := [92]) (by decide)
  cases hs : specB c with
  | true =>
    rcases spec_cases hs with rfl | rfl | rfl | rfl | rfl | rfl | rfl | rfl | rfl | rfl | rfl | rfl
    all_goals (
      simp (config := { maxSteps := 1000000 }) (disch := first | assumption | omega | ((repeat (first | rw [n_new] | rw [n_put])) <;> omega) | fail) only [Tryz.f36, bsLit, Int.reduceEq, ft54, cc54, G_skip, G_seq, G_cond, GIf_true, GIf_false, G_block, G_region, G_onil, G_op, GG_true, GX_val, GX_enter, GP_some, put_lt, wantedG_none, cast_lit, eq_self, Int.reduceEq, Nat.zero_add, tget_set, tget_of1, evalO_tmp, evalO_int, evalO_str, evalO_func, oval_eq, cx_move, cx_assign, cx_bin, cx_call, xcallv_func, cbin_eql, List.toList_toArray, List.map_cons, List.map_nil, List.length_cons, List.length_nil, List.append_nil, List.nil_append, List.getElem?_cons_zero, List.getElem?_cons_succ, decide_true, decide_false, if_true, if_false, Nat.reduceEqDiff]
      refine GCall.of (has_utf54 N hcc) ?_
      rintro v H2 ⟨rfl, k2⟩
      simp (config := { maxSteps := 1000000 }) (disch := first | assumption | omega | ((repeat (first | rw [n_new] | rw [n_put])) <;> omega) | fail) only [cbin_sadd, G_nil, G_ret, G_codeR, G_blkR, G_onil, G_op, GG_true, GX_val, GP_some, put_lt, wantedG_none, eq_self, tget_set, tget_of1, evalO_tmp, evalO_str, oval_eq, cx_assign, cx_bin, cbin_sadd, resAll, resOne, tupV1, Outs_ret, OutR_some, List.nil_append, List.cons_append, List.getElem?_cons_succ, if_true, if_false, Nat.reduceEqDiff]
      exact ⟨trivial, (by first | trivial | rfl), k2⟩)
  | false =>
    obtain ⟨g40, g41, g91, g93, g42, g43, g63, g124, g46, g92, g45, g94⟩ := spec_not hs
    have e40 : ¬ ((c : Nat) : Int) = 40 := by omega
    have e41 : ¬ ((c : Nat) : Int) = 41 := by omega
    have e91 : ¬ ((c : Nat) : Int) = 91 := by omega
    have e93 : ¬ ((c : Nat) : Int) = 93 := by omega
    have e42 : ¬ ((c : Nat) : Int) = 42 := by omega
    have e43 : ¬ ((c : Nat) : Int) = 43 := by omega
    have e63 : ¬ ((c : Nat) : Int) = 63 := by omega
    have e124 : ¬ ((c : Nat) : Int) = 124 := by omega
    have e46 : ¬ ((c : Nat) : Int) = 46 := by omega
    have e92 : ¬ ((c : Nat) : Int) = 92 := by omega
    have e45 : ¬ ((c : Nat) : Int) = 45 := by omega
    have e94 : ¬ ((c : Nat) : Int) = 94 := by omega
    simp (config := { maxSteps := 1000000 }) (disch := first | assumption | omega | ((repeat (first | rw [n_new] | rw [n_put])) <;> omega) | fail) only [Tryz.f36, bsLit, decide_eq_false h1, decide_eq_false h2, decide_eq_false h3, decide_eq_false e40, decide_eq_false e41, decide_eq_false e91, decide_eq_false e93, decide_eq_false e42, decide_eq_false e43, decide_eq_false e63, decide_eq_false e124, decide_eq_false e46, decide_eq_false e92, decide_eq_false e45, decide_eq_false e94, ft54, cc54, G_skip, G_seq, G_cond, GIf_false, G_block, G_region, G_blkN, G_onil, G_op, GG_true, GX_val, GX_enter, GP_some, put_lt, wantedG_none, eq_self, Nat.zero_add, tget_set, tget_of1, evalO_tmp, evalO_int, evalO_str, evalO_func, oval_eq, cx_move, cx_assign, cx_bin, cx_call, xcallv_func, cbin_eql, List.toList_toArray, List.map_cons, List.map_nil, List.length_cons, List.length_nil, List.append_nil, List.nil_append, List.getElem?_cons_zero, List.getElem?_cons_succ, if_true, if_false, Nat.reduceEqDiff]
    refine GCall.of (has_utf54 N hcc) ?_
    rintro v H2 ⟨rfl, k2⟩
    simp (config := { maxSteps := 1000000 }) (disch := first | assumption | omega | ((repeat (first | rw [n_new] | rw [n_put])) <;> omega) | fail) only [G_nil, G_ret, G_onil, G_op, GG_true, GX_val, GP_some, put_lt, wantedG_none, eq_self, tget_set, tget_of1, evalO_tmp, cx_assign, resAll, resOne, tupV1, Outs_ret, OutR_some, List.getElem?_cons_succ, if_true, if_false, Nat.reduceEqDiff]
    exact ⟨trivial, (by first | trivial | rfl), k2⟩
end
end Go.Proofs
