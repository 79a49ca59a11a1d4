/- Functions of the program under the statement RexPlain, walked: sets of places (no statement of the program is proved here). -/
import Derived.Test.YtoanfmlpddlcmaaGreatDoorRA
namespace Go.Proofs
open Go Go.PE
noncomputable section
/-- a set of places -/
def BAt (H : Hp) (v : Value) (f : List Bool) : Prop := ∃ b es, v = .slice (some ⟨b, 0, none⟩) f.length f.length ∧ b < H.n ∧ H.get b = some (.cells (f.map .bool) 4 es 0)
theorem BAt.keep {H H' : Hp} (k : Keep H H') {v : Value} {f : List Bool} (h : BAt H v f) : BAt H' v f := by
  obtain ⟨b, es, h1, h2, h3⟩ := h
  exact ⟨b, es, h1, Nat.lt_of_lt_of_le h2 k.le, by rw [k.get h2]; exact h3⟩
def hot (n i : Nat) : List Bool := (List.replicate n false).set i true
set_option maxRecDepth 100000 in
theorem has_only {H : Hp} {br mk : Nat} {S : List UInt8} {at' : Nat} (hr : H.get br = some (.cells [.string (bs S), .map (some mk)] 48 none 0)) (hb : br < H.n) (hS : S.length ≤ 100000) (ha : at' ≤ S.length) :
    Has rE 62 [.pointer (some ⟨br, 0, none⟩), .int .i64 (at' : Int)] H fun v H' => BAt H' v (hot (S.length + 1) at') ∧ Keep H H' := by
  refine Has.of (rans_none (by decide) (by decide)) ft62 rfl (Nat.le_of_ble_eq_true rfl) ?_
  simp (config := { maxSteps := 1000000 }) (disch := first | omega | ((repeat (first | rw [n_new] | rw [n_put])) <;> omega) | fail) only [Tryz.f62, tt48, tt9, tt53, hr, G_seq, G_region, G_onil, G_op, GG_true, GX_val, GP_some, put_lt, wantedG_none, eq_self, Nat.zero_add, tget_set, tget_of2, nbeq, evalO_tmp, evalO_int, evalO_nsl, oval_eq, cx_move, cx_assign, cx_load, cx_nilCheck, cx_bin, cx_makeSlice, cx_fieldAddr, cx_builtin, xnil_ptr, loadAt_some, loadIn_cells, xfieldAddr_some, xfa_some, cbin_add, wrap_nat_add1, bi_len, tyAt0, xlen_str, takeN, List.toList_toArray, List.map_cons, List.map_nil, List.length_cons, List.length_nil, List.drop_zero, List.head?_cons, Nat.add_zero, List.getElem?_cons_zero, List.getElem?_cons_succ, Option.map_some, cond_true, cond_false, decide_true, decide_false, if_true, if_false, Nat.reduceAdd, Nat.reduceEqDiff]
  rw [mk_sl rfl tt4 rfl rfl rfl (by show (S.length + 1) * 2 ≤ 16777216; omega) (by rw [bytes4]; show (S.length + 1) * 1 ≤ 16777216; omega)]
  simp (config := { maxSteps := 1000000 }) (disch := first | omega | ((repeat (first | rw [n_new] | rw [n_put])) <;> omega) | fail) only [tt53, tt4, G_seq, G_region, G_onil, G_op, GG_true, GX_val, GP_some, put_lt, wantedG_none, eq_self, Nat.zero_add, tget_set, tget_of2, nbeq, nble, evalO_tmp, evalO_bool, get_new_eq, cx_move, cx_assign, cx_store, cx_indexAddr, storeAt_some, storeIn_cells, xindexAddr_some, natOf_nat, xidx_sl, isJunk, oneC, Value.cells, List.toList_toArray, List.all_cons, List.all_nil, List.length_cons, List.length_nil, Nat.mul_one, List.getElem?_cons_zero, List.getElem?_cons_succ, cond_true, cond_false, Bool.and_true, decide_true, if_true, if_false, Nat.reduceEqDiff, Nat.reduceLeDiff]
  rw [splice_one (by rw [List.length_replicate]; omega)]
  simp (config := { maxSteps := 1000000 }) (disch := first | omega | ((repeat (first | rw [n_new] | rw [n_put])) <;> omega) | fail) only [G_nil, G_seq, G_ret, G_region, G_onil, G_op, GG_true, GX_val, GX_skip, GP_some, put_lt, put_none, wantedG_none, eq_self, tget_set, tget_of2, evalO_tmp, oskip_some, cx_move, cx_assign, resAll, resOne, tupV1, Outs_ret, OutR_some, List.getElem?_cons_succ, Option.map_some, if_true, if_false, Nat.reduceEqDiff]
  refine ⟨trivial, ⟨H.n, none, ?_, Nat.lt_succ_self _, ?_⟩, (by repeat (first | assumption | exact Keep.refl _ | refine Keep.new ?_ _ | refine Keep.put ?_ _ (by first | omega | (simp only [n_new, n_put] <;> omega))))⟩
  · simp only [hot, List.length_set, List.length_replicate]
  · rw [get_put_eq rfl]; simp only [hot, List.map_set, List.map_replicate]
theorem bools_one (f : List Bool) : (f.map Value.bool).all oneC = true := by
  rw [List.all_map]; exact List.all_eq_true.2 fun _ _ => rfl
set_option maxRecDepth 100000 in
theorem has_clone {H : Hp} {p : Value} {f : List Bool} (hp : BAt H p f) (h0 : f.length ≠ 0) (hS : f.length ≤ 100001) :
    Has rE 76 [p] H fun v H' => (∃ b es, v = .slice (some ⟨b, 0, none⟩) f.length f.length ∧ H.n ≤ b ∧ b < H'.n ∧ H'.get b = some (.cells (f.map .bool) 4 es 0)) ∧ Keep H H' := by
  obtain ⟨b, es, rfl, hb, hg⟩ := hp
  refine Has.of (rans_none (by decide) (by decide)) ft76 rfl (Nat.le_of_ble_eq_true rfl) ?_
  simp (config := { maxSteps := 1000000 }) (disch := first | omega | ((repeat (first | rw [n_new] | rw [n_put])) <;> omega) | fail) only [Tryz.f76, tt53, tt4, G_skip, G_seq, G_cond, GIf_false, G_region, G_onil, G_op, GG_true, GX_val, GP_some, put_lt, wantedG_none, eq_self, Nat.zero_add, tget_set, tget_of1, nbeq, nble, evalO_tmp, evalO_nsl, oval_eq, xnewSl_eq, cx_move, cx_assign, cx_buildSlice, cx_bin, cx_builtin, partsV, fillC, xbuildSlice, rep, limN, nenil53, List.toList_toArray, List.map_cons, List.map_nil, List.length_cons, List.length_nil, Nat.mul_one, List.getElem?_cons_zero, List.getElem?_cons_succ, cond_true, Bool.and_true, decide_true, if_true, if_false, Nat.reduceEqDiff, Nat.reduceLeDiff]
  have hg' : (H.new (.cells [] 4 none 0)).get b = some (.cells (f.map .bool) 4 es 0) := by rw [get_new_ne (by omega)]; exact hg
  rw [(bi_app (E := rE) tt53 tt53 rfl rfl tt4 hg' (by simp) rfl rfl 0 rfl (by show (0 + f.length) * 2 ≤ 16777216; omega)).trans (capp_exact h0 (get_new_eq rfl))]
  simp (config := { maxSteps := 1000000 }) (disch := first | omega | ((repeat (first | rw [n_new] | rw [n_put])) <;> omega) | fail) only [G_nil, G_ret, G_onil, G_op, GG_true, GX_val, GP_some, put_lt, wantedG_none, eq_self, tget_set, tget_of1, evalO_tmp, n_new, cx_assign, resAll, resOne, tupV1, Outs_ret, OutR_some, List.getElem?_cons_succ, if_true, if_false, Nat.reduceEqDiff]
  exact ⟨trivial, ⟨_, _, rfl, Nat.le_succ _, Nat.lt_succ_self _, get_new_eq rfl⟩, ((Keep.refl H).new _).new _⟩
theorem take_drop_set {α : Type} {L f : List α} {i : Nat} {z : α} (hL : L[i]? = some z) (hi : i < f.length) : (L.take i ++ f.drop i).set i z = L.take (i + 1) ++ f.drop (i + 1) := by
  have hl : i < L.length := (List.getElem?_eq_some_iff.1 hL).1
  rw [List.set_append_right _ _ (by rw [List.length_take]; omega), List.length_take, Nat.min_eq_left (by omega), Nat.sub_self, List.drop_eq_getElem_cons hi, List.set_cons_zero, List.take_add_one, hL]
  simp
def orB (f g : List Bool) : List Bool := List.zipWith (fun a b => a || b) f g
set_option maxRecDepth 100000 in
theorem has_join {H : Hp} {p q : Value} {f g : List Bool} (hp : BAt H p f) (hq : BAt H q g) (hfg : f.length = g.length) (h0 : f.length ≠ 0) (hS : f.length ≤ 100001) :
    Has rE 64 [p, q] H fun v H' => (BAt H' v (orB f g)) ∧ Keep H H' := by
  refine Has.of (rans_none (by decide) (by decide)) ft64 rfl (Nat.le_of_ble_eq_true rfl) ?_
  simp (config := { maxSteps := 1000000 }) (disch := first | omega | ((repeat (first | rw [n_new] | rw [n_put])) <;> omega) | fail) only [Tryz.f64, ft76, cc76, G_seq, G_region, G_onil, G_op, GG_true, GX_val, GX_enter, GP_some, put_lt, wantedG_none, eq_self, Nat.zero_add, tget_set, tget_of2, evalO_tmp, evalO_nsl, evalO_func, cx_move, cx_assign, cx_call, xcallv_func, List.toList_toArray, List.map_cons, List.map_nil, List.length_cons, List.length_nil, List.append_nil, List.nil_append, List.getElem?_cons_zero, List.getElem?_cons_succ, if_true, if_false, Nat.reduceAdd, Nat.reduceEqDiff]
  refine GCall.of (has_clone hp h0 hS) ?_
  rintro v H1 ⟨⟨b, es, rfl, hb, hb1, hg⟩, k1⟩
  obtain ⟨bq, eq, rfl, hbq, hgq⟩ := hq
  have n1 := k1.le
  simp (config := { maxSteps := 1000000 }) (disch := first | omega | ((repeat (first | rw [n_new] | rw [n_put])) <;> omega) | fail) only [tt53, G_seq, G_block, G_region, G_onil, G_op, GG_true, GX_val, GP_some, put_lt, wantedG_none, eq_self, tget_set, tget_of2, nbeq, evalO_tmp, evalO_int, cx_move, cx_assign, cx_builtin, bi_len, tyAt0, xlen_sl, List.map_cons, List.map_nil, List.getElem?_cons_zero, List.getElem?_cons_succ, cond_true, decide_true, if_true, if_false, Nat.reduceEqDiff]
  refine G_loop_ind (fun k s => ∃ tm H2 i, s = ⟨tm, [], H2⟩ ∧ k + i = g.length ∧ tget tm 5 = .slice (some ⟨b, 0, none⟩) f.length f.length ∧ tget tm 10 = .slice (some ⟨bq, 0, none⟩) g.length g.length ∧ tget tm 11 = .int .i64 (g.length : Int) ∧ tget tm 12 = .int .i64 ((i : Nat) : Int) ∧
    H2.get b = some (.cells (((orB f g).take i ++ f.drop i).map .bool) 4 es 0) ∧ H2.n = H1.n ∧ (∀ k, k ≠ b → H2.get k = H1.get k)) ?_ g.length _ ?_
  · rintro k ih s ⟨tm, H2, i, rfl, hk, h5, h10, h11, h12, gb, n2, q2⟩
    by_cases hi : (i : Int) < (g.length : Int)
    · have hi' : i < g.length := by omega
      have gq2 : H2.get bq = some (.cells (g.map .bool) 4 eq 0) := by rw [q2 _ (by omega), k1.get (by omega)]; exact hgq
      obtain ⟨x, hx⟩ : ∃ x, f[i]? = some x := ⟨_, List.getElem?_eq_getElem (by omega)⟩
      obtain ⟨y, hy⟩ : ∃ y, g[i]? = some y := ⟨_, List.getElem?_eq_getElem (by omega)⟩
      have hlo : (orB f g).length = g.length := by simp only [orB, List.length_zipWith]; omega
      have hrow : (((orB f g).take i ++ f.drop i).map Value.bool)[i]? = some (.bool x) := by
        rw [List.getElem?_map, List.getElem?_append_right (by rw [List.length_take]; omega), List.length_take, hlo, Nat.min_eq_left (by omega), List.getElem?_drop, Nat.sub_self, Nat.add_zero, hx]; rfl
      have hyr : (g.map Value.bool)[i]? = some (.bool y) := by rw [List.getElem?_map, hy]; rfl
      have hset : ((((orB f g).take i ++ f.drop i).map Value.bool).set i (.bool (x || y))) = (((orB f g).take (i + 1) ++ f.drop (i + 1)).map Value.bool) := by
        rw [← List.map_set, take_drop_set (z := x || y) (by simp only [orB, List.getElem?_zipWith, hx, hy]) (by omega)]
      have hlen : i < (((orB f g).take i ++ f.drop i).map Value.bool).length := by
        rw [List.length_map, List.length_append, List.length_take, List.length_drop]; omega
      generalize (((orB f g).take i ++ f.drop i).map Value.bool) = row at *
      cases x with
      | true =>
        simp (config := { maxSteps := 1000000 }) (disch := first | assumption | omega | ((repeat (first | rw [n_new] | rw [n_put])) <;> omega) | fail) only [tt53, tt4, h5, h10, h11, h12, decide_eq_true hi, gq2, gb, hrow, hyr, G_skip, G_seq, G_cond, GIf_true, G_block, G_region, G_onil, G_op, GG_true, GG_false, GX_val, GP_some, put_lt, wantedG_none, wantedG_some, wG_some, isB_bool, List.getElem?_toArray, eq_self, Nat.zero_add, tget_set, nbeq, nble, evalO_tmp, evalO_bool, Tr.get_set, oval_eq, cx_move, cx_assign, cx_pick, xpick_true, cx_load, cx_store, cx_bin, cx_indexAddr, loadAt_some, loadIn_cells, storeAt_some, storeIn_cells, xindexAddr_some, natOf_nat, xidx_sl, cbin_lss, isJunk, oneC, Value.cells, List.toList_toArray, List.all_cons, List.all_nil, List.length_cons, List.length_nil, List.head?_drop, Nat.mul_one, List.getElem?_cons_zero, List.getElem?_cons_succ, cond_true, cond_false, Bool.and_true, Bool.not_false, decide_true, if_true, if_false, Nat.reduceEqDiff, Nat.reduceLeDiff]
        rw [splice_one hlen]
        simp (config := { maxSteps := 1000000 }) (disch := first | assumption | omega | ((repeat (first | rw [n_new] | rw [n_put])) <;> omega) | fail) only [h12, G_again, G_region, G_blkN, G_onil, G_op, GG_true, GX_val, GX_skip, GP_some, put_lt, put_none, wantedG_none, eq_self, tget_set, evalO_tmp, evalO_int, oval_eq, oskip_some, cx_move, cx_bin, cbin_add, wrap_nat_add1, Option.map_some, if_true, if_false, Nat.reduceEqDiff]
        refine ih (k - 1) _ (by omega) ⟨_, _, i + 1, rfl, by omega, ?_, ?_, ?_, ?_, ?_, n2, ?_⟩
        · simp (config := { maxSteps := 1000000 }) (disch := first | omega | ((repeat (first | rw [n_new] | rw [n_put])) <;> omega) | fail) only [h5, eq_self, tget_set, if_false, Nat.reduceEqDiff]
        · simp (config := { maxSteps := 1000000 }) (disch := first | omega | ((repeat (first | rw [n_new] | rw [n_put])) <;> omega) | fail) only [h10, eq_self, tget_set, if_false, Nat.reduceEqDiff]
        · simp (config := { maxSteps := 1000000 }) (disch := first | omega | ((repeat (first | rw [n_new] | rw [n_put])) <;> omega) | fail) only [h11, eq_self, tget_set, if_false, Nat.reduceEqDiff]
        · simp (config := { maxSteps := 1000000 }) (disch := first | omega | ((repeat (first | rw [n_new] | rw [n_put])) <;> omega) | fail) only [h12, eq_self, tget_set, if_true, if_false, Nat.reduceEqDiff]
        · rw [get_put_eq rfl, ← hset]; rfl
        · intro k hk; rw [get_put_ne hk]; exact q2 k hk
      | false =>
        simp (config := { maxSteps := 1000000 }) (disch := first | assumption | omega | ((repeat (first | rw [n_new] | rw [n_put])) <;> omega) | fail) only [tt53, tt4, h5, h10, h11, h12, decide_eq_true hi, gq2, gb, hrow, hyr, G_skip, G_seq, G_cond, GIf_true, G_block, G_region, G_onil, G_op, GG_true, GX_val, GP_some, put_lt, wantedG_none, wantedG_some, wG_some, isB_bool, List.getElem?_toArray, eq_self, Nat.zero_add, tget_set, nbeq, nble, evalO_tmp, evalO_bool, Tr.get_set, oval_eq, cx_move, cx_assign, cx_pick, xpick_false, cx_load, cx_store, cx_bin, cx_indexAddr, loadAt_some, loadIn_cells, storeAt_some, storeIn_cells, xindexAddr_some, natOf_nat, xidx_sl, cbin_lss, isJunk, oneC, Value.cells, List.toList_toArray, List.all_cons, List.all_nil, List.length_cons, List.length_nil, List.head?_drop, Nat.mul_one, List.getElem?_cons_zero, List.getElem?_cons_succ, cond_true, cond_false, Bool.and_true, Bool.not_false, decide_true, if_true, if_false, Nat.reduceEqDiff, Nat.reduceLeDiff]
        rw [splice_one hlen]
        simp (config := { maxSteps := 1000000 }) (disch := first | assumption | omega | ((repeat (first | rw [n_new] | rw [n_put])) <;> omega) | fail) only [h12, G_again, G_region, G_blkN, G_onil, G_op, GG_true, GX_val, GX_skip, GP_some, put_lt, put_none, wantedG_none, eq_self, tget_set, evalO_tmp, evalO_int, oval_eq, oskip_some, cx_move, cx_bin, cbin_add, wrap_nat_add1, Option.map_some, if_true, if_false, Nat.reduceEqDiff]
        refine ih (k - 1) _ (by omega) ⟨_, _, i + 1, rfl, by omega, ?_, ?_, ?_, ?_, ?_, n2, ?_⟩
        · simp (config := { maxSteps := 1000000 }) (disch := first | omega | ((repeat (first | rw [n_new] | rw [n_put])) <;> omega) | fail) only [h5, eq_self, tget_set, if_false, Nat.reduceEqDiff]
        · simp (config := { maxSteps := 1000000 }) (disch := first | omega | ((repeat (first | rw [n_new] | rw [n_put])) <;> omega) | fail) only [h10, eq_self, tget_set, if_false, Nat.reduceEqDiff]
        · simp (config := { maxSteps := 1000000 }) (disch := first | omega | ((repeat (first | rw [n_new] | rw [n_put])) <;> omega) | fail) only [h11, eq_self, tget_set, if_false, Nat.reduceEqDiff]
        · simp (config := { maxSteps := 1000000 }) (disch := first | omega | ((repeat (first | rw [n_new] | rw [n_put])) <;> omega) | fail) only [h12, eq_self, tget_set, if_true, if_false, Nat.reduceEqDiff]
        · rw [get_put_eq rfl, ← hset]; cases y <;> rfl
        · intro k hk; rw [get_put_ne hk]; exact q2 k hk
    · have hend : (orB f g).take i ++ f.drop i = orB f g := by
        have hlo : (orB f g).length = g.length := by simp only [orB, List.length_zipWith]; omega
        rw [List.take_of_length_le (by omega), List.drop_eq_nil_of_le (by omega), List.append_nil]
      rw [hend] at gb
      simp (config := { maxSteps := 1000000 }) (disch := first | assumption | omega | ((repeat (first | rw [n_new] | rw [n_put])) <;> omega) | fail) only [h5, h11, h12, decide_eq_false hi, G_nil, G_seq, G_cond, GIf_false, G_exit, G_ret, G_region, G_codeE, G_lpE, G_blkE, G_onil, G_op, GG_true, GX_val, GP_some, put_lt, wantedG_none, eq_self, tget_set, evalO_tmp, oval_eq, cx_move, cx_assign, cx_bin, cbin_lss, resAll, resOne, tupV1, Outs_ret, OutR_some, if_true, if_false, Nat.reduceEqDiff]
      have hlo : (orB f g).length = f.length := by simp only [orB, List.length_zipWith]; omega
      refine ⟨trivial, ⟨b, es, by rw [hlo], by omega, gb⟩, ⟨by omega, fun {k} hk => ?_⟩⟩
      rw [q2 k (by omega), k1.get hk]
  · refine ⟨_, _, 0, rfl, rfl, ?_, ?_, ?_, ?_, ?_, rfl, fun _ _ => rfl⟩
    all_goals first | (simp (config := { maxSteps := 1000000 }) (disch := first | omega | ((repeat (first | rw [n_new] | rw [n_put])) <;> omega) | fail) only [cast_lit, eq_self, tget_set, tget_of2, List.drop_zero, List.getElem?_cons_succ, if_true, if_false, Nat.reduceEqDiff]; done) | skip
    · rw [hg]; simp
end
end Go.Proofs
