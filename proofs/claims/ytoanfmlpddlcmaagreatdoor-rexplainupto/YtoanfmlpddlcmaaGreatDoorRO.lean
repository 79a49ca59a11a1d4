/- The statement RexPlain's function, walked: it answers true at every two texts (the statement itself: the last file of this claim). -/
import Derived.Test.YtoanfmlpddlcmaaGreatDoorRN
namespace Go.Proofs
open Go Go.PE
noncomputable section
theorem has_awake {H : Hp} : Has rE 6 [] H fun v H' => v = .bool true ∧ H' = H := Has.ans rans_6 rfl ⟨rfl, rfl⟩
set_option maxRecDepth 100000 in
set_option maxHeartbeats 8000000 in
theorem has_law {H : Hp} {s t : List UInt8} (hs : s.length ≤ 1048576) (ht : t.length ≤ 1048576) : Has rE 3 [.string (bs s), .string (bs t)] H fun v _ => v = .bool true := by
  refine Has.of (rans_none (by decide) (by decide)) ft3 rfl (Nat.le_of_ble_eq_true rfl) ?_
  simp (config := { maxSteps := 1000000 }) (disch := first | omega | ((repeat (first | rw [n_new] | rw [n_put])) <;> omega) | fail) only [Tryz.f3, ft5, cc5, G_seq, G_region, G_onil, G_op, GG_true, GX_val, GX_enter, GP_some, put_lt, wantedG_none, eq_self, Nat.zero_add, tget_set, tget_of2, evalO_tmp, evalO_bool, evalO_func, cx_move, cx_assign, cx_call, xcallv_func, List.toList_toArray, List.map_cons, List.map_nil, List.length_cons, List.length_nil, List.append_nil, List.nil_append, List.getElem?_cons_zero, List.getElem?_cons_succ, if_true, if_false, Nat.reduceAdd, Nat.reduceEqDiff]
  refine GCall.of (has_plain hs) ?_
  rintro v H1 ⟨x, e, rfl, k1, hx⟩
  have hxs : ∃ a b c, oneC a = true ∧ oneC b = true ∧ oneC c = true ∧ x = .agg #[a, b, c] := by
    rcases hx with ⟨_, rfl⟩ | ⟨_, p, _, _, _, hx⟩
    · exact ⟨_, _, _, rfl, rfl, rfl, rfl⟩
    · rcases hx with ⟨c, v, _, rfl, b, rfl, _⟩ | ⟨_, v, rfl, hv⟩
      · exact ⟨_, _, _, rfl, rfl, rfl, rfl⟩
      · rcases hv with ⟨_, rfl⟩ | ⟨_, b, l, rfl, _⟩
        · exact ⟨_, _, _, rfl, rfl, rfl, rfl⟩
        · exact ⟨_, _, _, rfl, rfl, rfl, rfl⟩
  obtain ⟨a, b, c, ha, hb, hc, hxe⟩ := hxs
  subst hxe
  have hend : ∀ (H : Hp) (tm : Tr Value), Outs rE [ResultVar.tmp 4] (fun v _ => v = .bool true) .ret ⟨tm.set 4 (.bool true), [], H⟩ := fun H tm => by
    simp (config := { maxSteps := 1000000 }) (disch := first | omega | ((repeat (first | rw [n_new] | rw [n_put])) <;> omega) | fail) only [eq_self, tget_set, evalO_tmp, resAll, resOne, tupV1, Outs_ret, OutR_some, if_true]; exact ⟨trivial, trivial⟩
  by_cases he : e = 0
  · subst he
    obtain ⟨p, sp, hp0, hp4, hX⟩ : ∃ p, Spl s p s.length ∧ p ≠ [] ∧ p.length ≤ 400 ∧ XAt H1 (.agg #[a, b, c]) (p.map Prod.fst) := by
      rcases hx with ⟨h, _⟩ | ⟨_, h⟩
      · exact absurd rfl h
      · exact h
    by_cases hs40 : (40 : Int) < (s.length : Int)
    · simp (config := { maxSteps := 1000000 }) (disch := first | omega | ((repeat (first | rw [n_new] | rw [n_put])) <;> omega) | fail) only [tt25, tt9, ha, hb, hc, decide_eq_true hs40, ft6, cc6, G_seq, G_cond, GIf_true, G_region, G_onil, G_op, GG_true, GG_false, GX_val, GX_skip, GX_enter, GP_some, put_lt, put_none, wantedG_none, wantedG_some, wG_some, isB_bool, List.getElem?_toArray, eq_self, Nat.zero_add, tget_set, tget_of2, nbeq, nble, evalO_tmp, evalO_int, evalO_bool, evalO_func, Tr.get_set, oval_eq, oskip_some, xnew_eq, get_new_eq, cx_move, cx_assign, cx_pick, xpick_true, xpick_false, cx_alloc, cx_store, cx_bin, cx_extract, cx_call, cx_builtin, xcallv_func, xalloc_some, storeAt_some, storeIn_cells, xextract_tuple, cbin_neq, cbin_gtr, bi_len, tyAt0, xlen_str, isJunk, splice, Value.cells, List.toList_toArray, List.map_cons, List.map_nil, List.all_cons, List.all_nil, List.length_cons, List.length_nil, List.append_nil, List.getElem?_cons_zero, List.getElem?_cons_succ, Option.map_some, cond_true, cond_false, Bool.and_true, Bool.not_true, Bool.not_false, decide_true, if_true, if_false, Nat.reduceAdd, Nat.reduceEqDiff, Nat.reduceLeDiff]
      refine GCall.of has_awake ?_
      rintro v H2 ⟨rfl, rfl⟩
      simp (config := { maxSteps := 1000000 }) (disch := first | omega | ((repeat (first | rw [n_new] | rw [n_put])) <;> omega) | fail) only [G_nil, G_ret, G_codeR, G_onil, G_op, GG_true, GX_val, GP_some, put_lt, wantedG_none, eq_self, tget_set, tget_of2, evalO_tmp, cx_assign, resAll, resOne, tupV1, Outs_ret, OutR_some, List.getElem?_cons_succ, if_true, if_false, Nat.reduceEqDiff]
      exact ⟨trivial, trivial⟩
    · by_cases ht40 : (40 : Int) < (t.length : Int)
      · simp (config := { maxSteps := 1000000 }) (disch := first | omega | ((repeat (first | rw [n_new] | rw [n_put])) <;> omega) | fail) only [tt25, tt9, ha, hb, hc, decide_eq_false hs40, decide_eq_true ht40, ft6, cc6, G_seq, G_cond, GIf_true, G_region, G_onil, G_op, GG_true, GX_val, GX_skip, GX_enter, GP_some, put_lt, put_none, wantedG_none, wantedG_some, wG_some, isB_bool, List.getElem?_toArray, eq_self, Nat.zero_add, tget_set, tget_of2, nbeq, nble, evalO_tmp, evalO_int, evalO_bool, evalO_func, Tr.get_set, oval_eq, oskip_some, xnew_eq, get_new_eq, cx_move, cx_assign, cx_pick, xpick_false, cx_alloc, cx_store, cx_bin, cx_extract, cx_call, cx_builtin, xcallv_func, xalloc_some, storeAt_some, storeIn_cells, xextract_tuple, cbin_neq, cbin_gtr, bi_len, tyAt0, xlen_str, isJunk, splice, Value.cells, List.toList_toArray, List.map_cons, List.map_nil, List.all_cons, List.all_nil, List.length_cons, List.length_nil, List.append_nil, List.getElem?_cons_zero, List.getElem?_cons_succ, Option.map_some, cond_true, cond_false, Bool.and_true, Bool.not_true, Bool.not_false, decide_true, if_true, if_false, Nat.reduceAdd, Nat.reduceEqDiff, Nat.reduceLeDiff]
        refine GCall.of has_awake ?_
        rintro v H2 ⟨rfl, rfl⟩
        simp (config := { maxSteps := 1000000 }) (disch := first | omega | ((repeat (first | rw [n_new] | rw [n_put])) <;> omega) | fail) only [G_nil, G_ret, G_codeR, G_onil, G_op, GG_true, GX_val, GP_some, put_lt, wantedG_none, eq_self, tget_set, tget_of2, evalO_tmp, cx_assign, resAll, resOne, tupV1, Outs_ret, OutR_some, List.getElem?_cons_succ, if_true, if_false, Nat.reduceEqDiff]
        exact ⟨trivial, trivial⟩
      · have hlim : s.length + t.length ≤ limN := by show _ ≤ 16777216; omega
        have hpl : (p.map Prod.fst).length = p.length := List.length_map ..
        simp (config := { maxSteps := 1000000 }) (disch := first | omega | ((repeat (first | rw [n_new] | rw [n_put])) <;> omega) | fail) only [tt25, tt9, ha, hb, hc, decide_eq_false hs40, decide_eq_false ht40, G_skip, G_seq, G_cond, GIf_false, G_region, G_onil, G_op, GG_true, GX_val, GX_skip, GP_some, put_lt, put_none, wantedG_none, wantedG_some, wG_some, isB_bool, List.getElem?_toArray, eq_self, Nat.zero_add, tget_set, tget_of2, nbeq, nble, evalO_tmp, evalO_int, evalO_bool, evalO_func, Tr.get_set, oval_eq, oskip_some, xnew_eq, get_put_eq, get_new_eq, cx_move, cx_assign, cx_pick, xpick_false, cx_alloc, cx_load, cx_store, cx_bin, cx_extract, cx_call, cx_builtin, xcallv_func, xalloc_some, loadAt_some, loadIn_cells, storeAt_some, storeIn_cells, xextract_tuple, cbin_neq, cbin_gtr, cbin_sadd, bi_len, tyAt0, xlen_str, isJunk, splice, takeN, Value.cells, List.toList_toArray, List.map_cons, List.map_nil, List.all_cons, List.all_nil, List.length_cons, List.length_nil, List.append_nil, List.nil_append, List.drop_zero, List.head?_cons, List.getElem?_cons_zero, List.getElem?_cons_succ, Option.map_some, cond_true, cond_false, Bool.and_true, Bool.not_true, Bool.not_false, decide_true, if_true, if_false, Nat.reduceAdd, Nat.reduceEqDiff, Nat.reduceLeDiff]
        simp (config := { maxSteps := 1000000 }) (disch := first | omega | ((repeat (first | rw [n_new] | rw [n_put])) <;> omega) | fail) only [ft7, cc7, GX_enter]
        have g5 : ((H1.new (.cells [.int .i64 0, .slice none 0 0, .slice none 0 0] 25 none 0)).put H1.n (.cells [a, b, c] 25 none 0)).get H1.n = some (.cells [a, b, c] 25 none 0) := get_put_eq rfl
        have kH : Keep H1 ((H1.new (.cells [.int .i64 0, .slice none 0 0, .slice none 0 0] 25 none 0)).put H1.n (.cells [a, b, c] 25 none 0)) := (by repeat (first | assumption | exact Keep.refl _ | refine Keep.new ?_ _ | refine Keep.put ?_ _ (by first | omega | (simp only [n_new, n_put] <;> omega))))
        have nH : H1.n < ((H1.new (.cells [.int .i64 0, .slice none 0 0, .slice none 0 0] 25 none 0)).put H1.n (.cells [a, b, c] 25 none 0)).n := Nat.lt_succ_self _
        generalize ((H1.new (.cells [.int .i64 0, .slice none 0 0, .slice none 0 0] 25 none 0)).put H1.n (.cells [a, b, c] 25 none 0)) = H2 at *
        refine GCall.of (has_longest (S := s ++ t) (hX.keep kH) (by rw [List.length_append]; omega) (by omega)) ?_
        rintro v H3 ⟨rfl, k3⟩
        rw [walk_app sp]
        simp only [longV]
        have g3 : H3.get H1.n = some (.cells [a, b, c] 25 none 0) := by rw [k3.get nH]; exact g5
        have nH3 : H1.n < H3.n := by have := k3.le; omega
        simp (config := { maxSteps := 1000000 }) (disch := first | omega | ((repeat (first | rw [n_new] | rw [n_put])) <;> omega) | fail) only [tt25, g3, ft7, cc7, G_seq, G_region, G_onil, G_op, GG_true, GX_val, GX_enter, GP_some, put_lt, wantedG_none, eq_self, tget_set, tget_of2, evalO_tmp, evalO_func, oval_eq, cx_move, cx_assign, cx_load, cx_extract, cx_call, xcallv_func, loadAt_some, loadIn_cells, xextract_tuple, takeN, List.map_cons, List.map_nil, List.append_nil, List.nil_append, List.drop_zero, List.head?_cons, List.getElem?_cons_zero, List.getElem?_cons_succ, Option.map_some, cond_true, if_true, if_false, Nat.reduceEqDiff]
        refine GCall.of (has_longest (S := t) ((hX.keep kH).keep k3) (by omega) (by omega)) ?_
        rintro v H4 ⟨rfl, k4⟩
        have g4 : H4.get H1.n = some (.cells [a, b, c] 25 none 0) := by rw [k4.get nH3]; exact g3
        have hw := walk_pre (t := t) sp
        have hw2 : ∀ t', t = s ++ t' → walk t (p.map Prod.fst) (some 0) = some s.length := by rintro t' rfl; exact walk_app sp
        generalize walk t (p.map Prod.fst) (some 0) = o at *
        obtain ⟨m, isB, hv, his⟩ : ∃ (m : Int) (isB : Bool), longV o = .tuple #[.int .i64 m, .bool isB] ∧ isB = o.isSome := by
          cases o with
          | none => exact ⟨_, _, rfl, rfl⟩
          | some q => exact ⟨_, _, rfl, rfl⟩
        rw [hv]
        simp (config := { maxSteps := 1000000 }) (disch := first | omega | ((repeat (first | rw [n_new] | rw [n_put])) <;> omega) | fail) only [tt25, g4, ft8, cc8, G_seq, G_region, G_onil, G_op, GG_true, GX_val, GX_enter, GP_some, put_lt, wantedG_none, eq_self, tget_set, tget_of2, evalO_tmp, evalO_func, oval_eq, cx_move, cx_assign, cx_load, cx_extract, cx_call, xcallv_func, loadAt_some, loadIn_cells, xextract_tuple, takeN, List.map_cons, List.map_nil, List.append_nil, List.nil_append, List.drop_zero, List.head?_cons, List.getElem?_cons_zero, List.getElem?_cons_succ, Option.map_some, cond_true, if_true, if_false, Nat.reduceEqDiff]
        refine GCall.of (has_fit (((hX.keep kH).keep k3).keep k4) (by omega) sp.okc) ?_
        rintro v H5 ⟨rfl, k5⟩
        by_cases hle : (s.length : Int) ≤ (t.length : Int)
        · have hnl : ¬ (t.length : Int) < (s.length : Int) := by omega
          simp (config := { maxSteps := 1000000 }) (disch := first | omega | ((repeat (first | rw [n_new] | rw [n_put])) <;> omega) | fail) only [tt9, bi_min, decide_eq_true hle, if_neg hnl, G_op, GG_true, GX_val, GP_some, put_lt, wantedG_none, wantedG_some, wG_some, isB_bool, List.getElem?_toArray, eq_self, tget_set, tget_of2, nbeq, evalO_tmp, evalO_bool, Tr.get_set, oval_eq, cx_move, cx_pick, xpick_true, cx_bin, cx_slice, cx_builtin, cbin_eql, cbin_geq, cbin_seq, bi_len, tyAt0, xlen_str, cslice_to, eqB, List.map_cons, List.map_nil, List.getElem?_cons_zero, List.getElem?_cons_succ, Option.map_some, Option.map_none, cond_true, Bool.not_true, decide_true, if_true, if_false, Nat.reduceEqDiff]
          have hb : (isB == decide (t.take s.length = s)) = true := by
            rw [his]
            cases o with
            | some q =>
              obtain ⟨_, h2, _⟩ := hw q rfl
              rw [List.take_of_length_le (Nat.le_refl _)] at h2
              rw [decide_eq_true h2]; rfl
            | none =>
              have : ¬ t.take s.length = s := fun h => by
                have := hw2 (t.drop s.length) (by rw [← h, List.length_take, Nat.min_eq_left (by omega)]; exact (List.take_append_drop _ _).symm)
                cases this
              rw [decide_eq_false this]; rfl
          rw [hb]
          simp (config := { maxSteps := 1000000 }) (disch := first | omega | ((repeat (first | rw [n_new] | rw [n_put])) <;> omega) | fail) only [ft6, cc6, GG_true, GX_enter, evalO_func, cx_call, xcallv_func, List.map_nil, List.append_nil, cond_true]
          refine GCall.of has_awake ?_
          rintro v H6 ⟨rfl, rfl⟩
          simp (config := { maxSteps := 1000000 }) (disch := first | omega | ((repeat (first | rw [n_new] | rw [n_put])) <;> omega) | fail) only [G_nil, G_ret, G_onil, G_op, GG_true, GX_val, GP_some, put_lt, wantedG_none, eq_self, tget_set, tget_of2, evalO_tmp, evalO_bool, cx_assign, cx_pick, xpick_true, resAll, resOne, tupV1, Outs_ret, OutR_some, List.getElem?_cons_succ, if_true, if_false, Nat.reduceEqDiff]
          exact ⟨trivial, trivial⟩
        · simp (config := { maxSteps := 1000000 }) (disch := first | omega | ((repeat (first | rw [n_new] | rw [n_put])) <;> omega) | fail) only [tt9, decide_eq_false hle, G_op, GG_true, GG_false, GX_val, GP_some, put_lt, wantedG_none, wantedG_some, wG_some, isB_bool, List.getElem?_toArray, eq_self, tget_set, tget_of2, nbeq, evalO_tmp, evalO_bool, Tr.get_set, oval_eq, cx_move, cx_pick, xpick_true, xpick_false, cx_bin, cx_builtin, cbin_eql, cbin_geq, bi_len, tyAt0, xlen_str, eqB, List.map_cons, List.map_nil, List.getElem?_cons_zero, List.getElem?_cons_succ, cond_true, cond_false, Bool.not_true, decide_true, if_true, if_false, Nat.reduceEqDiff]
          have hb : (isB == false) = true := by
            rw [his]
            cases o with
            | some q => exact absurd (hw q rfl).2.2 (by omega)
            | none => rfl
          rw [hb]
          simp (config := { maxSteps := 1000000 }) (disch := first | omega | ((repeat (first | rw [n_new] | rw [n_put])) <;> omega) | fail) only [ft6, cc6, GG_true, GX_enter, evalO_func, cx_call, xcallv_func, List.map_nil, List.append_nil, cond_true]
          refine GCall.of has_awake ?_
          rintro v H6 ⟨rfl, rfl⟩
          simp (config := { maxSteps := 1000000 }) (disch := first | omega | ((repeat (first | rw [n_new] | rw [n_put])) <;> omega) | fail) only [G_nil, G_ret, G_onil, G_op, GG_true, GX_val, GP_some, put_lt, wantedG_none, eq_self, tget_set, tget_of2, evalO_tmp, evalO_bool, cx_assign, cx_pick, xpick_true, resAll, resOne, tupV1, Outs_ret, OutR_some, List.getElem?_cons_succ, if_true, if_false, Nat.reduceEqDiff]
          exact ⟨trivial, trivial⟩
  · have d : decide (e = 0) = false := decide_eq_false he
    simp (config := { maxSteps := 1000000 }) (disch := first | omega | ((repeat (first | rw [n_new] | rw [n_put])) <;> omega) | fail) only [tt25, ha, hb, hc, d, ft6, cc6, G_seq, G_cond, GIf_true, G_region, G_onil, G_op, GG_true, GG_false, GX_val, GX_skip, GX_enter, GP_some, put_lt, put_none, wantedG_none, wantedG_some, wG_some, isB_bool, List.getElem?_toArray, eq_self, Nat.zero_add, tget_set, tget_of2, nbeq, nble, evalO_tmp, evalO_int, evalO_bool, evalO_func, Tr.get_set, oval_eq, oskip_some, xnew_eq, get_new_eq, cx_move, cx_assign, cx_pick, xpick_true, cx_alloc, cx_store, cx_bin, cx_extract, cx_call, xcallv_func, xalloc_some, storeAt_some, storeIn_cells, xextract_tuple, cbin_neq, isJunk, splice, Value.cells, List.toList_toArray, List.map_nil, List.all_cons, List.all_nil, List.length_cons, List.length_nil, List.append_nil, List.getElem?_cons_zero, List.getElem?_cons_succ, Option.map_some, cond_true, cond_false, Bool.and_true, Bool.not_false, decide_true, if_true, if_false, Nat.reduceAdd, Nat.reduceEqDiff, Nat.reduceLeDiff]
    refine GCall.of has_awake ?_
    rintro v H2 ⟨rfl, rfl⟩
    simp (config := { maxSteps := 1000000 }) (disch := first | omega | ((repeat (first | rw [n_new] | rw [n_put])) <;> omega) | fail) only [G_nil, G_ret, G_codeR, G_onil, G_op, GG_true, GX_val, GP_some, put_lt, wantedG_none, eq_self, tget_set, tget_of2, evalO_tmp, cx_assign, resAll, resOne, tupV1, Outs_ret, OutR_some, List.getElem?_cons_succ, if_true, if_false, Nat.reduceEqDiff]
    exact ⟨trivial, trivial⟩
end
end Go.Proofs
