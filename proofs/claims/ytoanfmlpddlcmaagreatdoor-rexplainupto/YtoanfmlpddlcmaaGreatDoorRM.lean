/- The reference's Fit, walked at a text's expression (no statement of the program is proved here). -/
import Derived.Test.YtoanfmlpddlcmaaGreatDoorRL
namespace Go.Proofs
open Go Go.PE
noncomputable section
set_option maxRecDepth 100000 in
set_option maxHeartbeats 8000000 in
theorem has_fit {H : Hp} {x : Value} {cs : List Nat} (hx : XAt H x cs) (hc : cs.length ≤ 400) (hok : ∀ c ∈ cs, Okc c) : Has rE 8 [x] H fun r H' => r = .bool true ∧ Keep H H' := by
  refine Has.of (rans_none (by decide) (by decide)) ft8 rfl (Nat.le_of_ble_eq_true rfl) ?_
  rcases hx with ⟨c, v, rfl, rfl, hv⟩ | ⟨h2, v, rfl, hv⟩
  · have hok' := hok c (by simp)
    have hk : ∀ H', Keep (H.new (.cells [.int .i64 2, v, .slice none 0 0] 25 none 0)) H' → H'.get H.n = some (.cells [.int .i64 2, v, .slice none 0 0] 25 none 0) := fun H' k => (k.get (Nat.lt_succ_self _)).trans (get_new_eq rfl)
    have k0 : Keep H (H.new (.cells [.int .i64 2, v, .slice none 0 0] 25 none 0)) := (Keep.refl H).new _
    simp (config := { maxSteps := 1000000 }) (disch := first | omega | ((repeat (first | rw [n_new] | rw [n_put])) <;> omega) | fail) only [Tryz.f8, tt25, ft24, cc24, G_seq, G_region, G_onil, G_op, GG_true, GX_val, GX_enter, GP_some, put_lt, wantedG_none, eq_self, Nat.zero_add, tget_set, tget_of1, evalO_tmp, evalO_int, evalO_bool, evalO_func, oval_eq, xnew_eq, get_new_eq, cx_assign, cx_box, cx_load, cx_call, xcallv_func, loadAt_some, loadIn_cells, isJunk, takeN, Value.cells, List.toList_toArray, List.map_cons, List.map_nil, List.length_cons, List.length_nil, List.append_nil, List.nil_append, List.drop_zero, List.head?_cons, List.getElem?_cons_zero, List.getElem?_cons_succ, Option.map_some, cond_true, cond_false, if_true, if_false, Nat.reduceEqDiff]
    refine GCall.of (nodes_letter (v := v) (n := 19999) (hv.keep k0) (by omega)) ?_
    rintro r H1 ⟨rfl, k1⟩
    have g1 := hk H1 k1
    have d1 : decide ((0 : Int) ≤ ((19999 : Nat) : Int)) = true := decide_eq_true (by omega)
    simp (config := { maxSteps := 1000000 }) (disch := first | omega | ((repeat (first | rw [n_new] | rw [n_put])) <;> omega) | fail) only [tt25, g1, ft25, cc25, G_op, GG_true, GX_val, GX_enter, GP_some, put_lt, wantedG_none, wantedG_some, wG_some, isB_bool, List.getElem?_toArray, cast_lit, eq_self, Int.reduceLE, tget_set, tget_of1, evalO_tmp, evalO_int, evalO_func, Tr.get_set, oval_eq, cx_move, cx_load, cx_bin, cx_call, xcallv_func, loadAt_some, loadIn_cells, cbin_geq, takeN, List.map_cons, List.map_nil, List.append_nil, List.nil_append, List.drop_zero, List.head?_cons, List.getElem?_cons_zero, List.getElem?_cons_succ, Option.map_some, cond_true, Bool.not_true, decide_true, if_true, if_false, Nat.reduceEqDiff]
    refine GCall.of (shaped_letter (v := v) (hv.keep (k0.trans k1)) hok'.1 hok'.2) ?_
    rintro r H2 ⟨rfl, k2⟩
    have g2 := hk H2 (k1.trans k2)
    simp (config := { maxSteps := 1000000 }) (disch := first | omega | ((repeat (first | rw [n_new] | rw [n_put])) <;> omega) | fail) only [tt25, g2, ft26, cc26, G_op, GG_true, GX_val, GX_enter, GP_some, put_lt, wantedG_none, wantedG_some, wG_some, isB_bool, List.getElem?_toArray, eq_self, tget_set, tget_of1, evalO_tmp, evalO_bool, evalO_func, Tr.get_set, oval_eq, cx_move, cx_pick, xpick_true, cx_load, cx_call, xcallv_func, loadAt_some, loadIn_cells, takeN, List.map_cons, List.map_nil, List.append_nil, List.nil_append, List.drop_zero, List.head?_cons, List.getElem?_cons_zero, List.getElem?_cons_succ, Option.map_some, cond_true, Bool.not_true, if_true, if_false, Nat.reduceEqDiff]
    refine GCall.of (leaves_letter (v := v) (hv.keep (k0.trans (k1.trans k2)))) ?_
    rintro r H3 ⟨rfl, k3⟩
    have g3 := hk H3 ((k1.trans k2).trans k3)
    have d3 : decide ((1 : Int) ≤ (400 : Int)) = true := decide_eq_true (by omega)
    simp (config := { maxSteps := 1000000 }) (disch := first | omega | ((repeat (first | rw [n_new] | rw [n_put])) <;> omega) | fail) only [tt25, g3, ft27, cc27, G_op, GG_true, GX_val, GX_enter, GP_some, put_lt, wantedG_none, wantedG_some, wG_some, isB_bool, List.getElem?_toArray, eq_self, Int.reduceLE, tget_set, tget_of1, evalO_tmp, evalO_int, evalO_bool, evalO_func, Tr.get_set, oval_eq, cx_move, cx_pick, xpick_true, cx_load, cx_bin, cx_call, xcallv_func, loadAt_some, loadIn_cells, cbin_leq, takeN, List.map_cons, List.map_nil, List.append_nil, List.nil_append, List.drop_zero, List.head?_cons, List.getElem?_cons_zero, List.getElem?_cons_succ, Option.map_some, cond_true, Bool.not_true, decide_true, if_true, if_false, Nat.reduceEqDiff]
    refine GCall.of (deep_letter (v := v) (hv.keep (k0.trans ((k1.trans k2).trans k3)))) ?_
    rintro r H4 ⟨rfl, k4⟩
    simp (config := { maxSteps := 1000000 }) (disch := first | omega | ((repeat (first | rw [n_new] | rw [n_put])) <;> omega) | fail) only [G_nil, G_ret, G_onil, G_op, GG_true, GX_val, GP_some, put_lt, wantedG_none, wantedG_some, wG_some, isB_bool, List.getElem?_toArray, eq_self, Int.reduceLE, tget_set, tget_of1, evalO_tmp, evalO_int, evalO_bool, Tr.get_set, oval_eq, cx_assign, cx_pick, xpick_true, cx_bin, cbin_leq, resAll, resOne, tupV1, Outs_ret, OutR_some, List.getElem?_cons_zero, List.getElem?_cons_succ, cond_true, Bool.not_true, decide_true, if_true, if_false, Nat.reduceEqDiff]
    exact ⟨trivial, trivial, k0.trans (((k1.trans k2).trans k3).trans k4)⟩
  · obtain ⟨bb, rfl, hs⟩ : ∃ bb, v = .slice (some ⟨bb, 0, none⟩) cs.length cs.length ∧ SubsAt H bb cs := by
      rcases hv with ⟨rfl, _⟩ | ⟨_, bb, l, rfl, _, hb, hg, hs⟩
      · simp at h2
      · exact ⟨bb, rfl, hb, l, hg, hs⟩
    have hk : ∀ H', Keep (H.new (.cells [.int .i64 3, .slice none 0 0, .slice (some ⟨bb, 0, none⟩) cs.length cs.length] 25 none 0)) H' → H'.get H.n = some (.cells [.int .i64 3, .slice none 0 0, .slice (some ⟨bb, 0, none⟩) cs.length cs.length] 25 none 0) := fun H' k => (k.get (Nat.lt_succ_self _)).trans (get_new_eq rfl)
    have k0 : Keep H (H.new (.cells [.int .i64 3, .slice none 0 0, .slice (some ⟨bb, 0, none⟩) cs.length cs.length] 25 none 0)) := (Keep.refl H).new _
    simp (config := { maxSteps := 1000000 }) (disch := first | omega | ((repeat (first | rw [n_new] | rw [n_put])) <;> omega) | fail) only [Tryz.f8, tt25, ft24, cc24, G_seq, G_region, G_onil, G_op, GG_true, GX_val, GX_enter, GP_some, put_lt, wantedG_none, eq_self, Nat.zero_add, tget_set, tget_of1, evalO_tmp, evalO_int, evalO_bool, evalO_func, oval_eq, xnew_eq, get_new_eq, cx_assign, cx_box, cx_load, cx_call, xcallv_func, loadAt_some, loadIn_cells, isJunk, takeN, Value.cells, List.toList_toArray, List.map_cons, List.map_nil, List.length_cons, List.length_nil, List.append_nil, List.nil_append, List.drop_zero, List.head?_cons, List.getElem?_cons_zero, List.getElem?_cons_succ, Option.map_some, cond_true, cond_false, if_true, if_false, Nat.reduceEqDiff]
    refine GCall.of (nodes_cat (bb := bb) (hs.keep k0) hc) ?_
    rintro r H1 ⟨rfl, k1⟩
    have g1 := hk H1 k1
    have d1 : decide ((0 : Int) ≤ ((19999 - cs.length : Nat) : Int)) = true := decide_eq_true (by omega)
    simp (config := { maxSteps := 1000000 }) (disch := first | omega | ((repeat (first | rw [n_new] | rw [n_put])) <;> omega) | fail) only [tt25, g1, d1, ft25, cc25, G_op, GG_true, GX_val, GX_enter, GP_some, put_lt, wantedG_none, wantedG_some, wG_some, isB_bool, List.getElem?_toArray, eq_self, tget_set, tget_of1, evalO_tmp, evalO_int, evalO_func, Tr.get_set, oval_eq, cx_move, cx_load, cx_bin, cx_call, xcallv_func, loadAt_some, loadIn_cells, cbin_geq, takeN, List.map_cons, List.map_nil, List.append_nil, List.nil_append, List.drop_zero, List.head?_cons, List.getElem?_cons_zero, List.getElem?_cons_succ, Option.map_some, cond_true, Bool.not_true, if_true, if_false, Nat.reduceEqDiff]
    refine GCall.of (shaped_cat (bb := bb) (hs.keep (k0.trans k1)) hc h2 hok) ?_
    rintro r H2 ⟨rfl, k2⟩
    have g2 := hk H2 (k1.trans k2)
    simp (config := { maxSteps := 1000000 }) (disch := first | omega | ((repeat (first | rw [n_new] | rw [n_put])) <;> omega) | fail) only [tt25, g2, ft26, cc26, G_op, GG_true, GX_val, GX_enter, GP_some, put_lt, wantedG_none, wantedG_some, wG_some, isB_bool, List.getElem?_toArray, eq_self, tget_set, tget_of1, evalO_tmp, evalO_bool, evalO_func, Tr.get_set, oval_eq, cx_move, cx_pick, xpick_true, cx_load, cx_call, xcallv_func, loadAt_some, loadIn_cells, takeN, List.map_cons, List.map_nil, List.append_nil, List.nil_append, List.drop_zero, List.head?_cons, List.getElem?_cons_zero, List.getElem?_cons_succ, Option.map_some, cond_true, Bool.not_true, if_true, if_false, Nat.reduceEqDiff]
    refine GCall.of (leaves_cat (bb := bb) (hs.keep (k0.trans (k1.trans k2))) hc) ?_
    rintro r H3 ⟨rfl, k3⟩
    have g3 := hk H3 ((k1.trans k2).trans k3)
    have d3 : decide (((cs.length : Nat) : Int) ≤ (400 : Int)) = true := decide_eq_true (by omega)
    simp (config := { maxSteps := 1000000 }) (disch := first | omega | ((repeat (first | rw [n_new] | rw [n_put])) <;> omega) | fail) only [tt25, g3, d3, ft27, cc27, G_op, GG_true, GX_val, GX_enter, GP_some, put_lt, wantedG_none, wantedG_some, wG_some, isB_bool, List.getElem?_toArray, eq_self, tget_set, tget_of1, evalO_tmp, evalO_int, evalO_bool, evalO_func, Tr.get_set, oval_eq, cx_move, cx_pick, xpick_true, cx_load, cx_bin, cx_call, xcallv_func, loadAt_some, loadIn_cells, cbin_leq, takeN, List.map_cons, List.map_nil, List.append_nil, List.nil_append, List.drop_zero, List.head?_cons, List.getElem?_cons_zero, List.getElem?_cons_succ, Option.map_some, cond_true, Bool.not_true, if_true, if_false, Nat.reduceEqDiff]
    refine GCall.of (deep_cat (bb := bb) (hs.keep (k0.trans ((k1.trans k2).trans k3))) hc) ?_
    rintro r H4 ⟨rfl, k4⟩
    simp (config := { maxSteps := 1000000 }) (disch := first | omega | ((repeat (first | rw [n_new] | rw [n_put])) <;> omega) | fail) only [G_nil, G_ret, G_onil, G_op, GG_true, GX_val, GP_some, put_lt, wantedG_none, wantedG_some, wG_some, isB_bool, List.getElem?_toArray, eq_self, Int.reduceLE, tget_set, tget_of1, evalO_tmp, evalO_int, evalO_bool, Tr.get_set, oval_eq, cx_assign, cx_pick, xpick_true, cx_bin, cbin_leq, resAll, resOne, tupV1, Outs_ret, OutR_some, List.getElem?_cons_zero, List.getElem?_cons_succ, cond_true, Bool.not_true, decide_true, if_true, if_false, Nat.reduceEqDiff]
    exact ⟨trivial, trivial, k0.trans (((k1.trans k2).trans k3).trans k4)⟩
end
end Go.Proofs
