/- The function of the statement RexWrites, walked: it returns true (given what the calls that are answered answer). -/
import Derived.Test.YtoanfmlpddlcmaaGreatDoorQW
namespace Go.Proofs
open Go Go.PE
noncomputable section
variable {ans : Tr (List Value → Option Value)} {eff : Tr (List Value → Hp → Option (Value × Hp))}
/-- what the law's function asks of the calls that are answered -/
structure Asked (ans : Tr (List Value → Option Value)) (eff : Tr (List Value → Hp → Option (Value × Hp))) : Prop where
  fit : NoFit ans eff
  txt : NoText ans eff
  join : JoinOk ans eff
  n4 : NoA ans eff 4
  n9 : NoA ans eff 9
  n28 : NoA ans eff 28
  n11 : NoA ans eff 11
  n12 : NoA ans eff 12
  n31 : NoA ans eff 31
  n15 : NoA ans eff 15
  n16 : NoA ans eff 16
  n38 : NoA ans eff 38
  n39 : NoA ans eff 39
  n55 : NoA ans eff 55
  awake : ∀ H, Has (tE ans eff) 6 [] H fun v H' => v = .bool true ∧ H' = H
theorem same_rex {op : Int} {a b : Option Addr} {n n' m m' : Nat} {H : Hp} : sameVal (some (.val (.agg #[.int .i64 op, .slice a n n', .slice b m m']), H)) (some (.agg #[.int .i64 op, .slice a n n', .slice b m m'])) = true := by
  simp [sameVal, veq, veq.veqL]
set_option maxRecDepth 100000 in
set_option maxHeartbeats 32000000 in
theorem has_law (A : Asked ans eff) {x y : RexT} {H : Hp} {c0 d0 : List Value} (hx : RX H x c0) (hx' : RX H y d0) : Has (tE ans eff) 4 [.agg c0.toArray, .agg d0.toArray] H fun v _ => v = .bool true := by
  cases x with | node op set subs =>
  cases y with | node op' set' subs' =>
  have hxx := hx
  have hyy := hx'
  unfold RX at hx
  obtain ⟨sv, bv, els, rfl, hsv, hbv, hsub⟩ := hx
  obtain ⟨asv, rfl, hls⟩ := hsv.lenP
  obtain ⟨ab, rfl, hlb⟩ := hbv.len
  unfold RX at hx'
  obtain ⟨sv', bv', els', rfl, hsv', hbv', hsub'⟩ := hx'
  obtain ⟨asv', rfl, hls'⟩ := hsv'.lenP
  obtain ⟨ab', rfl, hlb'⟩ := hbv'.len
  refine Has.of A.n4 ft4 rfl (Nat.le_of_ble_eq_true rfl) ?_
  generalize hX : RexT.node op set subs = X at *
  generalize hY : RexT.node op' set' subs' = Y at *
  have k0 : Keep H ((H.new (.cells [.int .i64 op, .slice asv set.length set.length, .slice ab els.length els.length] 25 none 0)).new (.cells [.int .i64 op', .slice asv' set'.length set'.length, .slice ab' els'.length els'.length] 25 none 0)) := ((Keep.refl H).new _).new _
  have hbx : ∀ H', Keep ((H.new (.cells [.int .i64 op, .slice asv set.length set.length, .slice ab els.length els.length] 25 none 0)).new (.cells [.int .i64 op', .slice asv' set'.length set'.length, .slice ab' els'.length els'.length] 25 none 0)) H' → H'.get H.n = some (.cells [.int .i64 op, .slice asv set.length set.length, .slice ab els.length els.length] 25 none 0) ∧ H'.get (H.n + 1) = some (.cells [.int .i64 op', .slice asv' set'.length set'.length, .slice ab' els'.length els'.length] 25 none 0) := fun H' k => ⟨((k.get (by simp only [n_new]; omega)).trans (get_new_ne (by rw [n_new]; omega))).trans (get_new_eq rfl), (k.get (by simp only [n_new]; omega)).trans (get_new_eq rfl)⟩
  obtain ⟨g0, g0'⟩ := hbx _ (Keep.refl _)
  simp (config := { maxSteps := 1000000 }) (disch := first | assumption | omega | ((repeat (first | rw [n_new] | rw [n_put])) <;> omega) | fail) only [Tryz.f4, tt25, ft9, cc9, G_seq, G_region, G_onil, G_op, GG_true, GX_val, GX_enter, GP_some, put_lt, wantedG_none, eq_self, Nat.zero_add, tget_set, tget_of2, evalO_tmp, evalO_bool, evalO_func, oval_eq, xnew_eq, get_new_eq, get_new_ne, n_new, cx_assign, cx_box, cx_load, cx_call, xcallv_func, loadAt_some, loadIn_cells, isJunk, takeN, Value.cells, List.toList_toArray, List.map_cons, List.map_nil, List.length_cons, List.length_nil, List.append_nil, List.nil_append, List.drop_zero, List.head?_cons, List.getElem?_cons_zero, List.getElem?_cons_succ, Option.map_some, cond_true, cond_false, if_true, if_false, Nat.reduceAdd, Nat.reduceEqDiff]
  have reL : ∀ {op : Int} {a b : Option Addr} {n n' m m' : Nat} {H : Hp}, sameVal (some (.val (.agg #[.int .i64 op, .slice a n n', .slice b m m']), H)) (some (.agg #[.int .i64 op, .slice a n n', .slice b m m'])) = true := same_rex
  refine GCall.of (has_light A.n9 A.n28 X _ _ (RX.mono k0 _ _ hxx)) ?_
  rintro v H1 ⟨rfl, k1⟩
  obtain ⟨g1, g1'⟩ := hbx _ k1
  have m1 := k0.trans k1
  cases hlx : decide (0 ≤ smallT X 20000) with
  | false =>
    simp (config := { maxSteps := 1000000 }) (disch := first | assumption | omega | ((repeat (first | rw [n_new] | rw [n_put])) <;> omega) | fail) only [ft6, cc6, G_seq, G_cond, GIf_true, G_region, G_onil, G_op, GG_true, GG_false, GX_val, GX_enter, GP_some, put_lt, wantedG_none, wantedG_some, wG_some, isB_bool, List.getElem?_toArray, eq_self, tget_set, tget_of2, evalO_tmp, evalO_bool, evalO_func, Tr.get_set, oval_eq, cx_move, cx_pick, xpick_true, cx_un, cx_call, xcallv_func, un_not, List.map_nil, List.append_nil, List.getElem?_cons_zero, List.getElem?_cons_succ, cond_true, Bool.not_false, if_true, if_false, Nat.reduceEqDiff]
    refine GCall.of (A.awake _) ?_
    rintro v H2 ⟨rfl, rfl⟩
    simp (config := { maxSteps := 1000000 }) (disch := first | omega | ((repeat (first | rw [n_new] | rw [n_put])) <;> omega) | fail) only [G_nil, G_ret, G_codeR, G_onil, G_op, GG_true, GX_val, GP_some, put_lt, wantedG_none, eq_self, tget_set, tget_of2, evalO_tmp, cx_assign, resAll, resOne, tupV1, Outs_ret, OutR_some, List.getElem?_cons_succ, if_true, if_false, Nat.reduceEqDiff]
    exact ⟨trivial, trivial⟩
  | true =>
  simp (config := { maxSteps := 1000000 }) (disch := first | assumption | omega | ((repeat (first | rw [n_new] | rw [n_put])) <;> omega) | fail) only [tt25, g1', ft9, cc9, G_op, GG_true, GX_val, GX_enter, GP_some, put_lt, wantedG_none, wantedG_some, wG_some, isB_bool, List.getElem?_toArray, eq_self, tget_set, tget_of2, evalO_tmp, evalO_func, Tr.get_set, oval_eq, cx_move, cx_load, cx_un, cx_call, xcallv_func, loadAt_some, loadIn_cells, takeN, un_not, List.map_cons, List.map_nil, List.append_nil, List.nil_append, List.drop_zero, List.head?_cons, List.getElem?_cons_zero, List.getElem?_cons_succ, Option.map_some, cond_true, cond_false, Bool.not_true, Bool.not_false, if_true, if_false, Nat.reduceEqDiff]
  refine GCall.of (has_light A.n9 A.n28 Y _ _ (RX.mono m1 _ _ hyy)) ?_
  rintro v H2 ⟨rfl, k2⟩
  have k12 := k1.trans k2
  obtain ⟨g2, g2'⟩ := hbx _ k12
  have m2 := k0.trans k12
  cases hly : decide (0 ≤ smallT Y 20000) with
  | false =>
    simp (config := { maxSteps := 1000000 }) (disch := first | assumption | omega | ((repeat (first | rw [n_new] | rw [n_put])) <;> omega) | fail) only [ft6, cc6, G_seq, G_cond, GIf_true, G_region, G_onil, G_op, GG_true, GX_val, GX_enter, GP_some, put_lt, wantedG_none, wantedG_some, wG_some, isB_bool, List.getElem?_toArray, eq_self, tget_set, tget_of2, evalO_tmp, evalO_bool, evalO_func, Tr.get_set, oval_eq, cx_pick, xpick_false, cx_un, cx_call, xcallv_func, un_not, List.map_nil, List.append_nil, List.getElem?_cons_zero, List.getElem?_cons_succ, cond_false, Bool.not_false, if_true, if_false, Nat.reduceEqDiff]
    refine GCall.of (A.awake _) ?_
    rintro v H3 ⟨rfl, rfl⟩
    simp (config := { maxSteps := 1000000 }) (disch := first | omega | ((repeat (first | rw [n_new] | rw [n_put])) <;> omega) | fail) only [G_nil, G_ret, G_codeR, G_onil, G_op, GG_true, GX_val, GP_some, put_lt, wantedG_none, eq_self, tget_set, tget_of2, evalO_tmp, cx_assign, resAll, resOne, tupV1, Outs_ret, OutR_some, List.getElem?_cons_succ, if_true, if_false, Nat.reduceEqDiff]
    exact ⟨trivial, trivial⟩
  | true =>
  have hwx : wtT X ≤ 20000 := by
    have h := of_decide_eq_true hlx
    have := small_wt X 20000 (by decide) h
    omega
  simp (config := { maxSteps := 1000000 }) (disch := first | assumption | omega | ((repeat (first | rw [n_new] | rw [n_put])) <;> omega) | fail) only [G_skip, G_seq, G_cond, GIf_false, G_onil, G_op, GG_true, GX_val, GP_some, put_lt, wantedG_none, wantedG_some, wG_some, isB_bool, List.getElem?_toArray, eq_self, tget_set, tget_of2, evalO_tmp, evalO_bool, Tr.get_set, oval_eq, cx_pick, xpick_false, cx_un, un_not, List.getElem?_cons_zero, List.getElem?_cons_succ, cond_false, Bool.not_true, Bool.not_false, if_true, if_false, Nat.reduceEqDiff]
  rw [G_drawP [(0, []), (2, []), (1, [2]), (3, []), (4, []), (5, []), (6, []), (7, []), (9, []), (10, []), (8, [10, 9]), (11, []), (12, []), (13, []), (14, []), (15, []), (16, []), (17, []), (18, []), (19, [])] (by kernel_rfl) (by kernel_rfl)]
  simp only [planL, List.filterMap_cons, List.filterMap_nil, List.getElem?_toArray, List.getElem?_cons_zero, List.getElem?_cons_succ, Option.map_some]
  simp (config := { maxSteps := 1000000 }) (disch := first | assumption | omega | ((repeat (first | rw [n_new] | rw [n_put])) <;> omega) | fail) only [tt25, g2, ft10, cc10, G_planC, G_reN, G_onil, G_op, GG_true, GX_val, GX_enter, GP_some, put_lt, wantedG_none, eq_self, tget_set, tget_of2, evalO_tmp, evalO_func, oval_eq, cx_load, cx_call, xcallv_func, loadAt_some, loadIn_cells, takeN, List.map_cons, List.map_nil, List.append_nil, List.nil_append, List.drop_zero, List.head?_cons, List.getElem?_cons_succ, Option.map_some, cond_true, if_true, if_false, Nat.reduceEqDiff]
  refine GCall.of (has_fit10 A.fit X _ _ (by omega) (RX.mono m2 _ _ hxx)) ?_
  rintro v H3 ⟨rfl, k3⟩
  have k13 := k12.trans k3
  obtain ⟨g3, g3'⟩ := hbx _ k13
  have m3 := k0.trans k13
  simp (config := { maxSteps := 1000000 }) (disch := first | omega | ((repeat (first | rw [n_new] | rw [n_put])) <;> omega) | fail) only [G_onil, GP_some, put_lt]
  rw [G_reC (by simp (config := { maxSteps := 1000000 }) (disch := first | assumption | omega | ((repeat (first | rw [n_new] | rw [n_put])) <;> omega) | fail) only [reOne, tt25, g3, reL, wantedG_none, eq_self, tget_set, tget_of2, evalO_tmp, Tr.get_set, oval_eq, cx_load, loadAt_some, loadIn_cells, takeN, List.drop_zero, List.head?_cons, List.getElem?_cons_succ, Option.map_some, cond_true, if_true, if_false, Nat.reduceEqDiff])]
  simp (config := { maxSteps := 1000000 }) (disch := first | assumption | omega | ((repeat (first | rw [n_new] | rw [n_put])) <;> omega) | fail) only [ft8, cc8, G_planC, G_reN, G_op, GG_true, GX_enter, wantedG_none, eq_self, tget_set, tget_of2, evalO_tmp, evalO_func, cx_call, xcallv_func, List.map_cons, List.map_nil, List.append_nil, List.nil_append, List.getElem?_cons_succ, if_true, if_false, Nat.reduceEqDiff]
  refine GCall.of (has_fit8 A.fit X _ _ hwx (RX.mono m3 _ _ hxx)) ?_
  rintro v H4 ⟨rfl, k4⟩
  have k14 := k13.trans k4
  obtain ⟨g4, g4'⟩ := hbx _ k14
  have m4 := k0.trans k14
  have nf : (!(fitT X == fitT X)) = false := by cases fitT X <;> rfl
  simp (config := { maxSteps := 1000000 }) (disch := first | assumption | omega | ((repeat (first | rw [n_new] | rw [n_put])) <;> omega) | fail) only [tt25, g4, g4', nf, ft11, cc11, G_planC, G_reN, G_onil, G_op, GG_true, GX_val, GX_enter, GP_some, put_lt, wantedG_none, wantedG_some, wG_some, isB_bool, List.getElem?_toArray, eq_self, tget_set, tget_of2, evalO_tmp, evalO_func, Tr.get_set, oval_eq, cx_move, cx_load, cx_bin, cx_call, xcallv_func, loadAt_some, loadIn_cells, takeN, neB, List.map_cons, List.map_nil, List.append_nil, List.nil_append, List.drop_zero, List.head?_cons, List.getElem?_cons_zero, List.getElem?_cons_succ, Option.map_some, cond_true, cond_false, Bool.not_false, if_true, if_false, Nat.reduceEqDiff]
  refine GCall.of (has_same11 A.n11 A.fit.n30 A.n31 X _ _ Y _ (RX.mono m4 _ _ hxx) (RX.mono m4 _ _ hyy)) ?_
  rintro v H5 ⟨rfl, k5⟩
  have k15 := k14.trans k5
  obtain ⟨g5, g5'⟩ := hbx _ k15
  have m5 := k0.trans k15
  simp (config := { maxSteps := 1000000 }) (disch := first | omega | ((repeat (first | rw [n_new] | rw [n_put])) <;> omega) | fail) only [G_onil, GP_some, put_lt]
  rw [G_reC (by simp (config := { maxSteps := 1000000 }) (disch := first | assumption | omega | ((repeat (first | rw [n_new] | rw [n_put])) <;> omega) | fail) only [reOne, tt25, g5', reL, wantedG_some, wG_some, isB_bool, List.getElem?_toArray, eq_self, tget_set, tget_of2, evalO_tmp, Tr.get_set, oval_eq, cx_load, loadAt_some, loadIn_cells, takeN, List.drop_zero, List.head?_cons, List.getElem?_cons_zero, List.getElem?_cons_succ, Option.map_some, cond_true, cond_false, Bool.not_false, if_true, if_false, Nat.reduceEqDiff]), G_reC (by simp (config := { maxSteps := 1000000 }) (disch := first | assumption | omega | ((repeat (first | rw [n_new] | rw [n_put])) <;> omega) | fail) only [reOne, tt25, g5, reL, wantedG_some, wG_some, isB_bool, List.getElem?_toArray, eq_self, tget_set, tget_of2, evalO_tmp, Tr.get_set, oval_eq, cx_load, loadAt_some, loadIn_cells, takeN, List.drop_zero, List.head?_cons, List.getElem?_cons_zero, List.getElem?_cons_succ, Option.map_some, cond_true, cond_false, Bool.not_false, if_true, if_false, Nat.reduceEqDiff])]
  simp (config := { maxSteps := 1000000 }) (disch := first | assumption | omega | ((repeat (first | rw [n_new] | rw [n_put])) <;> omega) | fail) only [ft12, cc12, G_planC, G_reN, G_op, GG_true, GX_enter, wantedG_some, wG_some, isB_bool, List.getElem?_toArray, eq_self, tget_set, tget_of2, evalO_tmp, evalO_func, Tr.get_set, cx_call, xcallv_func, List.map_cons, List.map_nil, List.append_nil, List.nil_append, List.getElem?_cons_zero, List.getElem?_cons_succ, cond_false, Bool.not_false, if_true, if_false, Nat.reduceEqDiff]
  refine GCall.of (has_same12 A.n12 A.fit.n32 X _ _ Y _ (RX.mono m5 _ _ hxx) (RX.mono m5 _ _ hyy)) ?_
  rintro v H6 ⟨rfl, k6⟩
  have k16 := k15.trans k6
  obtain ⟨g6, g6'⟩ := hbx _ k16
  have m6 := k0.trans k16
  have ns : (!(sameT X Y == sameT X Y)) = false := by cases sameT X Y <;> rfl
  simp (config := { maxSteps := 1000000 }) (disch := first | assumption | omega | ((repeat (first | rw [n_new] | rw [n_put])) <;> omega) | fail) only [tt25, g6, ns, ft11, cc11, G_planC, G_reN, G_onil, G_op, GG_true, GX_val, GX_enter, GP_some, put_lt, wantedG_none, wantedG_some, wG_some, isB_bool, List.getElem?_toArray, eq_self, tget_set, tget_of2, evalO_tmp, evalO_bool, evalO_func, Tr.get_set, oval_eq, cx_move, cx_pick, xpick_false, cx_load, cx_bin, cx_call, xcallv_func, loadAt_some, loadIn_cells, takeN, neB, List.map_cons, List.map_nil, List.append_nil, List.nil_append, List.drop_zero, List.head?_cons, List.getElem?_cons_zero, List.getElem?_cons_succ, Option.map_some, cond_true, cond_false, Bool.not_false, if_true, if_false, Nat.reduceEqDiff]
  refine GCall.of (has_same11 A.n11 A.fit.n30 A.n31 X _ _ X _ (RX.mono m6 _ _ hxx) (RX.mono m6 _ _ hxx)) ?_
  rintro v H7 ⟨rfl, k7⟩
  have k17 := k16.trans k7
  obtain ⟨g7, g7'⟩ := hbx _ k17
  have m7 := k0.trans k17
  rw [sameT_refl X]
  simp (config := { maxSteps := 1000000 }) (disch := first | assumption | omega | ((repeat (first | rw [n_new] | rw [n_put])) <;> omega) | fail) only [G_planC, G_planN, G_reN, G_skip, G_seq, G_cond, GIf_false, G_onil, G_op, GG_true, GX_val, GP_some, put_lt, wantedG_none, wantedG_some, wG_some, isB_bool, List.getElem?_toArray, eq_self, tget_set, tget_of2, evalO_tmp, evalO_bool, Tr.get_set, oval_eq, cx_pick, xpick_false, cx_un, un_not, List.getElem?_cons_zero, List.getElem?_cons_succ, cond_false, Bool.not_true, Bool.not_false, if_true, if_false, Nat.reduceEqDiff]
  rw [G_drawP [(0, []), (1, []), (2, []), (3, []), (4, []), (6, []), (5, [6]), (7, []), (8, []), (9, []), (10, []), (12, []), (11, [12]), (13, []), (14, []), (15, []), (16, []), (17, []), (18, []), (19, []), (20, [])] (by kernel_rfl) (by kernel_rfl)]
  simp only [planL, List.filterMap_cons, List.filterMap_nil, List.getElem?_toArray, List.getElem?_cons_zero, List.getElem?_cons_succ, Option.map_some]
  simp (config := { maxSteps := 1000000 }) (disch := first | assumption | omega | ((repeat (first | rw [n_new] | rw [n_put])) <;> omega) | fail) only [tt25, g7, ft8, cc8, G_planC, G_reN, G_onil, G_op, GG_true, GX_val, GX_enter, GP_some, put_lt, wantedG_none, eq_self, tget_set, tget_of2, evalO_tmp, evalO_func, oval_eq, cx_load, cx_call, xcallv_func, loadAt_some, loadIn_cells, takeN, List.map_cons, List.map_nil, List.append_nil, List.nil_append, List.drop_zero, List.head?_cons, List.getElem?_cons_succ, Option.map_some, cond_true, if_true, if_false, Nat.reduceEqDiff]
  refine GCall.of (has_fit8 A.fit X _ _ hwx (RX.mono m7 _ _ hxx)) ?_
  rintro v H8 ⟨rfl, k8⟩
  have k18 := k17.trans k8
  obtain ⟨g8, g8'⟩ := hbx _ k18
  have m8 := k0.trans k18
  cases hf : fitT X with
  | false =>
    simp (config := { maxSteps := 1000000 }) (disch := first | assumption | omega | ((repeat (first | rw [n_new] | rw [n_put])) <;> omega) | fail) only [G_planC, G_reN, G_onil, G_op, GG_true, GG_false, GX_val, GP_some, put_lt, wantedG_none, wantedG_some, wG_some, isB_bool, List.getElem?_toArray, eq_self, tget_set, tget_of2, evalO_tmp, Tr.get_set, oval_eq, cx_move, cx_un, un_not, List.getElem?_cons_zero, List.getElem?_cons_succ, cond_true, Bool.not_false, if_true, if_false, Nat.reduceEqDiff]
    rw [G_reC (by simp (config := { maxSteps := 1000000 }) (disch := first | assumption | omega | ((repeat (first | rw [n_new] | rw [n_put])) <;> omega) | fail) only [reOne, wantedG_some, wG_some, isB_bool, List.getElem?_toArray, eq_self, Tr.get_set, List.getElem?_cons_zero, List.getElem?_cons_succ, cond_true, Bool.not_false, if_true, if_false, Nat.reduceEqDiff])]
    simp (config := { maxSteps := 1000000 }) (disch := first | assumption | omega | ((repeat (first | rw [n_new] | rw [n_put])) <;> omega) | fail) only [isB_undef, G_planC, G_reN, G_onil, G_op, GG_false, GP_some, put_lt, wantedG_some, wG_some, isB_bool, List.getElem?_toArray, eq_self, Tr.get_set, List.getElem?_cons_zero, List.getElem?_cons_succ, cond_true, Bool.not_false, if_true, if_false, Nat.reduceEqDiff]
    rw [G_reC (by simp (config := { maxSteps := 1000000 }) (disch := first | assumption | omega | ((repeat (first | rw [n_new] | rw [n_put])) <;> omega) | fail) only [reOne, isB_undef, wantedG_some, wG_some, List.getElem?_toArray, eq_self, Tr.get_set, List.getElem?_cons_zero, List.getElem?_cons_succ, if_true, if_false, Nat.reduceEqDiff])]
    simp (config := { maxSteps := 1000000 }) (disch := first | assumption | omega | ((repeat (first | rw [n_new] | rw [n_put])) <;> omega) | fail) only [isB_undef, ft6, cc6, G_planC, G_reN, G_onil, G_op, GG_true, GG_false, GX_val, GX_enter, GP_some, put_lt, wantedG_none, wantedG_some, wG_some, isB_bool, List.getElem?_toArray, eq_self, tget_set, tget_of2, evalO_tmp, evalO_bool, evalO_func, Tr.get_set, cx_move, cx_pick, xpick_true, cx_call, xcallv_func, List.map_nil, List.append_nil, List.getElem?_cons_zero, List.getElem?_cons_succ, cond_true, Bool.not_true, Bool.not_false, if_true, if_false, Nat.reduceEqDiff]
    refine GCall.of (A.awake _) ?_
    rintro v H9 ⟨rfl, rfl⟩
    simp (config := { maxSteps := 1000000 }) (disch := first | omega | ((repeat (first | rw [n_new] | rw [n_put])) <;> omega) | fail) only [G_planC, G_planN, G_reN, G_nil, G_ret, G_onil, G_op, GG_true, GX_val, GP_some, put_lt, wantedG_none, eq_self, tget_set, tget_of2, evalO_tmp, evalO_bool, cx_assign, cx_pick, xpick_true, resAll, resOne, tupV1, Outs_ret, OutR_some, List.getElem?_cons_succ, if_true, if_false, Nat.reduceEqDiff]
    exact ⟨trivial, trivial⟩
  | true =>
  have hsh : shapedT X = true := by
    rw [fitT, Bool.and_eq_true] at hf; exact hf.1
  simp (config := { maxSteps := 1000000 }) (disch := first | assumption | omega | ((repeat (first | rw [n_new] | rw [n_put])) <;> omega) | fail) only [tt25, g8, ft13, cc13, G_planC, G_reN, G_onil, G_op, GG_true, GX_val, GX_enter, GP_some, put_lt, wantedG_none, wantedG_some, wG_some, isB_bool, List.getElem?_toArray, eq_self, tget_set, tget_of2, evalO_tmp, evalO_func, Tr.get_set, oval_eq, cx_move, cx_load, cx_un, cx_call, xcallv_func, loadAt_some, loadIn_cells, takeN, un_not, List.map_cons, List.map_nil, List.append_nil, List.nil_append, List.drop_zero, List.head?_cons, List.getElem?_cons_zero, List.getElem?_cons_succ, Option.map_some, cond_true, cond_false, Bool.not_true, Bool.not_false, if_true, if_false, Nat.reduceEqDiff]
  refine GCall.of (has_print13 A.txt A.join X _ _ hsh (by omega) (RX.mono m8 _ _ hxx)) ?_
  rintro v H9 ⟨rfl, k9⟩
  have k19 := k18.trans k9
  obtain ⟨g9, g9'⟩ := hbx _ k19
  have m9 := k0.trans k19
  simp (config := { maxSteps := 1000000 }) (disch := first | omega | ((repeat (first | rw [n_new] | rw [n_put])) <;> omega) | fail) only [G_onil, GP_some, put_lt]
  rw [G_reC (by simp (config := { maxSteps := 1000000 }) (disch := first | assumption | omega | ((repeat (first | rw [n_new] | rw [n_put])) <;> omega) | fail) only [reOne, tt25, g9, reL, wantedG_some, wG_some, isB_bool, List.getElem?_toArray, eq_self, tget_set, tget_of2, evalO_tmp, Tr.get_set, oval_eq, cx_load, loadAt_some, loadIn_cells, takeN, List.drop_zero, List.head?_cons, List.getElem?_cons_zero, List.getElem?_cons_succ, Option.map_some, cond_true, cond_false, Bool.not_false, if_true, if_false, Nat.reduceEqDiff])]
  simp (config := { maxSteps := 1000000 }) (disch := first | assumption | omega | ((repeat (first | rw [n_new] | rw [n_put])) <;> omega) | fail) only [ft14, cc14, G_planC, G_reN, G_op, GG_true, GX_enter, wantedG_some, wG_some, isB_bool, List.getElem?_toArray, eq_self, tget_set, tget_of2, evalO_tmp, evalO_func, Tr.get_set, cx_call, xcallv_func, List.map_cons, List.map_nil, List.append_nil, List.nil_append, List.getElem?_cons_zero, List.getElem?_cons_succ, cond_false, Bool.not_false, if_true, if_false, Nat.reduceEqDiff]
  refine GCall.of (has_print14 A.txt X _ _ hsh (by omega) (RX.mono m9 _ _ hxx)) ?_
  rintro v H10 ⟨rfl, k10⟩
  have k110 := k19.trans k10
  obtain ⟨g10, g10'⟩ := hbx _ k110
  have m10 := k0.trans k110
  simp (config := { maxSteps := 1000000 }) (disch := first | assumption | omega | ((repeat (first | rw [n_new] | rw [n_put])) <;> omega) | fail) only [tt25, g10, ft15, cc15, G_planC, G_reN, G_onil, G_op, GG_true, GX_val, GX_enter, GP_some, put_lt, wantedG_some, wG_some, isB_bool, List.getElem?_toArray, eq_self, tget_set, tget_of2, evalO_tmp, evalO_func, Tr.get_set, oval_eq, cx_move, cx_load, cx_bin, cx_call, xcallv_func, loadAt_some, loadIn_cells, cbin_seq, takeN, List.map_cons, List.map_nil, List.append_nil, List.nil_append, List.drop_zero, List.head?_cons, List.getElem?_cons_zero, List.getElem?_cons_succ, Option.map_some, cond_true, cond_false, Bool.not_true, Bool.not_false, decide_true, if_true, if_false, Nat.reduceEqDiff]
  refine GCall.of (has_empty A.n15 A.n38 A.n39 A.n55 X _ _ (RX.mono m10 _ _ hxx)) ?_
  rintro v H11 ⟨rfl, k11⟩
  have k111 := k110.trans k11
  obtain ⟨g11, g11'⟩ := hbx _ k111
  have m11 := k0.trans k111
  simp (config := { maxSteps := 1000000 }) (disch := first | omega | ((repeat (first | rw [n_new] | rw [n_put])) <;> omega) | fail) only [G_onil, GP_some, put_lt]
  rw [G_reC (by simp (config := { maxSteps := 1000000 }) (disch := first | assumption | omega | ((repeat (first | rw [n_new] | rw [n_put])) <;> omega) | fail) only [reOne, tt25, g11, reL, wantedG_some, wG_some, isB_bool, List.getElem?_toArray, eq_self, tget_set, tget_of2, evalO_tmp, Tr.get_set, oval_eq, cx_load, loadAt_some, loadIn_cells, takeN, List.drop_zero, List.head?_cons, List.getElem?_cons_zero, List.getElem?_cons_succ, Option.map_some, cond_true, Bool.not_true, if_true, if_false, Nat.reduceEqDiff])]
  simp (config := { maxSteps := 1000000 }) (disch := first | assumption | omega | ((repeat (first | rw [n_new] | rw [n_put])) <;> omega) | fail) only [ft16, cc16, G_planC, G_reN, G_op, GG_true, GX_enter, wantedG_some, wG_some, isB_bool, List.getElem?_toArray, eq_self, tget_set, tget_of2, evalO_tmp, evalO_func, Tr.get_set, cx_call, xcallv_func, List.map_cons, List.map_nil, List.append_nil, List.nil_append, List.getElem?_cons_zero, List.getElem?_cons_succ, cond_true, Bool.not_true, if_true, if_false, Nat.reduceEqDiff]
  refine GCall.of (has_empty16 A.n16 X _ _ hsh (RX.mono m11 _ _ hxx)) ?_
  rintro v H12 ⟨rfl, k12'⟩
  have ne : ((false ^^ emptyT X) == emptyT X) = true := by cases emptyT X <;> rfl
  simp (config := { maxSteps := 1000000 }) (disch := first | assumption | omega | ((repeat (first | rw [n_new] | rw [n_put])) <;> omega) | fail) only [ne, ft6, cc6, G_planC, G_reN, G_onil, G_op, GG_true, GX_val, GX_enter, GP_some, put_lt, wantedG_none, wantedG_some, wG_some, isB_bool, List.getElem?_toArray, eq_self, tget_set, tget_of2, evalO_tmp, evalO_bool, evalO_func, Tr.get_set, oval_eq, cx_move, cx_pick, xpick_true, xpick_false, cx_bin, cx_call, xcallv_func, eqB, List.map_nil, List.append_nil, List.getElem?_cons_zero, List.getElem?_cons_succ, cond_true, cond_false, Bool.not_true, Bool.not_false, if_true, if_false, Nat.reduceEqDiff]
  refine GCall.of (A.awake _) ?_
  rintro v H13 ⟨rfl, rfl⟩
  simp (config := { maxSteps := 1000000 }) (disch := first | omega | ((repeat (first | rw [n_new] | rw [n_put])) <;> omega) | fail) only [G_planC, G_planN, G_reN, G_nil, G_ret, G_onil, G_op, GG_true, GX_val, GP_some, put_lt, wantedG_none, eq_self, tget_set, tget_of2, evalO_tmp, evalO_bool, cx_assign, cx_pick, xpick_true, resAll, resOne, tupV1, Outs_ret, OutR_some, List.getElem?_cons_succ, if_true, if_false, Nat.reduceEqDiff]
  exact ⟨trivial, trivial⟩
end
end Go.Proofs
