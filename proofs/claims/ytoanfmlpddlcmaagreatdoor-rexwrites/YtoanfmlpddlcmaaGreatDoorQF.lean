/- Whether an expression is light; whether two are the same, walked (no statement of the program is proved here). -/
import Derived.Test.YtoanfmlpddlcmaaGreatDoorQE
namespace Go.Proofs
open Go Go.PE
noncomputable section
variable {ans : Tr (List Value → Option Value)} {eff : Tr (List Value → Hp → Option (Value × Hp))}
abbrev NoA (ans : Tr (List Value → Option Value)) (eff : Tr (List Value → Hp → Option (Value × Hp))) (k : Nat) : Prop := (tE ans eff).ans.get k = none ∧ (tE ans eff).eff.get k = none
set_option maxRecDepth 100000 in
set_option maxHeartbeats 8000000 in
theorem has_light (hn : NoA ans eff 9) (hn28 : NoA ans eff 28) (t : RexT) (H : Hp) (cs : List Value) (hx : RX H t cs) :
    Has (tE ans eff) 9 [.agg cs.toArray] H fun v H' => v = .bool (decide (0 ≤ smallT t 20000)) ∧ Keep H H' := by
  cases t with | node op set subs =>
  have hx' := hx
  unfold RX at hx
  obtain ⟨sv, bv, els, rfl, hsv, hbv, hsub⟩ := hx
  obtain ⟨asv, rfl, hls⟩ := hsv.lenP
  obtain ⟨ab, rfl, hlb⟩ := hbv.len
  refine Has.of hn ft9 rfl (Nat.le_of_ble_eq_true rfl) ?_
  simp (config := { maxSteps := 1000000 }) (disch := first | omega | ((repeat (first | rw [n_new] | rw [n_put])) <;> omega) | fail) only [Tryz.f9, tt25, ft28, cc28, G_seq, G_region, G_onil, G_op, GG_true, GX_val, GX_enter, GP_some, put_lt, wantedG_none, eq_self, Nat.zero_add, tget_set, tget_of1, evalO_tmp, evalO_int, evalO_bool, evalO_func, oval_eq, xnew_eq, get_new_eq, cx_assign, cx_box, cx_load, cx_call, xcallv_func, loadAt_some, loadIn_cells, isJunk, takeN, Value.cells, List.toList_toArray, List.map_cons, List.map_nil, List.length_cons, List.length_nil, List.append_nil, List.nil_append, List.drop_zero, List.head?_cons, List.getElem?_cons_zero, List.getElem?_cons_succ, Option.map_some, cond_true, cond_false, if_true, if_false, Nat.reduceEqDiff]
  refine GCall.of (has_small hn28 _ _ _ 20000 (RX.mono (by exact (Keep.refl H).new _) _ _ hx') (by decide) (by decide)) ?_
  rintro v H3 ⟨rfl, hge, k3⟩
  simp (config := { maxSteps := 1000000 }) (disch := first | omega | ((repeat (first | rw [n_new] | rw [n_put])) <;> omega) | fail) only [G_nil, G_ret, G_onil, G_op, GG_true, GX_val, GP_some, put_lt, wantedG_none, eq_self, tget_set, tget_of1, evalO_tmp, evalO_int, oval_eq, cx_assign, cx_bin, cbin_geq, resAll, resOne, tupV1, Outs_ret, OutR_some, List.getElem?_cons_succ, if_true, if_false, Nat.reduceEqDiff]
  exact ⟨trivial, (by first | trivial | rfl), ((Keep.refl H).new _).trans k3⟩
/-! ### the same -/
mutual
def sameT : RexT → RexT → Bool
  | .node op set subs, .node op' set' subs' => decide (op = op') && (decide (set = set') && sameL subs subs')
def sameL : RexL → RexL → Bool
  | .nil, .nil => true
  | .cons x l, .cons y m => sameT x y && sameL l m
  | _, _ => false
end
mutual
theorem sameT_refl : ∀ t, sameT t t = true
  | .node op set subs => by unfold sameT; rw [sameL_refl subs]; simp
theorem sameL_refl : ∀ l, sameL l l = true
  | .nil => by unfold sameL; rfl
  | .cons x l => by unfold sameL; rw [sameT_refl x, sameL_refl l]; rfl
end
theorem sameL_len : ∀ {l m : RexL}, sameL l m = true → l.len = m.len
  | .nil, .nil, _ => rfl
  | .nil, .cons _ _, h => by unfold sameL at h; cases h
  | .cons _ _, .nil, h => by unfold sameL at h; cases h
  | .cons x l, .cons y m, h => by
    unfold sameL at h
    rw [Bool.and_eq_true] at h
    show l.len + 1 = m.len + 1
    rw [sameL_len h.2]
abbrev Same11 (f : Nat) (ans : Tr (List Value → Option Value)) (eff : Tr (List Value → Hp → Option (Value × Hp))) (x : RexT) : Prop :=
  ∀ (H : Hp) (cs : List Value) (y : RexT) (cs' : List Value), RX H x cs → RX H y cs' → Has (tE ans eff) f [.agg cs.toArray, .agg cs'.toArray] H fun v H' => v = .bool (sameT x y) ∧ Keep H H'
set_option maxRecDepth 100000 in
set_option maxHeartbeats 8000000 in
theorem has_eqf31 (hn : NoA ans eff 31) {subs : RexL} (ih : ∀ i x r, subs.drop i = .cons x r → Same11 11 ans eff x) {H : Hp} {v w : Value} {els els' : List (List Value)} {subs' : RexL} (hbv : SlAt 3 anyP H v els) (hsub : RXL H subs els) (hbv' : SlAt 3 anyP H w els') (hsub' : RXL H subs' els') :
    Has (tE ans eff) 31 [v, w, .func (.func 11) #[] #[]] H fun r H' => r = .bool (sameL subs subs') ∧ Keep H H' := by
  obtain ⟨ab, rfl, hlb⟩ := hbv.len
  obtain ⟨ab', rfl, hlb'⟩ := hbv'.len
  refine Has.of hn ft31 rfl (Nat.le_of_ble_eq_true rfl) ?_
  by_cases hlm : (els.length : Int) = (els'.length : Int)
  · simp (config := { maxSteps := 1000000 }) (disch := first | omega | ((repeat (first | rw [n_new] | rw [n_put])) <;> omega) | fail) only [Tryz.f31, tt23, decide_eq_true hlm, G_skip, G_seq, G_cond, GIf_false, G_block, G_region, G_onil, G_op, GG_true, GX_val, GP_some, put_lt, wantedG_none, eq_self, Nat.zero_add, tget_set, tget_of3, nbeq, evalO_tmp, evalO_int, evalO_bool, oval_eq, cx_move, cx_assign, cx_bin, cx_builtin, cbin_neq, bi_len, tyAt0, xlen_sl, List.toList_toArray, List.map_cons, List.map_nil, List.length_cons, List.length_nil, List.getElem?_cons_zero, List.getElem?_cons_succ, cond_true, Bool.not_true, decide_true, if_true, if_false, Nat.reduceAdd, Nat.reduceEqDiff]
    refine G_loop_ind (fun k s => ∃ tm H2 i, s = ⟨tm, [], H2⟩ ∧ k + i = els.length ∧ tget tm 1 = .slice ab' els'.length els'.length ∧ tget tm 2 = .func (.func 11) #[] #[] ∧ tget tm 15 = .slice ab els.length els.length ∧ tget tm 16 = .int .i64 ((els.length : Nat) : Int) ∧ tget tm 17 = .int .i64 ((i : Nat) : Int) ∧ Keep H H2 ∧ sameL (subs.drop i) (subs'.drop i) = sameL subs subs') ?_ els.length _ ?_
    · rintro k ih2 s ⟨tm, H2, i, rfl, hk, h1, h2, h15, h16, h17, kH, hd⟩
      by_cases hi : (i : Int) < (els.length : Int)
      · obtain ⟨x, e, hdx, he, hxe⟩ := RXL.at hsub (i := i) (by omega)
        obtain ⟨b, ty, l, r, rfl, hb, hg, hdr, hl3⟩ := hbv.elem he
        have hg2 : H2.get b = some (.cells l ty (some 3) 3) := by rw [kH.get hb]; exact hg
        obtain ⟨y, e', hdy, he', hye⟩ := RXL.at hsub' (i := i) (by omega)
        obtain ⟨b', ty', l', r', rfl, hb', hg', hdr', hl3'⟩ := hbv'.elem he'
        have hg2' : H2.get b' = some (.cells l' ty' (some 3) 3) := by rw [kH.get hb']; exact hg'
        have hle := kH.le
        match e, hl3, e', hl3' with
        | [e0, e1, e2], _, [f0, f1, f2], _ =>
          have hdrx : l.drop (i * 3) = e0 :: e1 :: e2 :: r := hdr
          have hdry : l'.drop (i * 3) = f0 :: f1 :: f2 :: r' := hdr'
          obtain ⟨a1, n1, a2, n2, rfl, rfl, rfl⟩ := hxe.shape
          obtain ⟨a3, n3, a4, n4, rfl, rfl, rfl⟩ := hye.shape
          simp (config := { maxSteps := 1000000 }) (disch := first | omega | ((repeat (first | rw [n_new] | rw [n_put])) <;> omega) | fail) only [tt25, tt23, h1, h2, h15, h16, h17, hg2, hg2', hdrx, hdry, decide_eq_true hi, ft11, cc11, G_skip, G_seq, G_cond, GIf_true, G_block, G_region, G_onil, G_op, GG_true, GX_val, GX_skip, GX_enter, GP_some, put_lt, put_none, wantedG_none, eq_self, Nat.zero_add, tget_set, nbeq, nble, evalO_tmp, oval_eq, oskip_some, xnew_eq, get_put_eq, get_put_ne, get_new_eq, get_new_ne, n_put, n_new, cx_move, cx_assign, cx_alloc, cx_load, cx_store, cx_bin, cx_indexAddr, cx_call, xcallv_func, xalloc_some, loadAt_some, loadIn_cells, storeAt_some, storeIn_cells, xindexAddr_some, natOf_nat, xidx_sl, cbin_lss, isJunk, oneC, splice, takeN, Value.cells, List.toList_toArray, List.map_cons, List.map_nil, List.all_cons, List.all_nil, List.length_cons, List.length_nil, List.append_nil, List.nil_append, List.drop_zero, List.head?_cons, Option.map_some, cond_true, cond_false, Bool.and_true, decide_true, if_true, if_false, Nat.reduceAdd, Nat.reduceEqDiff, Nat.reduceLeDiff]
          refine GCall.of (ih i x _ hdx _ _ y _ (RX.mono ?_ _ _ hxe) (RX.mono ?_ _ _ hye)) ?_
          · exact (by repeat (first | assumption | exact Keep.refl _ | refine Keep.new ?_ _ | refine Keep.put ?_ _ (by first | omega | (simp only [n_new, n_put] <;> omega))))
          · exact (by repeat (first | assumption | exact Keep.refl _ | refine Keep.new ?_ _ | refine Keep.put ?_ _ (by first | omega | (simp only [n_new, n_put] <;> omega))))
          rintro v H3 ⟨rfl, k3⟩
          have k3' : Keep H H3 := Keep.trans (by repeat (first | assumption | exact Keep.refl _ | refine Keep.new ?_ _ | refine Keep.put ?_ _ (by first | omega | (simp only [n_new, n_put] <;> omega)))) k3
          cases hs : sameT x y with
          | true =>
            simp (config := { maxSteps := 1000000 }) (disch := first | omega | ((repeat (first | rw [n_new] | rw [n_put])) <;> omega) | fail) only [h17, G_skip, G_cond, GIf_false, G_again, G_region, G_blkN, G_onil, G_op, GG_true, GX_val, GP_some, put_lt, wantedG_none, eq_self, tget_set, evalO_tmp, evalO_int, oval_eq, cx_move, cx_bin, cx_un, cbin_add, wrap_nat_add1, un_not, Bool.not_true, if_true, if_false, Nat.reduceEqDiff]
            refine ih2 (k - 1) _ (by omega) ⟨_, H3, i + 1, rfl, by omega, ?_, ?_, ?_, ?_, ?_, k3', ?_⟩
            · simp (config := { maxSteps := 1000000 }) (disch := first | omega | ((repeat (first | rw [n_new] | rw [n_put])) <;> omega) | fail) only [h1, eq_self, tget_set, if_false, Nat.reduceEqDiff]
            · simp (config := { maxSteps := 1000000 }) (disch := first | omega | ((repeat (first | rw [n_new] | rw [n_put])) <;> omega) | fail) only [h2, eq_self, tget_set, if_false, Nat.reduceEqDiff]
            · simp (config := { maxSteps := 1000000 }) (disch := first | omega | ((repeat (first | rw [n_new] | rw [n_put])) <;> omega) | fail) only [h15, eq_self, tget_set, if_false, Nat.reduceEqDiff]
            · simp (config := { maxSteps := 1000000 }) (disch := first | omega | ((repeat (first | rw [n_new] | rw [n_put])) <;> omega) | fail) only [h16, eq_self, tget_set, if_false, Nat.reduceEqDiff]
            · simp (config := { maxSteps := 1000000 }) (disch := first | omega | ((repeat (first | rw [n_new] | rw [n_put])) <;> omega) | fail) only [h17, eq_self, tget_set, if_true, if_false, Nat.reduceEqDiff]
            · rw [← hd, hdx, hdy, sameL, hs, Bool.true_and]
          | false =>
            simp (config := { maxSteps := 1000000 }) (disch := first | omega | ((repeat (first | rw [n_new] | rw [n_put])) <;> omega) | fail) only [G_nil, G_seq, G_cond, GIf_true, G_ret, G_region, G_codeR, G_lpR, G_blkR, G_onil, G_op, GG_true, GX_val, GP_some, put_lt, wantedG_none, eq_self, tget_set, evalO_tmp, evalO_bool, oval_eq, cx_assign, cx_un, resAll, resOne, tupV1, Outs_ret, OutR_some, un_not, Bool.not_false, if_true, if_false, Nat.reduceEqDiff]
            refine ⟨trivial, ?_, k3'⟩
            rw [← hd, hdx, hdy, sameL, hs, Bool.false_and]
      · simp (config := { maxSteps := 1000000 }) (disch := first | omega | ((repeat (first | rw [n_new] | rw [n_put])) <;> omega) | fail) only [h16, h17, decide_eq_false hi, G_nil, G_seq, G_cond, GIf_false, G_exit, G_ret, G_region, G_codeE, G_lpE, G_blkE, G_onil, G_op, GG_true, GX_val, GP_some, put_lt, wantedG_none, eq_self, tget_set, evalO_tmp, evalO_bool, oval_eq, cx_assign, cx_bin, cbin_lss, resAll, resOne, tupV1, Outs_ret, OutR_some, if_true, if_false, Nat.reduceEqDiff]
        refine ⟨trivial, ?_, kH⟩
        have e1 : subs.drop i = .nil := RexL.drop_len (by rw [← RXL.len hsub]; omega)
        have e2 : subs'.drop i = .nil := RexL.drop_len (by rw [← RXL.len hsub']; omega)
        rw [← hd, e1, e2, sameL]
    · refine ⟨_, _, 0, rfl, rfl, ?_, ?_, ?_, ?_, ?_, Keep.refl _, rfl⟩
      all_goals (simp (config := { maxSteps := 1000000 }) (disch := first | omega | ((repeat (first | rw [n_new] | rw [n_put])) <;> omega) | fail) only [cast_lit, eq_self, tget_set, tget_of3, List.getElem?_cons_zero, List.getElem?_cons_succ, if_true, if_false, Nat.reduceEqDiff]; done)
  · simp (config := { maxSteps := 1000000 }) (disch := first | omega | ((repeat (first | rw [n_new] | rw [n_put])) <;> omega) | fail) only [Tryz.f31, tt23, decide_eq_false hlm, G_nil, G_seq, G_cond, GIf_true, G_ret, G_region, G_codeR, G_onil, G_op, GG_true, GX_val, GP_some, put_lt, wantedG_none, eq_self, Nat.zero_add, tget_set, tget_of3, nbeq, evalO_tmp, evalO_bool, oval_eq, cx_move, cx_assign, cx_bin, cx_builtin, cbin_neq, bi_len, tyAt0, xlen_sl, resAll, resOne, tupV1, Outs_ret, OutR_some, List.toList_toArray, List.map_cons, List.map_nil, List.length_cons, List.length_nil, List.getElem?_cons_zero, List.getElem?_cons_succ, cond_true, Bool.not_false, decide_true, if_true, if_false, Nat.reduceAdd, Nat.reduceEqDiff]
    refine ⟨trivial, ?_, (by repeat (first | assumption | exact Keep.refl _ | refine Keep.new ?_ _ | refine Keep.put ?_ _ (by first | omega | (simp only [n_new, n_put] <;> omega))))⟩
    cases hs : sameL subs subs' with
    | false => rfl
    | true => exact absurd (by rw [RXL.len hsub, RXL.len hsub', sameL_len hs]) hlm
set_option maxRecDepth 100000 in
set_option maxHeartbeats 8000000 in
theorem has_same11 (hn : NoA ans eff 11) (hn30 : NoA ans eff 30) (hn31 : NoA ans eff 31) : ∀ x, Same11 11 ans eff x := by
  refine RexT.indT _ fun op set subs ih => ?_
  intro H cs y cs' hx hx'
  cases y with | node op' set' subs' =>
  unfold RX at hx
  obtain ⟨sv, bv, els, rfl, hsv, hbv, hsub⟩ := hx
  obtain ⟨asv, rfl, hls⟩ := hsv.lenP
  obtain ⟨ab, rfl, hlb⟩ := hbv.len
  unfold RX at hx'
  obtain ⟨sv', bv', els', rfl, hsv', hbv', hsub'⟩ := hx'
  obtain ⟨asv', rfl, hls'⟩ := hsv'.lenP
  obtain ⟨ab', rfl, hlb'⟩ := hbv'.len
  refine Has.of hn ft11 rfl (Nat.le_of_ble_eq_true rfl) ?_
  have hbx : ∀ H', Keep ((H.new (.cells [.int .i64 op, .slice asv set.length set.length, .slice ab els.length els.length] 25 none 0)).new (.cells [.int .i64 op', .slice asv' set'.length set'.length, .slice ab' els'.length els'.length] 25 none 0)) H' → H'.get H.n = some (.cells [.int .i64 op, .slice asv set.length set.length, .slice ab els.length els.length] 25 none 0) ∧ H'.get (H.n + 1) = some (.cells [.int .i64 op', .slice asv' set'.length set'.length, .slice ab' els'.length els'.length] 25 none 0) := fun H' k => ⟨((k.get (by simp only [n_new]; omega)).trans (get_new_ne (by rw [n_new]; omega))).trans (get_new_eq rfl), (k.get (by simp only [n_new]; omega)).trans (get_new_eq rfl)⟩
  unfold sameT
  by_cases ho : op = op'
  · simp (config := { maxSteps := 1000000 }) (disch := first | omega | ((repeat (first | rw [n_new] | rw [n_put])) <;> omega) | fail) only [Tryz.f11, tt25, tt22, tt3, decide_eq_true ho, ft30, cc30, G_seq, G_region, G_onil, G_op, GG_true, GX_val, GX_enter, GP_some, put_lt, wantedG_none, wantedG_some, wG_some, isB_bool, List.getElem?_toArray, eq_self, Nat.zero_add, tget_set, tget_of2, nbeq, evalO_tmp, evalO_bool, evalO_func, Tr.get_set, oval_eq, xnew_eq, get_new_eq, get_new_ne, n_new, cx_move, cx_assign, cx_box, cx_load, cx_bin, cx_fieldAddr, cx_call, xcallv_func, loadAt_some, loadIn_cells, xfieldAddr_some, xfa_some, cbin_eql, isJunk, takeN, Value.cells, List.toList_toArray, List.map_cons, List.map_nil, List.length_cons, List.length_nil, List.append_nil, List.nil_append, List.drop_zero, List.drop_succ_cons, List.head?_cons, Nat.add_zero, List.getElem?_cons_zero, List.getElem?_cons_succ, Option.map_some, cond_true, cond_false, Bool.true_and, Bool.not_true, decide_true, decide_false, if_true, if_false, Nat.reduceAdd, Nat.reduceEqDiff]
    have hs1 := StA.of hsv
    have hs2 := StA.of hsv'
    refine GCall.of (has_equal30 hn30 (hs1.mono ?_) (hs2.mono ?_)) ?_
    · exact (by repeat (first | assumption | exact Keep.refl _ | refine Keep.new ?_ _ | refine Keep.put ?_ _ (by first | omega | (simp only [n_new, n_put] <;> omega))))
    · exact (by repeat (first | assumption | exact Keep.refl _ | refine Keep.new ?_ _ | refine Keep.put ?_ _ (by first | omega | (simp only [n_new, n_put] <;> omega))))
    rintro v H3 ⟨rfl, k3⟩
    obtain ⟨g1, g2⟩ := hbx H3 k3
    have kH : Keep H H3 := Keep.trans (by repeat (first | assumption | exact Keep.refl _ | refine Keep.new ?_ _ | refine Keep.put ?_ _ (by first | omega | (simp only [n_new, n_put] <;> omega)))) k3
    by_cases hs : set = set'
    · simp (config := { maxSteps := 1000000 }) (disch := first | omega | ((repeat (first | rw [n_new] | rw [n_put])) <;> omega) | fail) only [tt25, tt23, g1, g2, decide_eq_true hs, ft31, cc31, G_op, GG_true, GX_val, GX_enter, GP_some, put_lt, wantedG_none, wantedG_some, wG_some, isB_bool, List.getElem?_toArray, eq_self, Nat.zero_add, tget_set, tget_of2, nbeq, evalO_tmp, evalO_bool, evalO_func, Tr.get_set, oval_eq, cx_move, cx_pick, xpick_true, cx_load, cx_fieldAddr, cx_call, xcallv_func, loadAt_some, loadIn_cells, xfieldAddr_some, xfa_some, takeN, List.map_cons, List.map_nil, List.append_nil, List.nil_append, List.drop_zero, List.drop_succ_cons, List.head?_cons, List.getElem?_cons_zero, List.getElem?_cons_succ, Option.map_some, cond_true, cond_false, Bool.true_and, Bool.not_true, decide_true, decide_false, if_true, if_false, Nat.reduceEqDiff]
      refine GCall.of (has_eqf31 hn31 ih (hbv.mono anyP_mono kH) (RXL.mono kH _ _ hsub) (hbv'.mono anyP_mono kH) (RXL.mono kH _ _ hsub')) ?_
      rintro v H4 ⟨rfl, k4⟩
      simp (config := { maxSteps := 1000000 }) (disch := first | omega | ((repeat (first | rw [n_new] | rw [n_put])) <;> omega) | fail) only [G_nil, G_ret, G_onil, G_op, GG_true, GX_val, GP_some, put_lt, wantedG_none, eq_self, tget_set, tget_of2, evalO_tmp, evalO_bool, cx_assign, cx_pick, xpick_true, resAll, resOne, tupV1, Outs_ret, OutR_some, List.getElem?_cons_succ, if_true, if_false, Nat.reduceEqDiff]
      exact ⟨trivial, (by first | trivial | rfl), kH.trans k4⟩
    · simp (config := { maxSteps := 1000000 }) (disch := first | omega | ((repeat (first | rw [n_new] | rw [n_put])) <;> omega) | fail) only [decide_eq_false hs, G_nil, G_ret, G_onil, G_op, GG_true, GG_false, GX_val, GP_some, put_lt, wantedG_none, wantedG_some, wG_some, isB_bool, List.getElem?_toArray, eq_self, tget_set, tget_of2, evalO_tmp, evalO_bool, Tr.get_set, cx_move, cx_assign, cx_pick, xpick_true, xpick_false, resAll, resOne, tupV1, Outs_ret, OutR_some, List.getElem?_cons_zero, List.getElem?_cons_succ, cond_false, Bool.false_and, Bool.not_true, if_true, if_false, Nat.reduceEqDiff]
      exact ⟨trivial, (by first | trivial | rfl), kH⟩
  · simp (config := { maxSteps := 1000000 }) (disch := first | omega | ((repeat (first | rw [n_new] | rw [n_put])) <;> omega) | fail) only [Tryz.f11, tt25, tt3, decide_eq_false ho, G_nil, G_seq, G_ret, G_region, G_onil, G_op, GG_true, GG_false, GX_val, GP_some, put_lt, wantedG_none, wantedG_some, wG_some, isB_bool, List.getElem?_toArray, eq_self, Nat.zero_add, tget_set, tget_of2, nbeq, evalO_tmp, evalO_bool, Tr.get_set, oval_eq, xnew_eq, get_new_eq, get_new_ne, n_new, cx_move, cx_assign, cx_pick, xpick_false, cx_box, cx_load, cx_bin, cx_fieldAddr, loadAt_some, loadIn_cells, xfieldAddr_some, xfa_some, cbin_eql, isJunk, takeN, Value.cells, resAll, resOne, tupV1, Outs_ret, OutR_some, List.toList_toArray, List.length_cons, List.length_nil, List.drop_zero, List.head?_cons, Nat.add_zero, List.getElem?_cons_zero, List.getElem?_cons_succ, Option.map_some, cond_true, cond_false, Bool.false_and, Bool.not_true, decide_true, decide_false, if_true, if_false, Nat.reduceAdd, Nat.reduceEqDiff]
    exact ⟨trivial, (by first | trivial | rfl), (by repeat (first | assumption | exact Keep.refl _ | refine Keep.new ?_ _ | refine Keep.put ?_ _ (by first | omega | (simp only [n_new, n_put] <;> omega))))⟩
end
end Go.Proofs
