/- The text of an expression, by the reference, walked (no statement of the program is proved here). -/
import Derived.Test.YtoanfmlpddlcmaaGreatDoorQV
namespace Go.Proofs
open Go Go.PE
noncomputable section
variable {ans : Tr (List Value → Option Value)} {eff : Tr (List Value → Hp → Option (Value × Hp))}
set_option maxRecDepth 100000 in
set_option maxHeartbeats 8000000 in
theorem has_inner37 (N : NoText ans eff) {x : RexT} (ih : Pr 14 ans eff x) {o : Int} {H : Hp} {cs : List Value} (hsh : shapedT x = true) (hwt : wtT x ≤ 100000) (hx : RX H x cs) : Has (tE ans eff) 37 [.int .i64 o, .agg cs.toArray] H fun v H' => v = .string (bs (innerB o x)) ∧ Keep H H' := by
  have hpl := print_len x
  cases x with | node op set subs =>
  have hx' := hx
  unfold RX at hx
  obtain ⟨sv, bv, els, rfl, hsv, hbv, hsub⟩ := hx
  obtain ⟨asv, rfl, hls⟩ := hsv.lenP
  obtain ⟨ab, rfl, hlb⟩ := hbv.len
  refine Has.of N.n37 ft37 rfl (Nat.le_of_ble_eq_true rfl) ?_
  have kH : Keep H (H.new (.cells [.int .i64 op, .slice asv set.length set.length, .slice ab els.length els.length] 25 none 0)) := (Keep.refl H).new _
  have hbx : ∀ H', Keep (H.new (.cells [.int .i64 op, .slice asv set.length set.length, .slice ab els.length els.length] 25 none 0)) H' → H'.get H.n = some (.cells [.int .i64 op, .slice asv set.length set.length, .slice ab els.length els.length] 25 none 0) := fun H' k => (k.get (Nat.lt_succ_self _)).trans (get_new_eq rfl)
  have hlim := limN_eq
  have b1 : [40].length + (printT (.node op set subs)).length ≤ limN := by simp; omega
  have b2 : ([40] ++ printT (.node op set subs)).length + [41].length ≤ limN := by simp; omega
  simp (config := { maxSteps := 1000000 }) (disch := first | assumption | omega | ((repeat (first | rw [n_new] | rw [n_put])) <;> omega) | fail) only [Tryz.f37, tt25, ft48, cc48, G_seq, G_region, G_onil, G_op, GG_true, GX_val, GX_enter, GP_some, put_lt, wantedG_none, eq_self, Nat.zero_add, tget_set, tget_of2, evalO_tmp, evalO_str, evalO_func, oval_eq, xnew_eq, get_new_eq, cx_move, cx_assign, cx_box, cx_load, cx_call, xcallv_func, loadAt_some, loadIn_cells, isJunk, takeN, Value.cells, List.toList_toArray, List.map_cons, List.map_nil, List.length_cons, List.length_nil, List.append_nil, List.nil_append, List.drop_zero, List.head?_cons, List.getElem?_cons_zero, List.getElem?_cons_succ, Option.map_some, cond_true, cond_false, if_true, if_false, Nat.reduceAdd, Nat.reduceEqDiff]
  refine GCall.of (has_wrapped48 N.n48 rfl rfl) ?_
  rintro v H1 ⟨rfl, k1⟩
  have g1 := hbx _ k1
  unfold innerB
  rw [show (RexT.node op set subs).op = op from rfl]
  cases hw : wrapV o op with
  | true =>
    simp (config := { maxSteps := 1000000 }) (disch := first | assumption | omega | ((repeat (first | rw [n_new] | rw [n_put])) <;> omega) | fail) only [tt25, g1, ft14, cc14, G_seq, G_cond, GIf_true, G_region, G_onil, G_op, GG_true, GX_val, GX_enter, GP_some, put_lt, wantedG_none, eq_self, tget_set, tget_of2, evalO_tmp, evalO_func, oval_eq, cx_load, cx_call, xcallv_func, loadAt_some, loadIn_cells, takeN, List.map_cons, List.map_nil, List.append_nil, List.nil_append, List.drop_zero, List.head?_cons, List.getElem?_cons_succ, Option.map_some, cond_true, if_true, if_false, Nat.reduceEqDiff]
    refine GCall.of (ih _ _ hsh hwt (RX.mono (kH.trans k1) _ _ hx')) ?_
    rintro v H2 ⟨rfl, k2⟩
    simp (config := { maxSteps := 1000000 }) (disch := first | assumption | omega | ((repeat (first | rw [n_new] | rw [n_put])) <;> omega) | fail) only [bsLit, cbin_sadd, G_nil, G_ret, G_codeR, G_onil, G_op, GG_true, GX_val, GP_some, put_lt, wantedG_none, eq_self, tget_set, tget_of2, evalO_tmp, evalO_str, oval_eq, cx_assign, cx_bin, cbin_sadd, resAll, resOne, tupV1, Outs_ret, OutR_some, List.getElem?_cons_succ, if_true, if_false, Nat.reduceEqDiff]
    exact ⟨trivial, (by first | trivial | rfl), (kH.trans k1).trans k2⟩
  | false =>
    simp (config := { maxSteps := 1000000 }) (disch := first | assumption | omega | ((repeat (first | rw [n_new] | rw [n_put])) <;> omega) | fail) only [tt25, g1, ft14, cc14, G_skip, G_seq, G_cond, GIf_false, G_region, G_onil, G_op, GG_true, GX_val, GX_enter, GP_some, put_lt, wantedG_none, eq_self, tget_set, tget_of2, evalO_tmp, evalO_func, oval_eq, cx_load, cx_call, xcallv_func, loadAt_some, loadIn_cells, takeN, List.map_cons, List.map_nil, List.append_nil, List.nil_append, List.drop_zero, List.head?_cons, List.getElem?_cons_succ, Option.map_some, cond_true, if_true, if_false, Nat.reduceEqDiff]
    refine GCall.of (ih _ _ hsh hwt (RX.mono (kH.trans k1) _ _ hx')) ?_
    rintro v H2 ⟨rfl, k2⟩
    simp (config := { maxSteps := 1000000 }) (disch := first | assumption | omega | ((repeat (first | rw [n_new] | rw [n_put])) <;> omega) | fail) only [G_nil, G_ret, G_onil, G_op, GG_true, GX_val, GP_some, put_lt, wantedG_none, eq_self, tget_set, tget_of2, evalO_tmp, cx_assign, resAll, resOne, tupV1, Outs_ret, OutR_some, List.getElem?_cons_succ, if_true, if_false, Nat.reduceEqDiff]
    exact ⟨trivial, (by first | trivial | rfl), (kH.trans k1).trans k2⟩
theorem join_flat (l : List (List UInt8)) : Lib.join l [] = l.flatten := by
  cases l with
  | nil => rfl
  | cons x r => rw [Lib.join_cons, Lib.joinTail]; simp
theorem joinTail_cons {sep y : List UInt8} {r : List (List UInt8)} : Lib.joinTail sep (y :: r) = sep ++ y ++ Lib.joinTail sep r := by
  simp [Lib.joinTail]
set_option maxRecDepth 100000 in
set_option maxHeartbeats 32000000 in
theorem has_print14 (N : NoText ans eff) : ∀ x, Pr 14 ans eff x := by
  refine RexT.indT _ fun op set subs ih => ?_
  intro H cs hsh hwt hx
  obtain ⟨hws, hwl⟩ := set_wt hwt
  have hpl := print_len (.node op set subs)
  have hptl := parts_len op subs
  unfold RX at hx
  obtain ⟨sv, bv, els, rfl, hsv, hbv, hsub⟩ := hx
  obtain ⟨asv, rfl, hls⟩ := hsv.lenP
  obtain ⟨ab, rfl, hlb⟩ := hbv.len
  refine Has.of N.n14 ft14 rfl (Nat.le_of_ble_eq_true rfl) ?_
  have kH : Keep H (H.new (.cells [.int .i64 op, .slice asv set.length set.length, .slice ab els.length els.length] 25 none 0)) := (Keep.refl H).new _
  have hbx : ∀ H', Keep (H.new (.cells [.int .i64 op, .slice asv set.length set.length, .slice ab els.length els.length] 25 none 0)) H' → H'.get H.n = some (.cells [.int .i64 op, .slice asv set.length set.length, .slice ab els.length els.length] 25 none 0) := fun H' k => (k.get (Nat.lt_succ_self _)).trans (get_new_eq rfl)
  have hel := RXL.len hsub
  have hlim := limN_eq
  rw [shapedT] at hsh
  simp only [Bool.and_eq_true] at hsh
  obtain ⟨⟨har, hfs⟩, hss⟩ := hsh
  unfold arOk at har
  by_cases o1 : op = 1
  · simp (config := { maxSteps := 1000000 }) (disch := first | assumption | omega | ((repeat (first | rw [n_new] | rw [n_put])) <;> omega) | fail) only [Tryz.f14, tt25, tt3, decide_eq_true o1, bsLit, G_nil, G_seq, G_cond, GIf_true, G_block, G_ret, G_region, G_codeR, G_blkR, G_onil, G_op, GG_true, GX_val, GP_some, put_lt, wantedG_none, eq_self, Nat.zero_add, tget_set, tget_of1, nbeq, evalO_tmp, evalO_int, evalO_str, oval_eq, xnew_eq, get_new_eq, cx_assign, cx_box, cx_load, cx_bin, cx_fieldAddr, loadAt_some, loadIn_cells, xfieldAddr_some, xfa_some, cbin_eql, isJunk, takeN, Value.cells, resAll, resOne, tupV1, Outs_ret, OutR_some, List.toList_toArray, List.length_cons, List.length_nil, List.drop_zero, List.head?_cons, Nat.add_zero, List.getElem?_cons_zero, List.getElem?_cons_succ, Option.map_some, cond_true, cond_false, decide_true, decide_false, if_true, if_false, Nat.reduceEqDiff]
    exact ⟨trivial, by rw [printT, if_pos o1], kH⟩
  by_cases o2 : op = 2
  · rw [if_pos o2] at hfs
    obtain ⟨h0, hok⟩ := fitS_ok hfs
    have hv := StA.of hsv
    have hlen : set.length ≤ 100000 := by rw [wtT] at hwt; omega
    have hpr : printT (.node op set subs) = printSet set := by rw [printT, if_neg o1, if_pos o2]
    rw [hpr]
    rw [hpr] at hpl
    simp (config := { maxSteps := 1000000 }) (disch := first | assumption | omega | ((repeat (first | rw [n_new] | rw [n_put])) <;> omega) | fail) only [Tryz.f14, tt25, tt3, decide_eq_false o1, decide_eq_true o2, G_seq, G_cond, GIf_true, GIf_false, G_block, G_region, G_onil, G_op, GG_true, GX_val, GP_some, put_lt, wantedG_none, eq_self, Nat.zero_add, tget_set, tget_of1, nbeq, evalO_tmp, evalO_int, evalO_str, oval_eq, xnew_eq, get_new_eq, cx_assign, cx_box, cx_load, cx_bin, cx_fieldAddr, loadAt_some, loadIn_cells, xfieldAddr_some, xfa_some, cbin_eql, isJunk, takeN, Value.cells, List.toList_toArray, List.length_cons, List.length_nil, List.drop_zero, List.head?_cons, Nat.add_zero, List.getElem?_cons_zero, List.getElem?_cons_succ, Option.map_some, cond_true, cond_false, decide_true, decide_false, if_true, if_false, Nat.reduceEqDiff]
    rw [G_draw (by kernel_rfl)]
    have hpos : 0 < set.length := List.length_pos_iff.2 h0
    obtain ⟨p, hp, hpd⟩ := drop_at (l := set) (i := 0) hpos
    obtain ⟨b, cs, ty, es, fl, r', rfl, hb, hg, hdr⟩ := hv.elem (i := 0) hp
    simp only [Nat.zero_mul, List.drop_zero] at hdr hpd
    subst hdr
    have hpo := okp_letter (hok p (List.mem_of_getElem? hp))
    have g0 := hbx _ (Keep.refl _)
    have hg0 : (H.new (.cells [.int .i64 op, .slice (some ⟨b, 0, none⟩) set.length set.length, .slice ab els.length els.length] 25 none 0)).get b = _ := (kH.get hb).trans hg
    by_cases hs : ((set.length : Nat) : Int) = 1 ∧ p.1 = p.2
    · obtain ⟨h1, e⟩ := hs
      have hl1 : set = [p] := by
        have : set.drop (0 + 1) = [] := List.drop_eq_nil_of_le (by omega)
        rw [this] at hpd; exact hpd
      simp (config := { maxSteps := 1000000 }) (disch := first | assumption | omega | ((repeat (first | rw [n_new] | rw [n_put])) <;> omega) | fail) only [tt25, tt22, tt62, tt3, hg0, decide_eq_true h1, decide_eq_true e, ft36, cc36, G_seq, G_cond, GIf_true, G_region, G_onil, G_op, GG_true, GX_val, GX_enter, GP_some, put_lt, wantedG_none, wantedG_some, wG_some, isB_bool, List.getElem?_toArray, eq_self, Nat.zero_add, tget_set, tget_of1, nbeq, evalO_tmp, evalO_int, evalO_bool, evalO_func, Tr.get_set, oval_eq, get_new_eq, cx_move, cx_pick, xpick_true, cx_load, cx_bin, cx_fieldAddr, cx_indexAddr, cx_call, cx_builtin, xcallv_func, loadAt_some, loadIn_cells, xfieldAddr_some, xfa_some, xindexAddr_some, natOf_lit, xidx_sl, cbin_eql, bi_len, tyAt0, xlen_sl, takeN, List.map_cons, List.map_nil, List.append_nil, List.nil_append, List.drop_zero, List.drop_succ_cons, List.head?_cons, Nat.add_zero, List.getElem?_cons_zero, List.getElem?_cons_succ, Option.map_some, cond_true, cond_false, Bool.not_true, decide_true, decide_false, if_true, if_false, Nat.reduceEqDiff, Nat.reduceMul]
      refine GCall.of (has_show36 N hpo.1) ?_
      rintro v H2 ⟨rfl, k2⟩
      simp (config := { maxSteps := 1000000 }) (disch := first | assumption | omega | ((repeat (first | rw [n_new] | rw [n_put])) <;> omega) | fail) only [G_nil, G_ret, G_codeR, G_blkR, G_onil, G_op, GG_true, GX_val, GP_some, put_lt, wantedG_none, eq_self, tget_set, tget_of1, evalO_tmp, cx_assign, resAll, resOne, tupV1, Outs_ret, OutR_some, List.getElem?_cons_succ, if_true, if_false, Nat.reduceEqDiff]
      exact ⟨trivial, by rw [hl1, printSet, if_pos e], kH.trans k2⟩
    · have hps : printSet set = 91 :: (set.flatMap rangeB ++ [93]) := by
        rw [hpd]
        refine printSet_ne fun ⟨h1, h2⟩ => hs ⟨?_, h2⟩
        rw [hpd, h1]; rfl
      rw [hps]
      have hfl := flat_len set
      have hne : ((set.length : Nat) : Int) = 1 → ¬ p.1 = p.2 := fun h1 h2 => hs ⟨h1, h2⟩
      by_cases hr : ((set.length : Nat) : Int) = 1
      all_goals
        first
          | simp (config := { maxSteps := 1000000 }) (disch := first | assumption | omega | ((repeat (first | rw [n_new] | rw [n_put])) <;> omega) | fail) only [tt25, tt22, tt62, tt3, hg0, decide_eq_true hr, decide_eq_false (hne hr), bsLit, G_skip, G_seq, G_cond, GIf_false, G_block, G_region, G_onil, G_op, GG_true, GX_val, GP_some, put_lt, wantedG_none, wantedG_some, wG_some, isB_bool, List.getElem?_toArray, eq_self, Nat.zero_add, tget_set, tget_of1, nbeq, evalO_tmp, evalO_int, evalO_bool, Tr.get_set, oval_eq, get_new_eq, cx_move, cx_assign, cx_pick, xpick_true, cx_load, cx_bin, cx_fieldAddr, cx_indexAddr, cx_builtin, loadAt_some, loadIn_cells, xfieldAddr_some, xfa_some, xindexAddr_some, natOf_lit, xidx_sl, cbin_eql, bi_len, tyAt0, xlen_sl, takeN, List.map_cons, List.map_nil, List.drop_zero, List.drop_succ_cons, List.head?_cons, Nat.add_zero, List.getElem?_cons_zero, List.getElem?_cons_succ, Option.map_some, cond_true, cond_false, Bool.not_true, decide_true, decide_false, if_true, if_false, Nat.reduceEqDiff, Nat.reduceMul]
          | simp (config := { maxSteps := 1000000 }) (disch := first | assumption | omega | ((repeat (first | rw [n_new] | rw [n_put])) <;> omega) | fail) only [tt25, tt22, decide_eq_false hr, bsLit, G_skip, G_seq, G_cond, GIf_false, G_block, G_region, G_onil, G_op, GG_true, GG_false, GX_val, GP_some, put_lt, wantedG_none, wantedG_some, wG_some, isB_bool, List.getElem?_toArray, eq_self, Nat.zero_add, tget_set, tget_of1, nbeq, evalO_tmp, evalO_int, evalO_bool, Tr.get_set, oval_eq, get_new_eq, cx_move, cx_assign, cx_pick, xpick_false, cx_load, cx_bin, cx_fieldAddr, cx_builtin, loadAt_some, loadIn_cells, xfieldAddr_some, xfa_some, cbin_eql, bi_len, tyAt0, xlen_sl, takeN, List.map_cons, List.map_nil, List.drop_zero, List.drop_succ_cons, List.head?_cons, List.getElem?_cons_zero, List.getElem?_cons_succ, Option.map_some, cond_true, cond_false, Bool.not_true, decide_true, decide_false, if_true, if_false, Nat.reduceEqDiff]
        refine G_loop_ind (fun k s => ∃ tm H2 i acc, s = ⟨tm, [], H2⟩ ∧ k + i = set.length ∧ tget tm 1 = .pointer (some ⟨H.n, 0, none⟩) ∧ tget tm 4 = .int .i64 ((i : Nat) : Int) ∧ tget tm 3 = .string (bs acc) ∧ Keep (H.new (.cells [.int .i64 op, .slice (some ⟨b, 0, none⟩) set.length set.length, .slice ab els.length els.length] 25 none 0)) H2 ∧ acc.length ≤ 11 * i ∧ acc ++ (set.drop i).flatMap rangeB = set.flatMap rangeB) ?_ set.length _ ?_
        · rintro k ih2 s ⟨tm, H2, i, acc, rfl, hk, h1, h4, h3, k2, hal, hac⟩
          have g2 := hbx H2 k2
          have kH2 := kH.trans k2
          by_cases hi : (i : Int) < (set.length : Int)
          · obtain ⟨q, hq, hqd⟩ := drop_at (l := set) (i := i) (by omega)
            obtain ⟨b', cs', ty', es', fl', r'', e', hb', hg', hdr'⟩ := hv.elem hq
            cases e'
            have hdr1 : cs'.drop (i * 2 + 1) = .int .i64 q.2 :: r'' := by rw [← List.drop_drop, hdr']; rfl
            have hg2 : H2.get b = some (.cells cs' ty' es' fl') := by rw [kH2.get hb']; exact hg'
            have hqo := okp_letter (hok q (List.mem_of_getElem? hq))
            have hl1 := shownI_len q.1
            have hl2 := shownI_len q.2
            have hrl := rangeB_len q
            have b1 : acc.length + (shownI q.1).length ≤ limN := by omega
            have b2 : (acc ++ shownI q.1).length + [45].length ≤ limN := by simp; omega
            have b3 : (acc ++ shownI q.1 ++ [45]).length + (shownI q.2).length ≤ limN := by simp; omega
            have hnx : (set.drop i).flatMap rangeB = rangeB q ++ (set.drop (i + 1)).flatMap rangeB := by rw [hqd]; simp
            simp (config := { maxSteps := 1000000 }) (disch := first | assumption | omega | ((repeat (first | rw [n_new] | rw [n_put])) <;> omega) | fail) only [tt25, tt22, tt62, tt3, h1, h4, h3, g2, hg2, hdr', decide_eq_true hi, ft36, cc36, G_skip, G_seq, G_cond, GIf_true, G_block, G_region, G_onil, G_op, GG_true, GX_val, GX_enter, GP_some, put_lt, wantedG_none, eq_self, Nat.zero_add, tget_set, nbeq, evalO_tmp, evalO_func, oval_eq, cx_move, cx_load, cx_bin, cx_fieldAddr, cx_indexAddr, cx_call, cx_builtin, xcallv_func, loadAt_some, loadIn_cells, xfieldAddr_some, xfa_some, xindexAddr_some, natOf_nat, xidx_sl, cbin_lss, bi_len, tyAt0, xlen_sl, takeN, List.map_cons, List.map_nil, List.append_nil, List.nil_append, List.drop_zero, List.drop_succ_cons, List.head?_cons, Nat.add_zero, List.getElem?_cons_zero, List.getElem?_cons_succ, Option.map_some, cond_true, cond_false, decide_true, decide_false, if_true, if_false, Nat.reduceEqDiff]
            refine GCall.of (has_show36 N hqo.1) ?_
            rintro v H3 ⟨rfl, k3⟩
            have g3 := hbx H3 (k2.trans k3)
            have hg3 : H3.get b = some (.cells cs' ty' es' fl') := by rw [(kH2.trans k3).get hb']; exact hg'
            simp (config := { maxSteps := 1000000 }) (disch := first | assumption | omega | ((repeat (first | rw [n_new] | rw [n_put])) <;> omega) | fail) only [cbin_sadd, G_seq, G_onil, G_op, GG_true, GX_val, GP_some, put_lt, wantedG_none, eq_self, tget_set, evalO_tmp, oval_eq, cx_assign, cx_bin, cbin_sadd, if_true, if_false, Nat.reduceEqDiff]
            rw [G_draw (by kernel_rfl)]
            by_cases hlt : q.1 < q.2
            · simp (config := { maxSteps := 1000000 }) (disch := first | assumption | omega | ((repeat (first | rw [n_new] | rw [n_put])) <;> omega) | fail) only [tt25, tt22, tt62, tt3, h1, h4, h3, g3, hg3, hdr', hdr1, decide_eq_true hlt, cbin_sadd, ft36, cc36, G_cond, GIf_true, G_region, G_onil, G_op, GG_true, GX_val, GX_enter, GP_some, put_lt, wantedG_none, eq_self, Nat.zero_add, tget_set, nbeq, evalO_tmp, evalO_str, evalO_func, oval_eq, cx_move, cx_load, cx_bin, cx_fieldAddr, cx_indexAddr, cx_call, xcallv_func, loadAt_some, loadIn_cells, xfieldAddr_some, xfa_some, xindexAddr_some, natOf_nat, xidx_sl, cbin_lss, cbin_sadd, takeN, List.map_cons, List.map_nil, List.append_nil, List.drop_zero, List.drop_succ_cons, List.head?_cons, Nat.add_zero, List.getElem?_cons_zero, List.getElem?_cons_succ, Option.map_some, cond_true, cond_false, decide_true, decide_false, if_true, if_false, Nat.reduceEqDiff]
              refine GCall.of (has_show36 N hqo.2) ?_
              rintro v H4 ⟨rfl, k4⟩
              rw [rangeB, if_pos hlt] at hnx hrl
              simp (config := { maxSteps := 1000000 }) (disch := first | assumption | omega | ((repeat (first | rw [n_new] | rw [n_put])) <;> omega) | fail) only [h4, cbin_sadd, G_again, G_region, G_blkN, G_onil, G_op, GG_true, GX_val, GP_some, put_lt, wantedG_none, eq_self, tget_set, evalO_tmp, evalO_int, oval_eq, cx_move, cx_assign, cx_bin, cbin_add, cbin_sadd, wrap_nat_add1, if_true, if_false, Nat.reduceEqDiff]
              refine ih2 (k - 1) _ (by omega) ⟨_, H4, i + 1, acc ++ shownI q.1 ++ [45] ++ shownI q.2, rfl, by omega, ?_, ?_, ?_, (k2.trans k3).trans k4, ?_, ?_⟩
              · simp (config := { maxSteps := 1000000 }) (disch := first | omega | ((repeat (first | rw [n_new] | rw [n_put])) <;> omega) | fail) only [h1, eq_self, tget_set, if_false, Nat.reduceEqDiff]
              · simp (config := { maxSteps := 1000000 }) (disch := first | omega | ((repeat (first | rw [n_new] | rw [n_put])) <;> omega) | fail) only [h4, eq_self, tget_set, if_true, if_false, Nat.reduceEqDiff]
              · simp (config := { maxSteps := 1000000 }) (disch := first | omega | ((repeat (first | rw [n_new] | rw [n_put])) <;> omega) | fail) only [eq_self, tget_set, if_true, if_false, Nat.reduceEqDiff]
              · simp only [List.length_append, List.length_cons, List.length_nil] at *; omega
              · rw [← hac, hnx]; simp
            · simp (config := { maxSteps := 1000000 }) (disch := first | assumption | omega | ((repeat (first | rw [n_new] | rw [n_put])) <;> omega) | fail) only [tt25, tt22, tt62, tt3, h1, h4, g3, hg3, hdr', hdr1, decide_eq_false hlt, G_skip, G_cond, GIf_false, G_again, G_region, G_blkN, G_onil, G_op, GG_true, GX_val, GP_some, put_lt, wantedG_none, eq_self, Nat.zero_add, tget_set, nbeq, evalO_tmp, evalO_int, oval_eq, cx_move, cx_assign, cx_load, cx_bin, cx_fieldAddr, cx_indexAddr, loadAt_some, loadIn_cells, xfieldAddr_some, xfa_some, xindexAddr_some, natOf_nat, xidx_sl, cbin_add, cbin_lss, wrap_nat_add1, takeN, List.drop_zero, List.drop_succ_cons, List.head?_cons, Nat.add_zero, List.getElem?_cons_zero, List.getElem?_cons_succ, Option.map_some, cond_true, cond_false, decide_true, decide_false, if_true, if_false, Nat.reduceEqDiff]
              rw [rangeB, if_neg hlt, List.append_nil] at hnx hrl
              refine ih2 (k - 1) _ (by omega) ⟨_, H3, i + 1, acc ++ shownI q.1, rfl, by omega, ?_, ?_, ?_, k2.trans k3, ?_, ?_⟩
              · simp (config := { maxSteps := 1000000 }) (disch := first | omega | ((repeat (first | rw [n_new] | rw [n_put])) <;> omega) | fail) only [h1, eq_self, tget_set, if_false, Nat.reduceEqDiff]
              · simp (config := { maxSteps := 1000000 }) (disch := first | omega | ((repeat (first | rw [n_new] | rw [n_put])) <;> omega) | fail) only [h4, eq_self, tget_set, if_true, if_false, Nat.reduceEqDiff]
              · simp (config := { maxSteps := 1000000 }) (disch := first | omega | ((repeat (first | rw [n_new] | rw [n_put])) <;> omega) | fail) only [eq_self, tget_set, if_true, if_false, Nat.reduceEqDiff]
              · simp only [List.length_append] at *; omega
              · rw [← hac, hnx]; simp
          · have b1 : [91].length + acc.length ≤ limN := by simp; omega
            have b2 : ([91] ++ acc).length + [93].length ≤ limN := by simp; omega
            simp (config := { maxSteps := 1000000 }) (disch := first | assumption | omega | ((repeat (first | rw [n_new] | rw [n_put])) <;> omega) | fail) only [tt25, tt22, h1, h4, h3, g2, decide_eq_false hi, cbin_sadd, G_nil, G_seq, G_cond, GIf_false, G_exit, G_ret, G_region, G_codeE, G_codeR, G_lpE, G_blkE, G_blkR, G_onil, G_op, GG_true, GX_val, GP_some, put_lt, wantedG_none, eq_self, Nat.zero_add, tget_set, nbeq, evalO_tmp, evalO_str, oval_eq, cx_move, cx_assign, cx_load, cx_bin, cx_fieldAddr, cx_builtin, loadAt_some, loadIn_cells, xfieldAddr_some, xfa_some, cbin_lss, cbin_sadd, bi_len, tyAt0, xlen_sl, takeN, resAll, resOne, tupV1, Outs_ret, OutR_some, List.map_cons, List.map_nil, List.drop_zero, List.drop_succ_cons, List.head?_cons, List.getElem?_cons_zero, List.getElem?_cons_succ, Option.map_some, cond_true, cond_false, decide_true, decide_false, if_true, if_false, Nat.reduceEqDiff]
            refine ⟨trivial, ?_, kH2⟩
            rw [List.drop_eq_nil_of_le (by omega)] at hac
            simp only [List.flatMap_nil, List.append_nil] at hac
            rw [hac]; rfl
        · refine ⟨_, _, 0, [], rfl, rfl, ?_, ?_, ?_, Keep.refl _, by simp, by simp⟩
          all_goals (simp (config := { maxSteps := 1000000 }) (disch := first | omega | ((repeat (first | rw [n_new] | rw [n_put])) <;> omega) | fail) only [cast_lit, eq_self, tget_set, tget_of1, List.getElem?_cons_succ, if_true, if_false, Nat.reduceEqDiff]; first | done | rfl)
  have elemAt : ∀ i, i < els.length → ∃ x e, subs.drop i = .cons x (subs.drop (i + 1)) ∧ els[i]? = some e ∧ RX H x e := fun i hi => RXL.at hsub hi
  by_cases o3 : op = 3
  · have hpr : printT (.node op set subs) = (partsL op subs).flatten := by rw [printT, if_neg o1, if_neg o2, if_neg (by omega), if_pos o3, join_flat]
    rw [hpr]
    rw [hpr] at hpl
    simp (config := { maxSteps := 1000000 }) (disch := first | assumption | omega | ((repeat (first | rw [n_new] | rw [n_put])) <;> omega) | fail) only [Tryz.f14, tt25, tt3, decide_eq_false o1, decide_eq_false o2, decide_eq_true o3, G_seq, G_cond, GIf_true, GIf_false, G_block, G_region, G_onil, G_op, GG_true, GX_val, GP_some, put_lt, wantedG_none, eq_self, Nat.zero_add, tget_set, tget_of1, nbeq, evalO_tmp, evalO_int, evalO_str, oval_eq, xnew_eq, get_new_eq, cx_assign, cx_box, cx_load, cx_bin, cx_fieldAddr, loadAt_some, loadIn_cells, xfieldAddr_some, xfa_some, cbin_eql, isJunk, takeN, Value.cells, List.toList_toArray, List.length_cons, List.length_nil, List.drop_zero, List.head?_cons, Nat.add_zero, List.getElem?_cons_zero, List.getElem?_cons_succ, Option.map_some, cond_true, cond_false, decide_true, decide_false, if_true, if_false, Nat.reduceEqDiff]
    refine G_loop_ind (fun k s => ∃ tm H2 i acc, s = ⟨tm, [], H2⟩ ∧ k + i = els.length ∧ tget tm 1 = .pointer (some ⟨H.n, 0, none⟩) ∧ tget tm 5 = .int .i64 ((i : Nat) : Int) ∧ tget tm 3 = .string (bs acc) ∧ Keep (H.new (.cells [.int .i64 op, .slice asv set.length set.length, .slice ab els.length els.length] 25 none 0)) H2 ∧ acc ++ (partsL op (subs.drop i)).flatten = (partsL op subs).flatten) ?_ els.length _ ?_
    · rintro k ih2 s ⟨tm, H2, i, acc, rfl, hk, h1, h5, h3, k2, hac⟩
      have g2 := hbx H2 k2
      have kH2 := kH.trans k2
      by_cases hi : (i : Int) < (els.length : Int)
      · obtain ⟨x, e, hdx, he, hxe⟩ := elemAt i (by omega)
        obtain ⟨b, ty, l, r, rfl, hb, hg, hdr, hl3⟩ := hbv.elem he
        have hg2 : H2.get b = some (.cells l ty (some 3) 3) := by rw [kH2.get hb]; exact hg
        have hnx : partsL op (subs.drop i) = innerB op x :: partsL op (subs.drop (i + 1)) := by rw [hdx, partsL_cons]
        have b1 : acc.length + (innerB op x).length ≤ limN := by
          have := congrArg List.length hac
          rw [hnx, List.flatten_cons, List.length_append, List.length_append] at this; omega
        match e, hl3 with
        | [e0, e1, e2], _ =>
          have hdrx : l.drop (i * 3) = e0 :: e1 :: e2 :: r := hdr
          simp (config := { maxSteps := 1000000 }) (disch := first | assumption | omega | ((repeat (first | rw [n_new] | rw [n_put])) <;> omega) | fail) only [tt25, tt23, h1, h5, g2, decide_eq_true hi, G_skip, G_seq, G_cond, GIf_true, G_block, G_region, G_onil, G_op, GG_true, GX_val, GP_some, put_lt, wantedG_none, eq_self, Nat.zero_add, tget_set, nbeq, evalO_tmp, oval_eq, cx_move, cx_load, cx_bin, cx_fieldAddr, cx_builtin, loadAt_some, loadIn_cells, xfieldAddr_some, xfa_some, cbin_lss, bi_len, tyAt0, xlen_sl, takeN, List.map_cons, List.map_nil, List.drop_zero, List.drop_succ_cons, List.head?_cons, List.getElem?_cons_zero, List.getElem?_cons_succ, Option.map_some, cond_true, cond_false, decide_true, decide_false, if_true, if_false, Nat.reduceEqDiff]
          rw [G_draw (by kernel_rfl)]
          simp (config := { maxSteps := 1000000 }) (disch := first | assumption | omega | ((repeat (first | rw [n_new] | rw [n_put])) <;> omega) | fail) only [tt25, tt23, tt3, h1, h5, h3, g2, hg2, hdrx, ft37, cc37, G_op, GG_true, GX_val, GX_enter, GP_some, put_lt, wantedG_none, eq_self, Nat.zero_add, tget_set, nbeq, evalO_tmp, evalO_func, oval_eq, cx_move, cx_load, cx_fieldAddr, cx_indexAddr, cx_call, xcallv_func, loadAt_some, loadIn_cells, xfieldAddr_some, xfa_some, xindexAddr_some, natOf_nat, xidx_sl, takeN, List.map_cons, List.map_nil, List.append_nil, List.nil_append, List.drop_zero, List.drop_succ_cons, List.head?_cons, Nat.add_zero, List.getElem?_cons_zero, List.getElem?_cons_succ, Option.map_some, cond_true, cond_false, decide_true, decide_false, if_true, if_false, Nat.reduceEqDiff]
          refine GCall.of (has_inner37 N (ih i x _ hdx) (shapedL_at hss hdx) (wt_at hwl hdx) (RX.mono kH2 _ _ hxe)) ?_
          rintro v H3 ⟨rfl, k3⟩
          simp (config := { maxSteps := 1000000 }) (disch := first | assumption | omega | ((repeat (first | rw [n_new] | rw [n_put])) <;> omega) | fail) only [h5, cbin_sadd, G_again, G_region, G_blkN, G_onil, G_op, GG_true, GX_val, GP_some, put_lt, wantedG_none, eq_self, tget_set, evalO_tmp, evalO_int, oval_eq, cx_move, cx_assign, cx_bin, cbin_add, cbin_sadd, wrap_nat_add1, if_true, if_false, Nat.reduceEqDiff]
          refine ih2 (k - 1) _ (by omega) ⟨_, H3, i + 1, acc ++ innerB op x, rfl, by omega, ?_, ?_, ?_, k2.trans k3, ?_⟩
          · simp (config := { maxSteps := 1000000 }) (disch := first | omega | ((repeat (first | rw [n_new] | rw [n_put])) <;> omega) | fail) only [h1, eq_self, tget_set, if_false, Nat.reduceEqDiff]
          · simp (config := { maxSteps := 1000000 }) (disch := first | omega | ((repeat (first | rw [n_new] | rw [n_put])) <;> omega) | fail) only [h5, eq_self, tget_set, if_true, if_false, Nat.reduceEqDiff]
          · simp (config := { maxSteps := 1000000 }) (disch := first | omega | ((repeat (first | rw [n_new] | rw [n_put])) <;> omega) | fail) only [eq_self, tget_set, if_true, if_false, Nat.reduceEqDiff]
          · rw [← hac, hnx]; simp
      · simp (config := { maxSteps := 1000000 }) (disch := first | assumption | omega | ((repeat (first | rw [n_new] | rw [n_put])) <;> omega) | fail) only [tt25, tt23, h1, h5, h3, g2, decide_eq_false hi, G_nil, G_seq, G_cond, GIf_false, G_exit, G_ret, G_region, G_codeE, G_codeR, G_lpE, G_blkE, G_blkR, G_onil, G_op, GG_true, GX_val, GP_some, put_lt, wantedG_none, eq_self, Nat.zero_add, tget_set, nbeq, evalO_tmp, oval_eq, cx_move, cx_assign, cx_load, cx_bin, cx_fieldAddr, cx_builtin, loadAt_some, loadIn_cells, xfieldAddr_some, xfa_some, cbin_lss, bi_len, tyAt0, xlen_sl, takeN, resAll, resOne, tupV1, Outs_ret, OutR_some, List.map_cons, List.map_nil, List.drop_zero, List.drop_succ_cons, List.head?_cons, List.getElem?_cons_zero, List.getElem?_cons_succ, Option.map_some, cond_true, cond_false, decide_true, decide_false, if_true, if_false, Nat.reduceEqDiff]
        have e1 : subs.drop i = .nil := RexL.drop_len (by rw [← RXL.len hsub]; omega)
        rw [e1, partsL, List.flatten_nil, List.append_nil] at hac
        exact ⟨trivial, by rw [hac], kH2⟩
    · refine ⟨_, _, 0, [], rfl, rfl, ?_, ?_, ?_, Keep.refl _, rfl⟩
      all_goals (simp (config := { maxSteps := 1000000 }) (disch := first | omega | ((repeat (first | rw [n_new] | rw [n_put])) <;> omega) | fail) only [cast_lit, eq_self, tget_set, tget_of1, List.getElem?_cons_succ, if_true, if_false, Nat.reduceEqDiff]; first | done | rfl)
  by_cases o4 : op = 4
  · have hpr : printT (.node op set subs) = Lib.join (partsL op subs) [124] := by rw [printT, if_neg o1, if_neg o2, if_pos o4]
    rw [hpr]
    rw [hpr] at hpl
    simp (config := { maxSteps := 1000000 }) (disch := first | assumption | omega | ((repeat (first | rw [n_new] | rw [n_put])) <;> omega) | fail) only [Tryz.f14, tt25, tt3, decide_eq_false o1, decide_eq_false o2, decide_eq_false o3, decide_eq_true o4, G_seq, G_cond, GIf_true, GIf_false, G_block, G_region, G_onil, G_op, GG_true, GX_val, GP_some, put_lt, wantedG_none, eq_self, Nat.zero_add, tget_set, tget_of1, nbeq, evalO_tmp, evalO_int, evalO_str, oval_eq, xnew_eq, get_new_eq, cx_assign, cx_box, cx_load, cx_bin, cx_fieldAddr, loadAt_some, loadIn_cells, xfieldAddr_some, xfa_some, cbin_eql, isJunk, takeN, Value.cells, List.toList_toArray, List.length_cons, List.length_nil, List.drop_zero, List.head?_cons, Nat.add_zero, List.getElem?_cons_zero, List.getElem?_cons_succ, Option.map_some, cond_true, cond_false, decide_true, decide_false, if_true, if_false, Nat.reduceEqDiff]
    refine G_loop_ind (fun k s => ∃ tm H2 i acc, s = ⟨tm, [], H2⟩ ∧ k + i = els.length ∧ tget tm 1 = .pointer (some ⟨H.n, 0, none⟩) ∧ tget tm 6 = .int .i64 ((i : Nat) : Int) ∧ tget tm 3 = .string (bs acc) ∧ Keep (H.new (.cells [.int .i64 op, .slice asv set.length set.length, .slice ab els.length els.length] 25 none 0)) H2 ∧ (i = 0 → acc = []) ∧ (0 < i → acc ++ Lib.joinTail [124] (partsL op (subs.drop i)) = Lib.join (partsL op subs) [124])) ?_ els.length _ ?_
    · rintro k ih2 s ⟨tm, H2, i, acc, rfl, hk, h1, h6, h3, k2, hac0, hac⟩
      have g2 := hbx H2 k2
      have kH2 := kH.trans k2
      by_cases hi : (i : Int) < (els.length : Int)
      · obtain ⟨x, e, hdx, he, hxe⟩ := elemAt i (by omega)
        obtain ⟨b, ty, l, r, rfl, hb, hg, hdr, hl3⟩ := hbv.elem he
        have hg2 : H2.get b = some (.cells l ty (some 3) 3) := by rw [kH2.get hb]; exact hg
        have hnx : partsL op (subs.drop i) = innerB op x :: partsL op (subs.drop (i + 1)) := by rw [hdx, partsL_cons]
        match e, hl3 with
        | [e0, e1, e2], _ =>
          have hdrx : l.drop (i * 3) = e0 :: e1 :: e2 :: r := hdr
          by_cases hi0 : ((i : Nat) : Int) > 0
          · have hac := hac (by omega)
            have hlj := congrArg List.length hac
            rw [hnx, joinTail_cons] at hlj
            simp only [List.length_append] at hlj
            have b0 : acc.length + [124].length ≤ limN := by omega
            have b1 : (acc ++ [124]).length + (innerB op x).length ≤ limN := by rw [List.length_append]; omega
            simp (config := { maxSteps := 1000000 }) (disch := first | assumption | omega | ((repeat (first | rw [n_new] | rw [n_put])) <;> omega) | fail) only [tt25, tt23, h1, h6, h3, g2, decide_eq_true hi, decide_eq_true hi0, bsLit, cbin_sadd, G_skip, G_seq, G_cond, GIf_true, G_block, G_region, G_onil, G_op, GG_true, GX_val, GP_some, put_lt, wantedG_none, eq_self, Nat.zero_add, tget_set, nbeq, evalO_tmp, evalO_int, evalO_str, oval_eq, cx_move, cx_assign, cx_load, cx_bin, cx_fieldAddr, cx_builtin, loadAt_some, loadIn_cells, xfieldAddr_some, xfa_some, cbin_lss, cbin_gtr, cbin_sadd, bi_len, tyAt0, xlen_sl, takeN, List.map_cons, List.map_nil, List.drop_zero, List.drop_succ_cons, List.head?_cons, List.getElem?_cons_zero, List.getElem?_cons_succ, Option.map_some, cond_true, cond_false, decide_true, decide_false, if_true, if_false, Nat.reduceEqDiff]
            rw [G_draw (by kernel_rfl)]
            simp (config := { maxSteps := 1000000 }) (disch := first | assumption | omega | ((repeat (first | rw [n_new] | rw [n_put])) <;> omega) | fail) only [tt25, tt23, tt3, h1, h6, h3, g2, hg2, hdrx, ft37, cc37, G_op, GG_true, GX_val, GX_enter, GP_some, put_lt, wantedG_none, eq_self, Nat.zero_add, tget_set, nbeq, evalO_tmp, evalO_func, oval_eq, cx_move, cx_load, cx_fieldAddr, cx_indexAddr, cx_call, xcallv_func, loadAt_some, loadIn_cells, xfieldAddr_some, xfa_some, xindexAddr_some, natOf_nat, xidx_sl, takeN, List.map_cons, List.map_nil, List.append_nil, List.nil_append, List.drop_zero, List.drop_succ_cons, List.head?_cons, Nat.add_zero, List.getElem?_cons_zero, List.getElem?_cons_succ, Option.map_some, cond_true, cond_false, decide_true, decide_false, if_true, if_false, Nat.reduceEqDiff]
            refine GCall.of (has_inner37 N (ih i x _ hdx) (shapedL_at hss hdx) (wt_at hwl hdx) (RX.mono kH2 _ _ hxe)) ?_
            rintro v H3 ⟨rfl, k3⟩
            simp (config := { maxSteps := 1000000 }) (disch := first | assumption | omega | ((repeat (first | rw [n_new] | rw [n_put])) <;> omega) | fail) only [h6, cbin_sadd, G_again, G_region, G_blkN, G_onil, G_op, GG_true, GX_val, GP_some, put_lt, wantedG_none, eq_self, tget_set, evalO_tmp, evalO_int, oval_eq, cx_move, cx_assign, cx_bin, cbin_add, cbin_sadd, wrap_nat_add1, if_true, if_false, Nat.reduceEqDiff]
            refine ih2 (k - 1) _ (by omega) ⟨_, H3, i + 1, acc ++ [124] ++ innerB op x, rfl, by omega, ?_, ?_, ?_, k2.trans k3, fun h => by omega, fun _ => ?_⟩
            · simp (config := { maxSteps := 1000000 }) (disch := first | omega | ((repeat (first | rw [n_new] | rw [n_put])) <;> omega) | fail) only [h1, eq_self, tget_set, if_false, Nat.reduceEqDiff]
            · simp (config := { maxSteps := 1000000 }) (disch := first | omega | ((repeat (first | rw [n_new] | rw [n_put])) <;> omega) | fail) only [h6, eq_self, tget_set, if_true, if_false, Nat.reduceEqDiff]
            · simp (config := { maxSteps := 1000000 }) (disch := first | omega | ((repeat (first | rw [n_new] | rw [n_put])) <;> omega) | fail) only [eq_self, tget_set, if_true, if_false, Nat.reduceEqDiff]
            · rw [← hac, hnx, joinTail_cons]; simp
          · have hi00 : i = 0 := by omega
            have hj0 : Lib.join (partsL op subs) [124] = innerB op x ++ Lib.joinTail [124] (partsL op (subs.drop (i + 1))) := by
              have : partsL op subs = innerB op x :: partsL op (subs.drop (i + 1)) := by rw [← hnx, hi00]; rfl
              rw [this, Lib.join_cons]
            have ha0 := hac0 hi00
            subst ha0
            have b1 : ([] : List UInt8).length + (innerB op x).length ≤ limN := by
              rw [hj0, List.length_append] at hpl
              simp only [List.length_nil]; omega
            simp (config := { maxSteps := 1000000 }) (disch := first | assumption | omega | ((repeat (first | rw [n_new] | rw [n_put])) <;> omega) | fail) only [tt25, tt23, h1, h6, g2, decide_eq_true hi, decide_eq_false hi0, bsLit, G_skip, G_seq, G_cond, GIf_true, GIf_false, G_block, G_region, G_onil, G_op, GG_true, GX_val, GP_some, put_lt, wantedG_none, eq_self, Nat.zero_add, tget_set, nbeq, evalO_tmp, evalO_int, oval_eq, cx_move, cx_load, cx_bin, cx_fieldAddr, cx_builtin, loadAt_some, loadIn_cells, xfieldAddr_some, xfa_some, cbin_lss, cbin_gtr, bi_len, tyAt0, xlen_sl, takeN, List.map_cons, List.map_nil, List.drop_zero, List.drop_succ_cons, List.head?_cons, List.getElem?_cons_zero, List.getElem?_cons_succ, Option.map_some, cond_true, cond_false, decide_true, decide_false, if_true, if_false, Nat.reduceEqDiff]
            rw [G_draw (by kernel_rfl)]
            simp (config := { maxSteps := 1000000 }) (disch := first | assumption | omega | ((repeat (first | rw [n_new] | rw [n_put])) <;> omega) | fail) only [tt25, tt23, tt3, h1, h6, h3, g2, hg2, hdrx, ft37, cc37, G_op, GG_true, GX_val, GX_enter, GP_some, put_lt, wantedG_none, eq_self, Nat.zero_add, tget_set, nbeq, evalO_tmp, evalO_func, oval_eq, cx_move, cx_load, cx_fieldAddr, cx_indexAddr, cx_call, xcallv_func, loadAt_some, loadIn_cells, xfieldAddr_some, xfa_some, xindexAddr_some, natOf_nat, xidx_sl, takeN, List.map_cons, List.map_nil, List.append_nil, List.nil_append, List.drop_zero, List.drop_succ_cons, List.head?_cons, Nat.add_zero, List.getElem?_cons_zero, List.getElem?_cons_succ, Option.map_some, cond_true, cond_false, decide_true, decide_false, if_true, if_false, Nat.reduceEqDiff]
            refine GCall.of (has_inner37 N (ih i x _ hdx) (shapedL_at hss hdx) (wt_at hwl hdx) (RX.mono kH2 _ _ hxe)) ?_
            rintro v H3 ⟨rfl, k3⟩
            simp (config := { maxSteps := 1000000 }) (disch := first | assumption | omega | ((repeat (first | rw [n_new] | rw [n_put])) <;> omega) | fail) only [h6, cbin_sadd, G_again, G_region, G_blkN, G_onil, G_op, GG_true, GX_val, GP_some, put_lt, wantedG_none, eq_self, tget_set, evalO_tmp, evalO_int, oval_eq, cx_move, cx_assign, cx_bin, cbin_add, cbin_sadd, wrap_nat_add1, List.nil_append, if_true, if_false, Nat.reduceEqDiff]
            refine ih2 (k - 1) _ (by omega) ⟨_, H3, i + 1, innerB op x, rfl, by omega, ?_, ?_, ?_, k2.trans k3, fun h => by omega, fun _ => ?_⟩
            · simp (config := { maxSteps := 1000000 }) (disch := first | omega | ((repeat (first | rw [n_new] | rw [n_put])) <;> omega) | fail) only [h1, eq_self, tget_set, if_false, Nat.reduceEqDiff]
            · simp (config := { maxSteps := 1000000 }) (disch := first | omega | ((repeat (first | rw [n_new] | rw [n_put])) <;> omega) | fail) only [h6, eq_self, tget_set, if_true, if_false, Nat.reduceEqDiff]
            · simp (config := { maxSteps := 1000000 }) (disch := first | omega | ((repeat (first | rw [n_new] | rw [n_put])) <;> omega) | fail) only [eq_self, tget_set, if_true, if_false, Nat.reduceEqDiff]
            · rw [hj0]
      · simp (config := { maxSteps := 1000000 }) (disch := first | assumption | omega | ((repeat (first | rw [n_new] | rw [n_put])) <;> omega) | fail) only [tt25, tt23, h1, h6, h3, g2, decide_eq_false hi, G_nil, G_seq, G_cond, GIf_false, G_exit, G_ret, G_region, G_codeE, G_codeR, G_lpE, G_blkE, G_blkR, G_onil, G_op, GG_true, GX_val, GP_some, put_lt, wantedG_none, eq_self, Nat.zero_add, tget_set, nbeq, evalO_tmp, oval_eq, cx_move, cx_assign, cx_load, cx_bin, cx_fieldAddr, cx_builtin, loadAt_some, loadIn_cells, xfieldAddr_some, xfa_some, cbin_lss, bi_len, tyAt0, xlen_sl, takeN, resAll, resOne, tupV1, Outs_ret, OutR_some, List.map_cons, List.map_nil, List.drop_zero, List.drop_succ_cons, List.head?_cons, List.getElem?_cons_zero, List.getElem?_cons_succ, Option.map_some, cond_true, cond_false, decide_true, decide_false, if_true, if_false, Nat.reduceEqDiff]
        have e1 : subs.drop i = .nil := RexL.drop_len (by rw [← RXL.len hsub]; omega)
        have hpos : 0 < i := by
          rw [if_neg (by omega), if_pos (by omega), decide_eq_true_eq] at har
          omega
        have hac := hac hpos
        rw [e1, partsL, show Lib.joinTail [124] [] = [] from rfl, List.append_nil] at hac
        exact ⟨trivial, by rw [hac], kH2⟩
    · refine ⟨_, _, 0, [], rfl, rfl, ?_, ?_, ?_, Keep.refl _, fun _ => rfl, fun h => by omega⟩
      all_goals (simp (config := { maxSteps := 1000000 }) (disch := first | omega | ((repeat (first | rw [n_new] | rw [n_put])) <;> omega) | fail) only [cast_lit, eq_self, tget_set, tget_of1, List.getElem?_cons_succ, if_true, if_false, Nat.reduceEqDiff]; first | done | rfl)
  rw [if_neg (by omega), if_neg (by omega)] at har
  split at har
  case isFalse => cases har
  rename_i hop
  rw [decide_eq_true_eq] at har
  obtain ⟨x, rfl⟩ := len_one har
  have hp1 : partsL op (.cons x .nil) = [innerB op x] := by rw [partsL_cons, partsL]
  have hpt : printT (.node op set (.cons x .nil)) = innerB op x ++ [signB op] := by rw [printT, if_neg o1, if_neg o2, if_neg o4, if_neg o3, hp1]; simp
  rw [hpt]
  rw [hpt] at hpl
  have b1 : ∀ c : UInt8, (innerB op x).length + [c].length ≤ limN := by intro c; rw [List.length_append] at hpl; simp at *; omega
  have hel1 : els.length = 1 := by rw [hel]; exact har
  obtain ⟨x', e, hdx, he, hxe⟩ := elemAt 0 (by omega)
  have hxx : x' = x := by
    have : RexL.drop 0 (.cons x .nil) = .cons x .nil := rfl
    rw [this] at hdx; cases hdx; rfl
  subst hxx
  obtain ⟨b, ty, l, r, rfl, hb, hg, hdr, hl3⟩ := hbv.elem he
  have hg0 : (H.new (.cells [.int .i64 op, .slice asv set.length set.length, .slice (some ⟨b, 0, none⟩) els.length els.length] 25 none 0)).get b = _ := (kH.get hb).trans hg
  match e, hl3 with
  | [e0, e1, e2], _ =>
    have hdrx : l = e0 :: e1 :: e2 :: r := by simpa using hdr
    subst hdrx
    have hin := has_inner37 N (ih 0 x' _ hdx) (o := op) (shapedL_at hss hdx) (wt_at hwl hdx) (RX.mono kH _ _ hxe)
    rcases hop with rfl | rfl | rfl
    all_goals
      have b42 := b1 42
      have b43 := b1 43
      have b63 := b1 63
      simp (config := { maxSteps := 1000000 }) (disch := first | assumption | omega | ((repeat (first | rw [n_new] | rw [n_put])) <;> omega) | fail) only [Tryz.f14, tt25, tt3, G_skip, G_seq, G_cond, GIf_true, GIf_false, G_block, G_region, G_blkN, G_onil, G_op, GG_true, GX_val, GP_some, put_lt, wantedG_none, eq_self, Int.reduceEq, Nat.zero_add, tget_set, tget_of1, nbeq, evalO_tmp, evalO_int, evalO_str, oval_eq, xnew_eq, get_new_eq, cx_assign, cx_box, cx_load, cx_bin, cx_fieldAddr, loadAt_some, loadIn_cells, xfieldAddr_some, xfa_some, cbin_eql, isJunk, takeN, Value.cells, List.toList_toArray, List.length_cons, List.length_nil, List.drop_zero, List.head?_cons, Nat.add_zero, List.getElem?_cons_zero, List.getElem?_cons_succ, Option.map_some, cond_true, cond_false, decide_true, decide_false, if_true, if_false, Nat.reduceEqDiff]
      rw [G_draw (by kernel_rfl)]
      simp (config := { maxSteps := 1000000 }) (disch := first | assumption | omega | ((repeat (first | rw [n_new] | rw [n_put])) <;> omega) | fail) only [tt25, tt23, tt3, hg0, ft37, cc37, G_op, GG_true, GX_val, GX_enter, GP_some, put_lt, wantedG_none, eq_self, Nat.zero_add, tget_set, tget_of1, nbeq, evalO_tmp, evalO_int, evalO_func, oval_eq, get_new_eq, cx_load, cx_fieldAddr, cx_indexAddr, cx_call, xcallv_func, loadAt_some, loadIn_cells, xfieldAddr_some, xfa_some, xindexAddr_some, natOf_lit, xidx_sl, takeN, List.map_cons, List.map_nil, List.append_nil, List.nil_append, List.drop_zero, List.drop_succ_cons, List.head?_cons, Nat.add_zero, List.getElem?_cons_zero, List.getElem?_cons_succ, Option.map_some, cond_true, cond_false, decide_true, decide_false, if_true, if_false, Nat.reduceEqDiff, Nat.reduceMul]
      refine GCall.of hin ?_
      rintro v H3 ⟨rfl, k3⟩
      simp (config := { maxSteps := 1000000 }) (disch := first | assumption | omega | ((repeat (first | rw [n_new] | rw [n_put])) <;> omega) | fail) only [bsLit, cbin_sadd, G_nil, G_ret, G_codeR, G_blkR, G_onil, G_op, GG_true, GX_val, GP_some, put_lt, wantedG_none, eq_self, tget_set, tget_of1, evalO_tmp, evalO_str, oval_eq, cx_assign, cx_bin, cbin_sadd, resAll, resOne, tupV1, Outs_ret, OutR_some, List.getElem?_cons_succ, if_true, if_false, Nat.reduceEqDiff]
      exact ⟨trivial, (by first | trivial | rfl), kH.trans k3⟩
end
end Go.Proofs
