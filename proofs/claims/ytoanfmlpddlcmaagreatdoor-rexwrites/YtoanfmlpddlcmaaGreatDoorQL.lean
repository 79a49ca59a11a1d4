/- Which expressions are shaped, and which fit, by the reference, walked (no statement of the program is proved here). -/
import Derived.Test.YtoanfmlpddlcmaaGreatDoorQK
import Derived.Test.YtoanfmlpddlcmaaGreatDoorQH
namespace Go.Proofs
open Go Go.PE
noncomputable section
variable {ans : Tr (List Value → Option Value)} {eff : Tr (List Value → Hp → Option (Value × Hp))}
theorem isB_undef {want : Bool} : isB want (some undefV) = some false := rfl
theorem len_cast {n : Nat} {k : Int} {j : Nat} (h : k = (j : Int)) : decide (((n : Nat) : Int) = k) = decide (n = j) := decide_eq_decide.2 (by omega)
theorem set_wt {op : Int} {set : List (Int × Int)} {subs : RexL} (h : wtT (.node op set subs) ≤ 100000) : set.length ≤ 200000 ∧ wtL subs ≤ 100000 := by
  unfold wtT at h; omega
theorem wt_at {l : RexL} {i : Nat} {x : RexT} {r : RexL} (h : wtL l ≤ 100000) (hd : l.drop i = .cons x r) : wtT x ≤ 100000 := by
  have := drop_wt l i
  rw [hd, wtL] at this; omega
set_option maxRecDepth 100000 in
set_option maxHeartbeats 8000000 in
theorem has_shaped (hn : NoA ans eff 25) (hn47 : NoA ans eff 47) (hn66 : NoA ans eff 66) (hn32 : NoA ans eff 32) : ∀ (x : RexT) (H : Hp) (cs : List Value), wtT x ≤ 100000 → RX H x cs → Has (tE ans eff) 25 [.agg cs.toArray] H fun v H' => v = .bool (shapedT x) ∧ Keep H H' := by
  refine RexT.indT _ fun op set subs ih => ?_
  replace ih : ∀ i x r, subs.drop i = .cons x r → ∀ (H : Hp) (cs : List Value), wtT x ≤ 100000 → RX H x cs → Has (tE ans eff) 25 [.agg cs.toArray] H fun v H' => v = .bool (shapedT x) ∧ Keep H H' := ih
  intro H cs hwt hx
  obtain ⟨hws, hwl⟩ := set_wt hwt
  unfold RX at hx
  obtain ⟨sv, bv, els, rfl, hsv, hbv, hsub⟩ := hx
  obtain ⟨asv, rfl, hls⟩ := hsv.lenP
  obtain ⟨ab, rfl, hlb⟩ := hbv.len
  refine Has.of hn ft25 rfl (Nat.le_of_ble_eq_true rfl) ?_
  have kH : Keep H (H.new (.cells [.int .i64 op, .slice asv set.length set.length, .slice ab els.length els.length] 25 none 0)) := (Keep.refl H).new _
  have hbx : ∀ H', Keep (H.new (.cells [.int .i64 op, .slice asv set.length set.length, .slice ab els.length els.length] 25 none 0)) H' → H'.get H.n = some (.cells [.int .i64 op, .slice asv set.length set.length, .slice ab els.length els.length] 25 none 0) := fun H' k => (k.get (Nat.lt_succ_self _)).trans (get_new_eq rfl)
  have hel := RXL.len hsub
  simp (config := { maxSteps := 1000000 }) (disch := first | omega | ((repeat (first | rw [n_new] | rw [n_put])) <;> omega) | fail) only [Tryz.f25, tt25, tt23, tt3, G_seq, G_region, G_onil, G_op, GG_true, GX_val, GP_some, put_lt, wantedG_none, eq_self, Nat.zero_add, tget_set, tget_of1, nbeq, evalO_tmp, evalO_bool, oval_eq, xnew_eq, get_new_eq, cx_assign, cx_box, cx_load, cx_fieldAddr, cx_builtin, loadAt_some, loadIn_cells, xfieldAddr_some, xfa_some, bi_len, tyAt0, xlen_sl, isJunk, takeN, Value.cells, List.toList_toArray, List.map_cons, List.map_nil, List.length_cons, List.length_nil, List.drop_zero, List.drop_succ_cons, List.head?_cons, Nat.add_zero, List.getElem?_cons_zero, List.getElem?_cons_succ, Option.map_some, cond_true, cond_false, decide_true, decide_false, if_true, if_false, Nat.reduceEqDiff]
  refine G.cut (fun e s => e = .normal ∧ ∃ tm, s = ⟨tm, [], H.new (.cells [.int .i64 op, .slice asv set.length set.length, .slice ab els.length els.length] 25 none 0)⟩ ∧ tget tm 1 = .pointer (some ⟨H.n, 0, none⟩) ∧ tget tm 3 = .int .i64 ((els.length : Nat) : Int) ∧ tget tm 4 = .bool (arOk op els.length)) ?_ ?_
  · unfold arOk
    by_cases o1 : op = 1
    · simp (config := { maxSteps := 1000000 }) (disch := first | omega | ((repeat (first | rw [n_new] | rw [n_put])) <;> omega) | fail) only [decide_eq_true o1, G_nil, G_skip, G_seq, G_cond, GIf_true, G_block, G_region, G_blkN, G_onil, G_op, GG_true, GX_val, GP_some, put_lt, wantedG_none, eq_self, tget_set, tget_of1, evalO_tmp, evalO_int, oval_eq, cx_move, cx_assign, cx_bin, cbin_eql, List.getElem?_cons_succ, if_true, if_false, Nat.reduceEqDiff]
      refine ⟨trivial, _, rfl, ?_, ?_, ?_⟩
      · simp (config := { maxSteps := 1000000 }) (disch := first | omega | ((repeat (first | rw [n_new] | rw [n_put])) <;> omega) | fail) only [eq_self, tget_set, tget_of1, List.getElem?_cons_succ, if_true, if_false, Nat.reduceEqDiff]
      · simp (config := { maxSteps := 1000000 }) (disch := first | omega | ((repeat (first | rw [n_new] | rw [n_put])) <;> omega) | fail) only [eq_self, tget_set, tget_of1, List.getElem?_cons_succ, if_true, if_false, Nat.reduceEqDiff]
      · rw [if_pos (by omega), ← len_cast (k := 0) rfl]; simp (config := { maxSteps := 1000000 }) (disch := first | omega | ((repeat (first | rw [n_new] | rw [n_put])) <;> omega) | fail) only [eq_self, tget_set, tget_of1, List.getElem?_cons_succ, if_true, if_false, Nat.reduceEqDiff]
    by_cases o2 : op = 2
    · simp (config := { maxSteps := 1000000 }) (disch := first | omega | ((repeat (first | rw [n_new] | rw [n_put])) <;> omega) | fail) only [decide_eq_false o1, decide_eq_true o2, G_nil, G_seq, G_cond, GIf_true, GIf_false, G_block, G_region, G_blkN, G_onil, G_op, GG_true, GX_val, GP_some, put_lt, wantedG_none, eq_self, tget_set, tget_of1, evalO_tmp, evalO_int, oval_eq, cx_move, cx_assign, cx_bin, cbin_eql, List.getElem?_cons_succ, if_true, if_false, Nat.reduceEqDiff]
      refine ⟨trivial, _, rfl, ?_, ?_, ?_⟩
      · simp (config := { maxSteps := 1000000 }) (disch := first | omega | ((repeat (first | rw [n_new] | rw [n_put])) <;> omega) | fail) only [eq_self, tget_set, tget_of1, List.getElem?_cons_succ, if_true, if_false, Nat.reduceEqDiff]
      · simp (config := { maxSteps := 1000000 }) (disch := first | omega | ((repeat (first | rw [n_new] | rw [n_put])) <;> omega) | fail) only [eq_self, tget_set, tget_of1, List.getElem?_cons_succ, if_true, if_false, Nat.reduceEqDiff]
      · rw [if_pos (by omega), ← len_cast (k := 0) rfl]; simp (config := { maxSteps := 1000000 }) (disch := first | omega | ((repeat (first | rw [n_new] | rw [n_put])) <;> omega) | fail) only [eq_self, tget_set, tget_of1, List.getElem?_cons_succ, if_true, if_false, Nat.reduceEqDiff]
    rw [if_neg (by omega)]
    have h2 : decide (2 ≤ els.length) = decide (((els.length : Nat) : Int) ≥ 2) := decide_eq_decide.2 (by omega)
    by_cases o3 : op = 3
    · simp (config := { maxSteps := 1000000 }) (disch := first | omega | ((repeat (first | rw [n_new] | rw [n_put])) <;> omega) | fail) only [decide_eq_false o1, decide_eq_false o2, decide_eq_true o3, G_nil, G_skip, G_seq, G_cond, GIf_true, GIf_false, G_block, G_region, G_blkN, G_onil, G_op, GG_true, GX_val, GP_some, put_lt, wantedG_none, eq_self, tget_set, tget_of1, evalO_tmp, evalO_int, oval_eq, cx_move, cx_assign, cx_bin, cbin_eql, cbin_geq, List.getElem?_cons_succ, if_true, if_false, Nat.reduceEqDiff]
      refine ⟨trivial, _, rfl, ?_, ?_, ?_⟩
      · simp (config := { maxSteps := 1000000 }) (disch := first | omega | ((repeat (first | rw [n_new] | rw [n_put])) <;> omega) | fail) only [eq_self, tget_set, tget_of1, List.getElem?_cons_succ, if_true, if_false, Nat.reduceEqDiff]
      · simp (config := { maxSteps := 1000000 }) (disch := first | omega | ((repeat (first | rw [n_new] | rw [n_put])) <;> omega) | fail) only [eq_self, tget_set, tget_of1, List.getElem?_cons_succ, if_true, if_false, Nat.reduceEqDiff]
      · rw [if_pos (by omega), h2]; simp (config := { maxSteps := 1000000 }) (disch := first | omega | ((repeat (first | rw [n_new] | rw [n_put])) <;> omega) | fail) only [eq_self, tget_set, tget_of1, List.getElem?_cons_succ, if_true, if_false, Nat.reduceEqDiff]
    by_cases o4 : op = 4
    · simp (config := { maxSteps := 1000000 }) (disch := first | omega | ((repeat (first | rw [n_new] | rw [n_put])) <;> omega) | fail) only [decide_eq_false o1, decide_eq_false o2, decide_eq_false o3, decide_eq_true o4, G_nil, G_seq, G_cond, GIf_true, GIf_false, G_block, G_region, G_blkN, G_onil, G_op, GG_true, GX_val, GP_some, put_lt, wantedG_none, eq_self, tget_set, tget_of1, evalO_tmp, evalO_int, oval_eq, cx_move, cx_assign, cx_bin, cbin_eql, cbin_geq, List.getElem?_cons_succ, if_true, if_false, Nat.reduceEqDiff]
      refine ⟨trivial, _, rfl, ?_, ?_, ?_⟩
      · simp (config := { maxSteps := 1000000 }) (disch := first | omega | ((repeat (first | rw [n_new] | rw [n_put])) <;> omega) | fail) only [eq_self, tget_set, tget_of1, List.getElem?_cons_succ, if_true, if_false, Nat.reduceEqDiff]
      · simp (config := { maxSteps := 1000000 }) (disch := first | omega | ((repeat (first | rw [n_new] | rw [n_put])) <;> omega) | fail) only [eq_self, tget_set, tget_of1, List.getElem?_cons_succ, if_true, if_false, Nat.reduceEqDiff]
      · rw [if_pos (by omega), h2]; simp (config := { maxSteps := 1000000 }) (disch := first | omega | ((repeat (first | rw [n_new] | rw [n_put])) <;> omega) | fail) only [eq_self, tget_set, tget_of1, List.getElem?_cons_succ, if_true, if_false, Nat.reduceEqDiff]
    rw [if_neg (by omega)]
    by_cases o5 : op = 5
    · simp (config := { maxSteps := 1000000 }) (disch := first | omega | ((repeat (first | rw [n_new] | rw [n_put])) <;> omega) | fail) only [decide_eq_false o1, decide_eq_false o2, decide_eq_false o3, decide_eq_false o4, decide_eq_true o5, G_nil, G_skip, G_seq, G_cond, GIf_true, GIf_false, G_block, G_region, G_blkN, G_onil, G_op, GG_true, GX_val, GP_some, put_lt, wantedG_none, eq_self, tget_set, tget_of1, evalO_tmp, evalO_int, oval_eq, cx_move, cx_assign, cx_bin, cbin_eql, List.getElem?_cons_succ, if_true, if_false, Nat.reduceEqDiff]
      refine ⟨trivial, _, rfl, ?_, ?_, ?_⟩
      · simp (config := { maxSteps := 1000000 }) (disch := first | omega | ((repeat (first | rw [n_new] | rw [n_put])) <;> omega) | fail) only [eq_self, tget_set, tget_of1, List.getElem?_cons_succ, if_true, if_false, Nat.reduceEqDiff]
      · simp (config := { maxSteps := 1000000 }) (disch := first | omega | ((repeat (first | rw [n_new] | rw [n_put])) <;> omega) | fail) only [eq_self, tget_set, tget_of1, List.getElem?_cons_succ, if_true, if_false, Nat.reduceEqDiff]
      · rw [if_pos (by omega), ← len_cast (k := 1) rfl]; simp (config := { maxSteps := 1000000 }) (disch := first | omega | ((repeat (first | rw [n_new] | rw [n_put])) <;> omega) | fail) only [eq_self, tget_set, tget_of1, List.getElem?_cons_succ, if_true, if_false, Nat.reduceEqDiff]
    by_cases o6 : op = 6
    · simp (config := { maxSteps := 1000000 }) (disch := first | omega | ((repeat (first | rw [n_new] | rw [n_put])) <;> omega) | fail) only [decide_eq_false o1, decide_eq_false o2, decide_eq_false o3, decide_eq_false o4, decide_eq_false o5, decide_eq_true o6, G_nil, G_skip, G_seq, G_cond, GIf_true, GIf_false, G_block, G_region, G_blkN, G_onil, G_op, GG_true, GX_val, GP_some, put_lt, wantedG_none, eq_self, tget_set, tget_of1, evalO_tmp, evalO_int, oval_eq, cx_move, cx_assign, cx_bin, cbin_eql, List.getElem?_cons_succ, if_true, if_false, Nat.reduceEqDiff]
      refine ⟨trivial, _, rfl, ?_, ?_, ?_⟩
      · simp (config := { maxSteps := 1000000 }) (disch := first | omega | ((repeat (first | rw [n_new] | rw [n_put])) <;> omega) | fail) only [eq_self, tget_set, tget_of1, List.getElem?_cons_succ, if_true, if_false, Nat.reduceEqDiff]
      · simp (config := { maxSteps := 1000000 }) (disch := first | omega | ((repeat (first | rw [n_new] | rw [n_put])) <;> omega) | fail) only [eq_self, tget_set, tget_of1, List.getElem?_cons_succ, if_true, if_false, Nat.reduceEqDiff]
      · rw [if_pos (by omega), ← len_cast (k := 1) rfl]; simp (config := { maxSteps := 1000000 }) (disch := first | omega | ((repeat (first | rw [n_new] | rw [n_put])) <;> omega) | fail) only [eq_self, tget_set, tget_of1, List.getElem?_cons_succ, if_true, if_false, Nat.reduceEqDiff]
    by_cases o7 : op = 7
    · simp (config := { maxSteps := 1000000 }) (disch := first | omega | ((repeat (first | rw [n_new] | rw [n_put])) <;> omega) | fail) only [decide_eq_false o1, decide_eq_false o2, decide_eq_false o3, decide_eq_false o4, decide_eq_false o5, decide_eq_false o6, decide_eq_true o7, G_nil, G_seq, G_cond, GIf_true, GIf_false, G_block, G_region, G_blkN, G_onil, G_op, GG_true, GX_val, GP_some, put_lt, wantedG_none, eq_self, tget_set, tget_of1, evalO_tmp, evalO_int, oval_eq, cx_move, cx_assign, cx_bin, cbin_eql, List.getElem?_cons_succ, if_true, if_false, Nat.reduceEqDiff]
      refine ⟨trivial, _, rfl, ?_, ?_, ?_⟩
      · simp (config := { maxSteps := 1000000 }) (disch := first | omega | ((repeat (first | rw [n_new] | rw [n_put])) <;> omega) | fail) only [eq_self, tget_set, tget_of1, List.getElem?_cons_succ, if_true, if_false, Nat.reduceEqDiff]
      · simp (config := { maxSteps := 1000000 }) (disch := first | omega | ((repeat (first | rw [n_new] | rw [n_put])) <;> omega) | fail) only [eq_self, tget_set, tget_of1, List.getElem?_cons_succ, if_true, if_false, Nat.reduceEqDiff]
      · rw [if_pos (by omega), ← len_cast (k := 1) rfl]; simp (config := { maxSteps := 1000000 }) (disch := first | omega | ((repeat (first | rw [n_new] | rw [n_put])) <;> omega) | fail) only [eq_self, tget_set, tget_of1, List.getElem?_cons_succ, if_true, if_false, Nat.reduceEqDiff]
    · simp (config := { maxSteps := 1000000 }) (disch := first | omega | ((repeat (first | rw [n_new] | rw [n_put])) <;> omega) | fail) only [decide_eq_false o1, decide_eq_false o2, decide_eq_false o3, decide_eq_false o4, decide_eq_false o5, decide_eq_false o6, decide_eq_false o7, G_nil, G_skip, G_seq, G_cond, GIf_false, G_block, G_region, G_blkN, G_onil, G_op, GG_true, GX_val, GP_some, put_lt, wantedG_none, eq_self, tget_set, tget_of1, evalO_tmp, evalO_int, oval_eq, cx_assign, cx_bin, cbin_eql, List.getElem?_cons_succ, if_true, if_false, Nat.reduceEqDiff]
      refine ⟨trivial, _, rfl, ?_, ?_, ?_⟩
      · simp (config := { maxSteps := 1000000 }) (disch := first | omega | ((repeat (first | rw [n_new] | rw [n_put])) <;> omega) | fail) only [eq_self, tget_set, tget_of1, List.getElem?_cons_succ, if_true, if_false, Nat.reduceEqDiff]
      · simp (config := { maxSteps := 1000000 }) (disch := first | omega | ((repeat (first | rw [n_new] | rw [n_put])) <;> omega) | fail) only [eq_self, tget_set, tget_of1, List.getElem?_cons_succ, if_true, if_false, Nat.reduceEqDiff]
      · rw [if_neg (by omega)]; simp (config := { maxSteps := 1000000 }) (disch := first | omega | ((repeat (first | rw [n_new] | rw [n_put])) <;> omega) | fail) only [eq_self, tget_set, tget_of1, List.getElem?_cons_succ, if_true, if_false, Nat.reduceEqDiff]
  rintro e s ⟨rfl, tm, rfl, h1, h3, h4⟩
  have hsh : shapedT (.node op set subs) = (arOk op els.length && (if op = 2 then fitS set else set.isEmpty) && shapedL subs) := by rw [shapedT, hel]
  rw [hsh]
  have g0 := hbx _ (Keep.refl _)
  simp only [G_seq]
  refine G.cut (fun e s => e = .normal ∧ ∃ tm H3, s = ⟨tm, [], H3⟩ ∧ Keep (H.new (.cells [.int .i64 op, .slice asv set.length set.length, .slice ab els.length els.length] 25 none 0)) H3 ∧ tget tm 1 = .pointer (some ⟨H.n, 0, none⟩) ∧ tget tm 3 = .int .i64 ((els.length : Nat) : Int) ∧ tget tm 50 = .bool (!(arOk op els.length && (if op = 2 then fitS set else set.isEmpty)))) ?_ ?_
  · cases har : arOk op els.length with
    | false =>
      rw [har] at h4
      simp (config := { maxSteps := 1000000 }) (disch := first | omega | ((repeat (first | rw [n_new] | rw [n_put])) <;> omega) | fail) only [h4, isB_undef, G_nil, G_region, G_onil, G_op, GG_true, GG_false, GX_val, GP_some, put_lt, wantedG_none, wantedG_some, wG_some, isB_bool, List.getElem?_toArray, eq_self, tget_set, evalO_tmp, evalO_bool, Tr.get_set, oval_eq, cx_move, cx_pick, xpick_true, cx_un, un_not, List.getElem?_cons_zero, List.getElem?_cons_succ, cond_true, Bool.false_and, Bool.not_false, if_true, if_false, Nat.reduceEqDiff]
      refine ⟨trivial, _, _, rfl, Keep.refl _, ?_, ?_, ?_⟩
      · simp (config := { maxSteps := 1000000 }) (disch := first | omega | ((repeat (first | rw [n_new] | rw [n_put])) <;> omega) | fail) only [h1, eq_self, tget_set, if_false, Nat.reduceEqDiff]
      · simp (config := { maxSteps := 1000000 }) (disch := first | omega | ((repeat (first | rw [n_new] | rw [n_put])) <;> omega) | fail) only [h3, eq_self, tget_set, if_false, Nat.reduceEqDiff]
      · simp (config := { maxSteps := 1000000 }) (disch := first | omega | ((repeat (first | rw [n_new] | rw [n_put])) <;> omega) | fail) only [eq_self, tget_set, if_true, if_false, Nat.reduceEqDiff]
    | true =>
      rw [har] at h4
      by_cases o2 : op = 2
      · simp (config := { maxSteps := 1000000 }) (disch := first | omega | ((repeat (first | rw [n_new] | rw [n_put])) <;> omega) | fail) only [tt25, tt22, tt3, h1, h4, g0, decide_eq_true o2, ft47, cc47, G_region, G_op, GG_true, GX_val, GX_enter, GP_some, put_lt, wantedG_none, wantedG_some, wG_some, isB_bool, List.getElem?_toArray, eq_self, Nat.zero_add, tget_set, nbeq, evalO_tmp, evalO_int, evalO_func, Tr.get_set, oval_eq, cx_move, cx_load, cx_bin, cx_un, cx_fieldAddr, cx_call, xcallv_func, loadAt_some, loadIn_cells, xfieldAddr_some, xfa_some, cbin_eql, takeN, un_not, List.map_cons, List.map_nil, List.append_nil, List.nil_append, List.drop_zero, List.drop_succ_cons, List.head?_cons, Nat.add_zero, List.getElem?_cons_zero, List.getElem?_cons_succ, Option.map_some, cond_true, cond_false, Bool.true_and, Bool.not_true, Bool.not_false, decide_true, decide_false, if_true, if_false, Nat.reduceEqDiff]
        refine GCall.of (has_fitSet47 hn47 hn66 hn32 ((StA.of hsv).mono kH) hws) ?_
        rintro v H3 ⟨rfl, k3⟩
        have g3 := hbx _ k3
        cases hf : fitS set with
        | false =>
          simp (config := { maxSteps := 1000000 }) (disch := first | omega | ((repeat (first | rw [n_new] | rw [n_put])) <;> omega) | fail) only [isB_undef, G_nil, G_onil, G_op, GG_true, GG_false, GX_val, GP_some, put_lt, wantedG_none, wantedG_some, wG_some, isB_bool, List.getElem?_toArray, eq_self, tget_set, evalO_tmp, evalO_bool, Tr.get_set, oval_eq, cx_move, cx_pick, xpick_true, xpick_false, cx_un, un_not, List.getElem?_cons_zero, List.getElem?_cons_succ, cond_true, cond_false, Bool.not_true, Bool.not_false, if_true, if_false, Nat.reduceEqDiff]
          refine ⟨trivial, _, _, rfl, k3, ?_, ?_, ?_⟩
          · simp (config := { maxSteps := 1000000 }) (disch := first | omega | ((repeat (first | rw [n_new] | rw [n_put])) <;> omega) | fail) only [h1, eq_self, tget_set, if_false, Nat.reduceEqDiff]
          · simp (config := { maxSteps := 1000000 }) (disch := first | omega | ((repeat (first | rw [n_new] | rw [n_put])) <;> omega) | fail) only [h3, eq_self, tget_set, if_false, Nat.reduceEqDiff]
          · rw [if_pos o2]; simp (config := { maxSteps := 1000000 }) (disch := first | omega | ((repeat (first | rw [n_new] | rw [n_put])) <;> omega) | fail) only [eq_self, tget_set, Bool.not_false, if_true, if_false, Nat.reduceEqDiff]
        | true =>
          simp (config := { maxSteps := 1000000 }) (disch := first | omega | ((repeat (first | rw [n_new] | rw [n_put])) <;> omega) | fail) only [tt25, tt3, h1, g3, decide_eq_true o2, G_nil, G_onil, G_op, GG_true, GG_false, GX_val, GP_some, put_lt, wantedG_none, wantedG_some, wG_some, isB_bool, List.getElem?_toArray, eq_self, tget_set, nbeq, evalO_tmp, evalO_int, evalO_bool, Tr.get_set, oval_eq, cx_move, cx_pick, xpick_true, xpick_false, cx_load, cx_bin, cx_un, cx_fieldAddr, loadAt_some, loadIn_cells, xfieldAddr_some, xfa_some, cbin_neq, takeN, un_not, List.drop_zero, List.head?_cons, Nat.add_zero, List.getElem?_cons_zero, List.getElem?_cons_succ, Option.map_some, cond_true, cond_false, Bool.not_true, Bool.not_false, decide_true, decide_false, if_true, if_false, Nat.reduceEqDiff]
          refine ⟨trivial, _, _, rfl, k3, ?_, ?_, ?_⟩
          · simp (config := { maxSteps := 1000000 }) (disch := first | omega | ((repeat (first | rw [n_new] | rw [n_put])) <;> omega) | fail) only [h1, eq_self, tget_set, if_false, Nat.reduceEqDiff]
          · simp (config := { maxSteps := 1000000 }) (disch := first | omega | ((repeat (first | rw [n_new] | rw [n_put])) <;> omega) | fail) only [h3, eq_self, tget_set, if_false, Nat.reduceEqDiff]
          · rw [if_pos o2]; simp (config := { maxSteps := 1000000 }) (disch := first | omega | ((repeat (first | rw [n_new] | rw [n_put])) <;> omega) | fail) only [eq_self, tget_set, Bool.not_true, if_true, if_false, Nat.reduceEqDiff]
      · have hse : decide (((set.length : Nat) : Int) > 0) = !set.isEmpty := by
          cases set with
          | nil => rfl
          | cons p l => exact decide_eq_true (by rw [List.length_cons]; omega)
        simp (config := { maxSteps := 1000000 }) (disch := first | omega | ((repeat (first | rw [n_new] | rw [n_put])) <;> omega) | fail) only [tt25, tt22, tt3, h1, h4, g0, decide_eq_false o2, hse, G_nil, G_region, G_onil, G_op, GG_true, GG_false, GX_val, GP_some, put_lt, wantedG_none, wantedG_some, wG_some, isB_bool, List.getElem?_toArray, eq_self, Nat.zero_add, tget_set, nbeq, evalO_tmp, evalO_int, evalO_bool, Tr.get_set, oval_eq, cx_move, cx_pick, xpick_true, xpick_false, cx_load, cx_bin, cx_un, cx_fieldAddr, cx_builtin, loadAt_some, loadIn_cells, xfieldAddr_some, xfa_some, cbin_eql, cbin_neq, cbin_gtr, bi_len, tyAt0, xlen_sl, takeN, un_not, List.map_cons, List.map_nil, List.drop_zero, List.drop_succ_cons, List.head?_cons, Nat.add_zero, List.getElem?_cons_zero, List.getElem?_cons_succ, Option.map_some, cond_true, cond_false, Bool.true_and, Bool.not_true, Bool.not_false, decide_true, decide_false, if_true, if_false, Nat.reduceEqDiff]
        refine ⟨trivial, _, _, rfl, Keep.refl _, ?_, ?_, ?_⟩
        · simp (config := { maxSteps := 1000000 }) (disch := first | omega | ((repeat (first | rw [n_new] | rw [n_put])) <;> omega) | fail) only [h1, eq_self, tget_set, if_false, Nat.reduceEqDiff]
        · simp (config := { maxSteps := 1000000 }) (disch := first | omega | ((repeat (first | rw [n_new] | rw [n_put])) <;> omega) | fail) only [h3, eq_self, tget_set, if_false, Nat.reduceEqDiff]
        · rw [if_neg o2]; simp (config := { maxSteps := 1000000 }) (disch := first | omega | ((repeat (first | rw [n_new] | rw [n_put])) <;> omega) | fail) only [eq_self, tget_set, if_true, if_false, Nat.reduceEqDiff]
  clear h1 h3 h4 tm
  rintro e s ⟨rfl, tm, H1, rfl, k1, h1, h3, h50⟩
  have kH1 := kH.trans k1
  cases hb : (arOk op els.length && (if op = 2 then fitS set else set.isEmpty)) with
  | false =>
    rw [hb] at h50
    simp (config := { maxSteps := 1000000 }) (disch := first | omega | ((repeat (first | rw [n_new] | rw [n_put])) <;> omega) | fail) only [h50, G_nil, G_seq, G_cond, GIf_true, G_ret, G_region, G_codeR, G_onil, G_op, GG_true, GX_val, GP_some, put_lt, wantedG_none, eq_self, tget_set, evalO_tmp, evalO_bool, cx_assign, resAll, resOne, tupV1, Outs_ret, OutR_some, Bool.false_and, Bool.not_false, if_true]
    exact ⟨trivial, (by first | trivial | rfl), kH1⟩
  | true =>
    rw [hb] at h50
    rw [Bool.true_and]
    simp (config := { maxSteps := 1000000 }) (disch := first | omega | ((repeat (first | rw [n_new] | rw [n_put])) <;> omega) | fail) only [h50, G_skip, G_seq, G_cond, GIf_false, G_block, G_region, G_onil, G_op, GG_true, GX_val, GP_some, put_lt, wantedG_none, evalO_tmp, evalO_int, cx_assign, Bool.not_true]
    refine G_loop_ind (fun k s => ∃ tm H2 i, s = ⟨tm, [], H2⟩ ∧ k + i = els.length ∧ tget tm 1 = .pointer (some ⟨H.n, 0, none⟩) ∧ tget tm 3 = .int .i64 ((els.length : Nat) : Int) ∧ tget tm 5 = .int .i64 ((i : Nat) : Int) ∧ Keep (H.new (.cells [.int .i64 op, .slice asv set.length set.length, .slice ab els.length els.length] 25 none 0)) H2 ∧ shapedL (subs.drop i) = shapedL subs) ?_ els.length _ ?_
    · rintro k ih2 s ⟨tm, H2, i, rfl, hk, h1, h3, h5, k2, hd⟩
      have g2 := hbx H2 k2
      have kH2 := kH.trans k2
      by_cases hi : (i : Int) < (els.length : Int)
      · obtain ⟨x, e, hdx, he, hxe⟩ := RXL.at hsub (i := i) (by omega)
        obtain ⟨b, ty, l, r, rfl, hb, hg, hdr, hl3⟩ := hbv.elem he
        have hg2 : H2.get b = some (.cells l ty (some 3) 3) := by rw [kH2.get hb]; exact hg
        match e, hl3 with
        | [e0, e1, e2], _ =>
          have hdrx : l.drop (i * 3) = e0 :: e1 :: e2 :: r := hdr
          simp (config := { maxSteps := 1000000 }) (disch := first | omega | ((repeat (first | rw [n_new] | rw [n_put])) <;> omega) | fail) only [tt25, tt23, h1, h3, h5, g2, hg2, hdrx, decide_eq_true hi, ft25, cc25, G_skip, G_seq, G_cond, GIf_true, G_block, G_region, G_onil, G_op, GG_true, GX_val, GX_enter, GP_some, put_lt, wantedG_none, eq_self, Nat.zero_add, tget_set, nbeq, evalO_tmp, evalO_func, oval_eq, cx_move, cx_load, cx_bin, cx_fieldAddr, cx_indexAddr, cx_call, xcallv_func, loadAt_some, loadIn_cells, xfieldAddr_some, xfa_some, xindexAddr_some, natOf_nat, xidx_sl, cbin_lss, takeN, List.map_cons, List.map_nil, List.append_nil, List.nil_append, List.drop_zero, List.drop_succ_cons, List.head?_cons, List.getElem?_cons_zero, List.getElem?_cons_succ, Option.map_some, cond_true, cond_false, decide_true, decide_false, if_true, if_false, Nat.reduceEqDiff]
          refine GCall.of (ih i x _ hdx _ _ (wt_at hwl hdx) (RX.mono kH2 _ _ hxe)) ?_
          rintro v H4 ⟨rfl, k4⟩
          cases hs : shapedT x with
          | false =>
            simp (config := { maxSteps := 1000000 }) (disch := first | omega | ((repeat (first | rw [n_new] | rw [n_put])) <;> omega) | fail) only [G_nil, G_seq, G_cond, GIf_true, G_ret, G_region, G_codeR, G_lpR, G_blkR, G_onil, G_op, GG_true, GX_val, GP_some, put_lt, wantedG_none, eq_self, tget_set, evalO_tmp, evalO_bool, oval_eq, cx_assign, cx_un, resAll, resOne, tupV1, Outs_ret, OutR_some, un_not, Bool.not_false, if_true, if_false, Nat.reduceEqDiff]
            refine ⟨trivial, ?_, kH2.trans k4⟩
            rw [← hd, hdx, shapedL, hs]; rfl
          | true =>
            simp (config := { maxSteps := 1000000 }) (disch := first | omega | ((repeat (first | rw [n_new] | rw [n_put])) <;> omega) | fail) only [h5, G_skip, G_cond, GIf_false, G_again, G_region, G_blkN, G_onil, G_op, GG_true, GX_val, GP_some, put_lt, wantedG_none, eq_self, tget_set, evalO_tmp, evalO_int, oval_eq, cx_move, cx_assign, cx_bin, cx_un, cbin_add, wrap_nat_add1, un_not, Bool.not_true, if_true, if_false, Nat.reduceEqDiff]
            refine ih2 (k - 1) _ (by omega) ⟨_, H4, i + 1, rfl, by omega, ?_, ?_, ?_, k2.trans k4, ?_⟩
            · simp (config := { maxSteps := 1000000 }) (disch := first | omega | ((repeat (first | rw [n_new] | rw [n_put])) <;> omega) | fail) only [h1, eq_self, tget_set, if_false, Nat.reduceEqDiff]
            · simp (config := { maxSteps := 1000000 }) (disch := first | omega | ((repeat (first | rw [n_new] | rw [n_put])) <;> omega) | fail) only [h3, eq_self, tget_set, if_false, Nat.reduceEqDiff]
            · simp (config := { maxSteps := 1000000 }) (disch := first | omega | ((repeat (first | rw [n_new] | rw [n_put])) <;> omega) | fail) only [h5, eq_self, tget_set, if_true, if_false, Nat.reduceEqDiff]
            · rw [← hd, hdx, shapedL, hs]; rfl
      · simp (config := { maxSteps := 1000000 }) (disch := first | omega | ((repeat (first | rw [n_new] | rw [n_put])) <;> omega) | fail) only [h3, h5, decide_eq_false hi, G_nil, G_seq, G_cond, GIf_false, G_exit, G_ret, G_region, G_codeE, G_lpE, G_blkE, G_onil, G_op, GG_true, GX_val, GP_some, put_lt, wantedG_none, eq_self, tget_set, evalO_tmp, evalO_bool, oval_eq, cx_move, cx_assign, cx_bin, cbin_lss, resAll, resOne, tupV1, Outs_ret, OutR_some, if_true, if_false, Nat.reduceEqDiff]
        refine ⟨trivial, ?_, kH2⟩
        have e1 : subs.drop i = .nil := RexL.drop_len (by rw [← RXL.len hsub]; omega)
        rw [← hd, e1, shapedL]
    · refine ⟨_, _, 0, rfl, rfl, ?_, ?_, ?_, k1, rfl⟩
      · simp (config := { maxSteps := 1000000 }) (disch := first | omega | ((repeat (first | rw [n_new] | rw [n_put])) <;> omega) | fail) only [h1, eq_self, tget_set, if_false, Nat.reduceEqDiff]
      · simp (config := { maxSteps := 1000000 }) (disch := first | omega | ((repeat (first | rw [n_new] | rw [n_put])) <;> omega) | fail) only [h3, eq_self, tget_set, if_false, Nat.reduceEqDiff]
      · simp (config := { maxSteps := 1000000 }) (disch := first | omega | ((repeat (first | rw [n_new] | rw [n_put])) <;> omega) | fail) only [cast_lit, eq_self, tget_set, if_true]
end
end Go.Proofs
