/- Whether nothing is one of an expression's texts, by the reference, walked (no statement of the program is proved here). -/
import Derived.Test.YtoanfmlpddlcmaaGreatDoorQG
namespace Go.Proofs
open Go Go.PE
noncomputable section
variable {ans : Tr (List Value → Option Value)} {eff : Tr (List Value → Hp → Option (Value × Hp))}
theorem bne_tt : (true == true) = true := rfl
theorem bne_tf : (true == false) = false := rfl
theorem bne_ft : (false == true) = false := rfl
theorem bne_ff : (false == false) = true := rfl
theorem len_one {l : RexL} (h : l.len = 1) : ∃ x, l = .cons x .nil := by
  cases l with
  | nil => cases h
  | cons x l =>
    cases l with
    | nil => exact ⟨x, rfl⟩
    | cons y l => exact absurd h (by show ¬ (l.len + 1 + 1 = 1); omega)
set_option maxRecDepth 100000 in
set_option maxHeartbeats 8000000 in
theorem has_empty16 (hn : NoA ans eff 16) : ∀ (x : RexT) (H : Hp) (cs : List Value), shapedT x = true → RX H x cs → Has (tE ans eff) 16 [.agg cs.toArray] H fun v H' => v = .bool (emptyT x) ∧ Keep H H' := by
  refine RexT.indT _ fun op set subs ih => ?_
  replace ih : ∀ i x r, subs.drop i = .cons x r → ∀ (H : Hp) (cs : List Value), shapedT x = true → RX H x cs → Has (tE ans eff) 16 [.agg cs.toArray] H fun v H' => v = .bool (emptyT x) ∧ Keep H H' := ih
  intro H cs hsh hx
  unfold RX at hx
  obtain ⟨sv, bv, els, rfl, hsv, hbv, hsub⟩ := hx
  obtain ⟨asv, rfl, hls⟩ := hsv.lenP
  obtain ⟨ab, rfl, hlb⟩ := hbv.len
  refine Has.of hn ft16 rfl (Nat.le_of_ble_eq_true rfl) ?_
  have kH : Keep H (H.new (.cells [.int .i64 op, .slice asv set.length set.length, .slice ab els.length els.length] 25 none 0)) := (Keep.refl H).new _
  have hbx : ∀ H', Keep (H.new (.cells [.int .i64 op, .slice asv set.length set.length, .slice ab els.length els.length] 25 none 0)) H' → H'.get H.n = some (.cells [.int .i64 op, .slice asv set.length set.length, .slice ab els.length els.length] 25 none 0) := fun H' k => (k.get (Nat.lt_succ_self _)).trans (get_new_eq rfl)
  unfold shapedT at hsh
  rw [Bool.and_eq_true, Bool.and_eq_true] at hsh
  obtain ⟨⟨har, _⟩, hsh⟩ := hsh
  have hel := RXL.len hsub
  unfold arOk at har
  unfold emptyT
  by_cases o2 : op = 2
  · have o1 : ¬ op = 1 := by omega
    have o5 : ¬ op = 5 := by omega
    have o7 : ¬ op = 7 := by omega
    simp (config := { maxSteps := 1000000 }) (disch := first | omega | ((repeat (first | rw [n_new] | rw [n_put])) <;> omega) | fail) only [Tryz.f16, tt25, tt3, decide_eq_false o1, decide_eq_false o5, decide_eq_false o7, decide_eq_true o2, if_pos o2, G_nil, G_seq, G_cond, GIf_true, GIf_false, G_block, G_ret, G_region, G_codeR, G_blkR, G_onil, G_op, GG_true, GX_val, GP_some, put_lt, wantedG_none, eq_self, Nat.zero_add, tget_set, tget_of1, nbeq, evalO_tmp, evalO_int, evalO_bool, oval_eq, xnew_eq, get_new_eq, cx_assign, cx_box, cx_load, cx_bin, cx_fieldAddr, loadAt_some, loadIn_cells, xfieldAddr_some, xfa_some, cbin_eql, isJunk, takeN, Value.cells, resAll, resOne, tupV1, Outs_ret, OutR_some, List.toList_toArray, List.length_cons, List.length_nil, List.drop_zero, List.head?_cons, Nat.add_zero, List.getElem?_cons_zero, List.getElem?_cons_succ, Option.map_some, cond_true, cond_false, decide_true, decide_false, if_true, if_false, Nat.reduceEqDiff]
    exact ⟨trivial, (by first | trivial | rfl), (by repeat (first | assumption | exact Keep.refl _ | refine Keep.new ?_ _ | refine Keep.put ?_ _ (by first | omega | (simp only [n_new, n_put] <;> omega))))⟩
  · by_cases o6 : op = 6
    · have o1 : ¬ op = 1 := by omega
      have o5 : ¬ op = 5 := by omega
      have o7 : ¬ op = 7 := by omega
      rw [if_neg (by omega), if_neg (by omega), if_pos (by omega)] at har
      have hl1 : els.length = 1 := by rw [hel]; exact of_decide_eq_true har
      obtain ⟨x, hsx⟩ := len_one (of_decide_eq_true har)
      obtain ⟨x', e, hdx, he, hxe⟩ := RXL.at hsub (i := 0) (by omega)
      have hxx : x' = x := by rw [hsx] at hdx; cases hdx; rfl
      subst hxx
      obtain ⟨b, ty, l, r, rfl, hb, hg, hdr, hl3⟩ := hbv.elem he
      have hlt : ((0 : Nat) : Int) < (els.length : Int) := by omega
      match e, hl3 with
      | [e0, e1, e2], _ =>
        have hdrx : l = e0 :: e1 :: e2 :: r := hdr
        subst hdrx
        have hne : b ≠ H.n := by omega
        simp (config := { maxSteps := 1000000 }) (disch := first | omega | ((repeat (first | rw [n_new] | rw [n_put])) <;> omega) | fail) only [Tryz.f16, tt25, tt23, tt3, decide_eq_false o1, decide_eq_false o5, decide_eq_false o7, decide_eq_false o2, decide_eq_true o6, if_neg o2, if_pos o6, hg, hl1, ft16, G_seq, G_cond, GIf_true, GIf_false, G_block, G_region, G_onil, G_op, GG_true, GX_val, GP_some, put_lt, wantedG_none, eq_self, Nat.zero_add, tget_set, tget_of1, nbeq, evalO_tmp, evalO_int, evalO_bool, evalO_func, oval_eq, xnew_eq, get_new_eq, get_new_ne, cx_assign, cx_box, cx_load, cx_bin, cx_fieldAddr, cx_indexAddr, cx_call, xcallv_func, loadAt_some, loadIn_cells, xfieldAddr_some, xfa_some, xindexAddr_some, natOf_lit, xidx_sl, cbin_eql, isJunk, takeN, Value.cells, List.toList_toArray, List.map_cons, List.map_nil, List.length_cons, List.length_nil, List.append_nil, List.nil_append, List.drop_zero, List.drop_succ_cons, List.head?_cons, Nat.add_zero, List.getElem?_cons_zero, List.getElem?_cons_succ, Option.map_some, cond_true, cond_false, decide_true, decide_false, if_true, if_false, Nat.reduceEqDiff, Nat.reduceMul]
        refine GCall.of (ih 0 x' _ hdx _ _ (shapedL_at hsh hdx) (RX.mono ?_ _ _ hxe)) ?_
        · exact (by repeat (first | assumption | exact Keep.refl _ | refine Keep.new ?_ _ | refine Keep.put ?_ _ (by first | omega | (simp only [n_new, n_put] <;> omega))))
        rintro v H4 ⟨rfl, k4⟩
        simp (config := { maxSteps := 1000000 }) (disch := first | omega | ((repeat (first | rw [n_new] | rw [n_put])) <;> omega) | fail) only [G_nil, G_ret, G_codeR, G_blkR, G_onil, G_op, GG_true, GX_val, GP_some, put_lt, wantedG_none, eq_self, tget_set, tget_of1, evalO_tmp, cx_assign, resAll, resOne, tupV1, Outs_ret, OutR_some, List.getElem?_cons_succ, if_true, if_false, Nat.reduceEqDiff]
        refine ⟨trivial, ?_, Keep.trans (by repeat (first | assumption | exact Keep.refl _ | refine Keep.new ?_ _ | refine Keep.put ?_ _ (by first | omega | (simp only [n_new, n_put] <;> omega)))) k4⟩
        rw [hsx]; unfold anyE; unfold anyE; rw [Bool.or_false]
    · by_cases o4 : op = 4
      · have o1 : ¬ op = 1 := by omega
        have o5 : ¬ op = 5 := by omega
        have o7 : ¬ op = 7 := by omega
        have o3 : ¬ op = 3 := by omega
        rw [if_neg o2, if_neg o6, if_pos o4]
        simp (config := { maxSteps := 1000000 }) (disch := first | omega | ((repeat (first | rw [n_new] | rw [n_put])) <;> omega) | fail) only [Tryz.f16, tt25, tt3, decide_eq_false o1, decide_eq_false o5, decide_eq_false o7, decide_eq_false o2, decide_eq_false o6, G_skip, G_seq, G_cond, GIf_false, G_block, G_region, G_blkN, G_onil, G_op, GG_true, GX_val, GP_some, put_lt, wantedG_none, eq_self, Nat.zero_add, tget_set, tget_of1, nbeq, evalO_tmp, evalO_int, evalO_bool, oval_eq, xnew_eq, get_new_eq, cx_assign, cx_box, cx_load, cx_bin, cx_fieldAddr, loadAt_some, loadIn_cells, xfieldAddr_some, xfa_some, cbin_eql, isJunk, takeN, Value.cells, List.toList_toArray, List.length_cons, List.length_nil, List.drop_zero, List.head?_cons, Nat.add_zero, List.getElem?_cons_zero, List.getElem?_cons_succ, Option.map_some, cond_true, cond_false, decide_true, decide_false, if_true, if_false, Nat.reduceEqDiff]
        refine G_loop_ind (fun k s => ∃ tm H2 i, s = ⟨tm, [], H2⟩ ∧ k + i = els.length ∧ tget tm 1 = .pointer (some ⟨H.n, 0, none⟩) ∧ tget tm 3 = .int .i64 ((i : Nat) : Int) ∧ Keep (H.new (.cells [.int .i64 op, .slice asv set.length set.length, .slice ab els.length els.length] 25 none 0)) H2 ∧ hasE false (subs.drop i) = hasE false subs) ?_ els.length _ ?_
        · rintro k ih2 s ⟨tm, H2, i, rfl, hk, h1, h3, k2, hd⟩
          have g2 := hbx H2 k2
          have kH2 := kH.trans k2
          by_cases hi : (i : Int) < (els.length : Int)
          · obtain ⟨x, e, hdx, he, hxe⟩ := RXL.at hsub (i := i) (by omega)
            obtain ⟨b, ty, l, r, rfl, hb, hg, hdr, hl3⟩ := hbv.elem he
            have hg2 : H2.get b = some (.cells l ty (some 3) 3) := by rw [kH2.get hb]; exact hg
            match e, hl3 with
            | [e0, e1, e2], _ =>
              have hdrx : l.drop (i * 3) = e0 :: e1 :: e2 :: r := hdr
              obtain ⟨a1, n1, a2, n2, rfl, rfl, rfl⟩ := hxe.shape
              simp (config := { maxSteps := 1000000 }) (disch := first | omega | ((repeat (first | rw [n_new] | rw [n_put])) <;> omega) | fail) only [tt25, tt23, h1, h3, g2, decide_eq_true hi, G_skip, G_seq, G_cond, GIf_true, G_block, G_region, G_onil, G_op, GG_true, GX_val, GP_some, put_lt, wantedG_none, eq_self, Nat.zero_add, tget_set, nbeq, evalO_tmp, oval_eq, cx_move, cx_load, cx_bin, cx_fieldAddr, cx_builtin, loadAt_some, loadIn_cells, xfieldAddr_some, xfa_some, cbin_lss, bi_len, tyAt0, xlen_sl, takeN, List.map_cons, List.map_nil, List.drop_zero, List.drop_succ_cons, List.head?_cons, List.getElem?_cons_zero, List.getElem?_cons_succ, Option.map_some, cond_true, cond_false, decide_true, decide_false, if_true, if_false, Nat.reduceEqDiff]
              rw [G_drawP [(0, []), (1, []), (2, []), (3, []), (4, []), (6, []), (7, []), (8, []), (5, [8, 7]), (9, [])] (by kernel_rfl) (by kernel_rfl)]
              simp only [planL, List.filterMap_cons, List.filterMap_nil, List.getElem?_toArray, List.getElem?_cons_zero, List.getElem?_cons_succ, Option.map_some]
              simp (config := { maxSteps := 1000000 }) (disch := first | omega | ((repeat (first | rw [n_new] | rw [n_put])) <;> omega) | fail) only [tt25, tt23, tt3, h1, h3, g2, hg2, hdrx, decide_eq_false o3, ft16, cc16, G_planC, G_reN, G_onil, G_op, GG_true, GX_val, GX_enter, GP_some, put_lt, wantedG_none, eq_self, Nat.zero_add, tget_set, nbeq, evalO_tmp, evalO_int, evalO_func, oval_eq, cx_move, cx_load, cx_bin, cx_fieldAddr, cx_indexAddr, cx_call, xcallv_func, loadAt_some, loadIn_cells, xfieldAddr_some, xfa_some, xindexAddr_some, natOf_nat, xidx_sl, cbin_eql, takeN, List.map_cons, List.map_nil, List.append_nil, List.nil_append, List.drop_zero, List.drop_succ_cons, List.head?_cons, Nat.add_zero, List.getElem?_cons_zero, List.getElem?_cons_succ, Option.map_some, cond_true, cond_false, decide_true, decide_false, if_true, if_false, Nat.reduceEqDiff]
              refine GCall.of (ih i x _ hdx _ _ (shapedL_at hsh hdx) (RX.mono kH2 _ _ hxe)) ?_
              rintro v H4 ⟨rfl, k4⟩
              have g4 := hbx H4 (k2.trans k4)
              simp (config := { maxSteps := 1000000 }) (disch := first | omega | ((repeat (first | rw [n_new] | rw [n_put])) <;> omega) | fail) only [G_onil, GP_some, put_lt]
              rw [G_reC (by simp (config := { maxSteps := 1000000 }) (disch := first | omega | ((repeat (first | rw [n_new] | rw [n_put])) <;> omega) | fail) only [reOne, sameVal, veq, decide_eq_false o3, wantedG_none, eq_self, tget_set, evalO_tmp, evalO_int, Tr.get_set, oval_eq, cx_bin, cbin_eql, decide_true, if_true, if_false, Nat.reduceEqDiff]), G_reC (by simp (config := { maxSteps := 1000000 }) (disch := first | omega | ((repeat (first | rw [n_new] | rw [n_put])) <;> omega) | fail) only [reOne, tt3, g4, sameVal, veq, wantedG_none, eq_self, tget_set, evalO_tmp, Tr.get_set, oval_eq, cx_load, loadAt_some, loadIn_cells, takeN, List.drop_zero, List.head?_cons, Option.map_some, cond_false, Bool.and_true, decide_true, if_true, if_false, Nat.reduceEqDiff])]
              cases hs : emptyT x with
              | true =>
                simp (config := { maxSteps := 1000000 }) (disch := first | omega | ((repeat (first | rw [n_new] | rw [n_put])) <;> omega) | fail) only [tt25, tt3, h1, g4, decide_eq_true o4, bne_tf, G_planC, G_planN, G_reN, G_nil, G_seq, G_cond, GIf_true, G_ret, G_region, G_codeR, G_lpR, G_blkR, G_onil, G_op, GG_true, GX_val, GP_some, put_lt, wantedG_none, eq_self, tget_set, nbeq, evalO_tmp, evalO_int, oval_eq, cx_assign, cx_load, cx_bin, cx_fieldAddr, loadAt_some, loadIn_cells, xfieldAddr_some, xfa_some, cbin_eql, takeN, resAll, resOne, tupV1, Outs_ret, OutR_some, neB, List.drop_zero, List.head?_cons, Nat.add_zero, List.getElem?_cons_zero, Option.map_some, cond_true, cond_false, Bool.not_false, decide_true, decide_false, if_true, if_false, Nat.reduceEqDiff]
                refine ⟨trivial, ?_, kH2.trans k4⟩
                rw [← hasE_false]; rw [← hd, hdx, hasE, hs] <;> rfl
              | false =>
                simp (config := { maxSteps := 1000000 }) (disch := first | omega | ((repeat (first | rw [n_new] | rw [n_put])) <;> omega) | fail) only [h3, bne_ff, G_planC, G_planN, G_reN, G_skip, G_cond, GIf_false, G_again, G_region, G_blkN, G_onil, G_op, GG_true, GX_val, GP_some, put_lt, wantedG_none, eq_self, tget_set, evalO_tmp, evalO_int, oval_eq, cx_move, cx_assign, cx_bin, cbin_add, wrap_nat_add1, neB, Bool.not_true, if_true, if_false, Nat.reduceEqDiff]
                refine ih2 (k - 1) _ (by omega) ⟨_, H4, i + 1, rfl, by omega, ?_, ?_, k2.trans k4, ?_⟩
                · simp (config := { maxSteps := 1000000 }) (disch := first | omega | ((repeat (first | rw [n_new] | rw [n_put])) <;> omega) | fail) only [h1, eq_self, tget_set, if_false, Nat.reduceEqDiff]
                · simp (config := { maxSteps := 1000000 }) (disch := first | omega | ((repeat (first | rw [n_new] | rw [n_put])) <;> omega) | fail) only [h3, eq_self, tget_set, if_true, if_false, Nat.reduceEqDiff]
                · rw [← hd, hdx, hasE, hs]; rfl
          · simp (config := { maxSteps := 1000000 }) (disch := first | omega | ((repeat (first | rw [n_new] | rw [n_put])) <;> omega) | fail) only [tt25, tt23, tt3, h1, h3, g2, decide_eq_false hi, decide_eq_false o3, G_nil, G_seq, G_cond, GIf_false, G_exit, G_ret, G_region, G_codeE, G_lpE, G_blkE, G_onil, G_op, GG_true, GX_val, GP_some, put_lt, wantedG_none, eq_self, Nat.zero_add, tget_set, nbeq, evalO_tmp, evalO_int, oval_eq, cx_move, cx_assign, cx_load, cx_bin, cx_fieldAddr, cx_builtin, loadAt_some, loadIn_cells, xfieldAddr_some, xfa_some, cbin_eql, cbin_lss, bi_len, tyAt0, xlen_sl, takeN, resAll, resOne, tupV1, Outs_ret, OutR_some, List.map_cons, List.map_nil, List.drop_zero, List.drop_succ_cons, List.head?_cons, Nat.add_zero, List.getElem?_cons_zero, List.getElem?_cons_succ, Option.map_some, cond_true, cond_false, decide_true, decide_false, if_true, if_false, Nat.reduceEqDiff]
            refine ⟨trivial, ?_, kH2⟩
            have e1 : subs.drop i = .nil := RexL.drop_len (by rw [← RXL.len hsub]; omega)
            rw [← hasE_false]; rw [← hd, e1, hasE]
        · refine ⟨_, _, 0, rfl, rfl, ?_, ?_, Keep.refl _, rfl⟩
          all_goals (simp (config := { maxSteps := 1000000 }) (disch := first | omega | ((repeat (first | rw [n_new] | rw [n_put])) <;> omega) | fail) only [cast_lit, eq_self, tget_set, tget_of1, List.getElem?_cons_succ, if_true, if_false, Nat.reduceEqDiff]; done)
      · by_cases o3 : op = 3
        · have o1 : ¬ op = 1 := by omega
          have o5 : ¬ op = 5 := by omega
          have o7 : ¬ op = 7 := by omega
          rw [if_neg o2, if_neg o6, if_neg o4, if_pos o3]
          simp (config := { maxSteps := 1000000 }) (disch := first | omega | ((repeat (first | rw [n_new] | rw [n_put])) <;> omega) | fail) only [Tryz.f16, tt25, tt3, decide_eq_false o1, decide_eq_false o5, decide_eq_false o7, decide_eq_false o2, decide_eq_false o6, G_skip, G_seq, G_cond, GIf_false, G_block, G_region, G_blkN, G_onil, G_op, GG_true, GX_val, GP_some, put_lt, wantedG_none, eq_self, Nat.zero_add, tget_set, tget_of1, nbeq, evalO_tmp, evalO_int, evalO_bool, oval_eq, xnew_eq, get_new_eq, cx_assign, cx_box, cx_load, cx_bin, cx_fieldAddr, loadAt_some, loadIn_cells, xfieldAddr_some, xfa_some, cbin_eql, isJunk, takeN, Value.cells, List.toList_toArray, List.length_cons, List.length_nil, List.drop_zero, List.head?_cons, Nat.add_zero, List.getElem?_cons_zero, List.getElem?_cons_succ, Option.map_some, cond_true, cond_false, decide_true, decide_false, if_true, if_false, Nat.reduceEqDiff]
          refine G_loop_ind (fun k s => ∃ tm H2 i, s = ⟨tm, [], H2⟩ ∧ k + i = els.length ∧ tget tm 1 = .pointer (some ⟨H.n, 0, none⟩) ∧ tget tm 3 = .int .i64 ((i : Nat) : Int) ∧ Keep (H.new (.cells [.int .i64 op, .slice asv set.length set.length, .slice ab els.length els.length] 25 none 0)) H2 ∧ hasE true (subs.drop i) = hasE true subs) ?_ els.length _ ?_
          · rintro k ih2 s ⟨tm, H2, i, rfl, hk, h1, h3, k2, hd⟩
            have g2 := hbx H2 k2
            have kH2 := kH.trans k2
            by_cases hi : (i : Int) < (els.length : Int)
            · obtain ⟨x, e, hdx, he, hxe⟩ := RXL.at hsub (i := i) (by omega)
              obtain ⟨b, ty, l, r, rfl, hb, hg, hdr, hl3⟩ := hbv.elem he
              have hg2 : H2.get b = some (.cells l ty (some 3) 3) := by rw [kH2.get hb]; exact hg
              match e, hl3 with
              | [e0, e1, e2], _ =>
                have hdrx : l.drop (i * 3) = e0 :: e1 :: e2 :: r := hdr
                obtain ⟨a1, n1, a2, n2, rfl, rfl, rfl⟩ := hxe.shape
                simp (config := { maxSteps := 1000000 }) (disch := first | omega | ((repeat (first | rw [n_new] | rw [n_put])) <;> omega) | fail) only [tt25, tt23, h1, h3, g2, decide_eq_true hi, G_skip, G_seq, G_cond, GIf_true, G_block, G_region, G_onil, G_op, GG_true, GX_val, GP_some, put_lt, wantedG_none, eq_self, Nat.zero_add, tget_set, nbeq, evalO_tmp, oval_eq, cx_move, cx_load, cx_bin, cx_fieldAddr, cx_builtin, loadAt_some, loadIn_cells, xfieldAddr_some, xfa_some, cbin_lss, bi_len, tyAt0, xlen_sl, takeN, List.map_cons, List.map_nil, List.drop_zero, List.drop_succ_cons, List.head?_cons, List.getElem?_cons_zero, List.getElem?_cons_succ, Option.map_some, cond_true, cond_false, decide_true, decide_false, if_true, if_false, Nat.reduceEqDiff]
                rw [G_drawP [(0, []), (1, []), (2, []), (3, []), (4, []), (6, []), (7, []), (8, []), (5, [8, 7]), (9, [])] (by kernel_rfl) (by kernel_rfl)]
                simp only [planL, List.filterMap_cons, List.filterMap_nil, List.getElem?_toArray, List.getElem?_cons_zero, List.getElem?_cons_succ, Option.map_some]
                simp (config := { maxSteps := 1000000 }) (disch := first | omega | ((repeat (first | rw [n_new] | rw [n_put])) <;> omega) | fail) only [tt25, tt23, tt3, h1, h3, g2, hg2, hdrx, decide_eq_true o3, ft16, cc16, G_planC, G_reN, G_onil, G_op, GG_true, GX_val, GX_enter, GP_some, put_lt, wantedG_none, eq_self, Nat.zero_add, tget_set, nbeq, evalO_tmp, evalO_int, evalO_func, oval_eq, cx_move, cx_load, cx_bin, cx_fieldAddr, cx_indexAddr, cx_call, xcallv_func, loadAt_some, loadIn_cells, xfieldAddr_some, xfa_some, xindexAddr_some, natOf_nat, xidx_sl, cbin_eql, takeN, List.map_cons, List.map_nil, List.append_nil, List.nil_append, List.drop_zero, List.drop_succ_cons, List.head?_cons, Nat.add_zero, List.getElem?_cons_zero, List.getElem?_cons_succ, Option.map_some, cond_true, cond_false, decide_true, decide_false, if_true, if_false, Nat.reduceEqDiff]
                refine GCall.of (ih i x _ hdx _ _ (shapedL_at hsh hdx) (RX.mono kH2 _ _ hxe)) ?_
                rintro v H4 ⟨rfl, k4⟩
                have g4 := hbx H4 (k2.trans k4)
                simp (config := { maxSteps := 1000000 }) (disch := first | omega | ((repeat (first | rw [n_new] | rw [n_put])) <;> omega) | fail) only [G_onil, GP_some, put_lt]
                rw [G_reC (by simp (config := { maxSteps := 1000000 }) (disch := first | omega | ((repeat (first | rw [n_new] | rw [n_put])) <;> omega) | fail) only [reOne, sameVal, veq, decide_eq_true o3, wantedG_none, eq_self, tget_set, evalO_tmp, evalO_int, Tr.get_set, oval_eq, cx_bin, cbin_eql, decide_true, if_true, if_false, Nat.reduceEqDiff]), G_reC (by simp (config := { maxSteps := 1000000 }) (disch := first | omega | ((repeat (first | rw [n_new] | rw [n_put])) <;> omega) | fail) only [reOne, tt3, g4, sameVal, veq, wantedG_none, eq_self, tget_set, evalO_tmp, Tr.get_set, oval_eq, cx_load, loadAt_some, loadIn_cells, takeN, List.drop_zero, List.head?_cons, Option.map_some, cond_false, Bool.and_true, decide_true, if_true, if_false, Nat.reduceEqDiff])]
                cases hs : emptyT x with
                | false =>
                  simp (config := { maxSteps := 1000000 }) (disch := first | omega | ((repeat (first | rw [n_new] | rw [n_put])) <;> omega) | fail) only [tt25, tt3, h1, g4, decide_eq_false o4, bne_ft, G_planC, G_planN, G_reN, G_nil, G_seq, G_cond, GIf_true, G_ret, G_region, G_codeR, G_lpR, G_blkR, G_onil, G_op, GG_true, GX_val, GP_some, put_lt, wantedG_none, eq_self, tget_set, nbeq, evalO_tmp, evalO_int, oval_eq, cx_assign, cx_load, cx_bin, cx_fieldAddr, loadAt_some, loadIn_cells, xfieldAddr_some, xfa_some, cbin_eql, takeN, resAll, resOne, tupV1, Outs_ret, OutR_some, neB, List.drop_zero, List.head?_cons, Nat.add_zero, List.getElem?_cons_zero, Option.map_some, cond_true, cond_false, Bool.not_false, decide_true, decide_false, if_true, if_false, Nat.reduceEqDiff]
                  refine ⟨trivial, ?_, kH2.trans k4⟩
                  rw [← hasE_true]; rw [← hd, hdx, hasE, hs] <;> rfl
                | true =>
                  simp (config := { maxSteps := 1000000 }) (disch := first | omega | ((repeat (first | rw [n_new] | rw [n_put])) <;> omega) | fail) only [h3, bne_tt, G_planC, G_planN, G_reN, G_skip, G_cond, GIf_false, G_again, G_region, G_blkN, G_onil, G_op, GG_true, GX_val, GP_some, put_lt, wantedG_none, eq_self, tget_set, evalO_tmp, evalO_int, oval_eq, cx_move, cx_assign, cx_bin, cbin_add, wrap_nat_add1, neB, Bool.not_true, if_true, if_false, Nat.reduceEqDiff]
                  refine ih2 (k - 1) _ (by omega) ⟨_, H4, i + 1, rfl, by omega, ?_, ?_, k2.trans k4, ?_⟩
                  · simp (config := { maxSteps := 1000000 }) (disch := first | omega | ((repeat (first | rw [n_new] | rw [n_put])) <;> omega) | fail) only [h1, eq_self, tget_set, if_false, Nat.reduceEqDiff]
                  · simp (config := { maxSteps := 1000000 }) (disch := first | omega | ((repeat (first | rw [n_new] | rw [n_put])) <;> omega) | fail) only [h3, eq_self, tget_set, if_true, if_false, Nat.reduceEqDiff]
                  · rw [← hd, hdx, hasE, hs]; rfl
            · simp (config := { maxSteps := 1000000 }) (disch := first | omega | ((repeat (first | rw [n_new] | rw [n_put])) <;> omega) | fail) only [tt25, tt23, tt3, h1, h3, g2, decide_eq_false hi, decide_eq_true o3, G_nil, G_seq, G_cond, GIf_false, G_exit, G_ret, G_region, G_codeE, G_lpE, G_blkE, G_onil, G_op, GG_true, GX_val, GP_some, put_lt, wantedG_none, eq_self, Nat.zero_add, tget_set, nbeq, evalO_tmp, evalO_int, oval_eq, cx_move, cx_assign, cx_load, cx_bin, cx_fieldAddr, cx_builtin, loadAt_some, loadIn_cells, xfieldAddr_some, xfa_some, cbin_eql, cbin_lss, bi_len, tyAt0, xlen_sl, takeN, resAll, resOne, tupV1, Outs_ret, OutR_some, List.map_cons, List.map_nil, List.drop_zero, List.drop_succ_cons, List.head?_cons, Nat.add_zero, List.getElem?_cons_zero, List.getElem?_cons_succ, Option.map_some, cond_true, cond_false, decide_true, decide_false, if_true, if_false, Nat.reduceEqDiff]
              refine ⟨trivial, ?_, kH2⟩
              have e1 : subs.drop i = .nil := RexL.drop_len (by rw [← RXL.len hsub]; omega)
              rw [← hasE_true]; rw [← hd, e1, hasE]; rfl
          · refine ⟨_, _, 0, rfl, rfl, ?_, ?_, Keep.refl _, rfl⟩
            all_goals (simp (config := { maxSteps := 1000000 }) (disch := first | omega | ((repeat (first | rw [n_new] | rw [n_put])) <;> omega) | fail) only [cast_lit, eq_self, tget_set, tget_of1, List.getElem?_cons_succ, if_true, if_false, Nat.reduceEqDiff]; done)
        · rw [if_neg o2, if_neg o6, if_neg o4, if_neg o3]
          by_cases o1 : op = 1
          · simp (config := { maxSteps := 1000000 }) (disch := first | omega | ((repeat (first | rw [n_new] | rw [n_put])) <;> omega) | fail) only [Tryz.f16, tt25, tt3, decide_eq_true o1, G_nil, G_skip, G_seq, G_cond, GIf_true, G_block, G_ret, G_region, G_codeR, G_blkR, G_onil, G_op, GG_true, GX_val, GP_some, put_lt, wantedG_none, eq_self, Nat.zero_add, tget_set, tget_of1, nbeq, evalO_tmp, evalO_int, evalO_bool, oval_eq, xnew_eq, get_new_eq, cx_assign, cx_box, cx_load, cx_bin, cx_fieldAddr, loadAt_some, loadIn_cells, xfieldAddr_some, xfa_some, cbin_eql, isJunk, takeN, Value.cells, resAll, resOne, tupV1, Outs_ret, OutR_some, List.toList_toArray, List.length_cons, List.length_nil, List.drop_zero, List.head?_cons, Nat.add_zero, List.getElem?_cons_zero, List.getElem?_cons_succ, Option.map_some, cond_true, cond_false, decide_true, decide_false, if_true, if_false, Nat.reduceEqDiff]
            exact ⟨trivial, (by first | trivial | rfl), (by repeat (first | assumption | exact Keep.refl _ | refine Keep.new ?_ _ | refine Keep.put ?_ _ (by first | omega | (simp only [n_new, n_put] <;> omega))))⟩
          · by_cases o5 : op = 5
            · simp (config := { maxSteps := 1000000 }) (disch := first | omega | ((repeat (first | rw [n_new] | rw [n_put])) <;> omega) | fail) only [Tryz.f16, tt25, tt3, decide_eq_false o1, decide_eq_true o5, G_nil, G_skip, G_seq, G_cond, GIf_true, GIf_false, G_block, G_ret, G_region, G_codeR, G_blkR, G_onil, G_op, GG_true, GX_val, GP_some, put_lt, wantedG_none, eq_self, Nat.zero_add, tget_set, tget_of1, nbeq, evalO_tmp, evalO_int, evalO_bool, oval_eq, xnew_eq, get_new_eq, cx_assign, cx_box, cx_load, cx_bin, cx_fieldAddr, loadAt_some, loadIn_cells, xfieldAddr_some, xfa_some, cbin_eql, isJunk, takeN, Value.cells, resAll, resOne, tupV1, Outs_ret, OutR_some, List.toList_toArray, List.length_cons, List.length_nil, List.drop_zero, List.head?_cons, Nat.add_zero, List.getElem?_cons_zero, List.getElem?_cons_succ, Option.map_some, cond_true, cond_false, decide_true, decide_false, if_true, if_false, Nat.reduceEqDiff]
              exact ⟨trivial, (by first | trivial | rfl), (by repeat (first | assumption | exact Keep.refl _ | refine Keep.new ?_ _ | refine Keep.put ?_ _ (by first | omega | (simp only [n_new, n_put] <;> omega))))⟩
            · by_cases o7 : op = 7
              · simp (config := { maxSteps := 1000000 }) (disch := first | omega | ((repeat (first | rw [n_new] | rw [n_put])) <;> omega) | fail) only [Tryz.f16, tt25, tt3, decide_eq_false o1, decide_eq_false o5, decide_eq_true o7, G_nil, G_seq, G_cond, GIf_true, GIf_false, G_block, G_ret, G_region, G_codeR, G_blkR, G_onil, G_op, GG_true, GX_val, GP_some, put_lt, wantedG_none, eq_self, Nat.zero_add, tget_set, tget_of1, nbeq, evalO_tmp, evalO_int, evalO_bool, oval_eq, xnew_eq, get_new_eq, cx_assign, cx_box, cx_load, cx_bin, cx_fieldAddr, loadAt_some, loadIn_cells, xfieldAddr_some, xfa_some, cbin_eql, isJunk, takeN, Value.cells, resAll, resOne, tupV1, Outs_ret, OutR_some, List.toList_toArray, List.length_cons, List.length_nil, List.drop_zero, List.head?_cons, Nat.add_zero, List.getElem?_cons_zero, List.getElem?_cons_succ, Option.map_some, cond_true, cond_false, decide_true, decide_false, if_true, if_false, Nat.reduceEqDiff]
                exact ⟨trivial, (by first | trivial | rfl), (by repeat (first | assumption | exact Keep.refl _ | refine Keep.new ?_ _ | refine Keep.put ?_ _ (by first | omega | (simp only [n_new, n_put] <;> omega))))⟩
              · rw [if_neg (by omega), if_neg (by omega), if_neg (by omega)] at har; cases har
end
end Go.Proofs
