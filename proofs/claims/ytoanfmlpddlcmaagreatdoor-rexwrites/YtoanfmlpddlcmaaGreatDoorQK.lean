/- The reference's fitSet, walked (no statement of the program is proved here). -/
import Derived.Test.YtoanfmlpddlcmaaGreatDoorQJ
namespace Go.Proofs
open Go Go.PE
noncomputable section
variable {ans : Tr (List Value → Option Value)} {eff : Tr (List Value → Hp → Option (Value × Hp))}
theorem fitS_valid {l : List (Int × Int)} (h : fitS l = true) : ∀ p ∈ l, validP p := by
  intro p hp
  have := (of_decide_eq_true h).2.1 p hp
  exact ⟨this.1, this.2.1, this.2.2.1⟩
theorem fitS_bad {l : List (Int × Int)} {p : Int × Int} (hp : p ∈ l) (h : ¬ validP p) : fitS l = false := by
  cases hf : fitS l with
  | false => rfl
  | true => exact absurd (fitS_valid hf p hp) h
/-- what a set's normal form tells -/
theorem fitS_eq {l s : List (Int × Int)} (h0 : l ≠ []) (hv : ∀ p ∈ l, validP p) (hp : s.Perm (piecesL l)) (hs : LoS s) : decide (l = mergeL s) = fitS l := by
  unfold fitS
  by_cases h : NormP l
  · rw [decide_eq_true ((norm_fix hv hp hs).2 h), decide_eq_true ⟨h0, h⟩]
  · rw [decide_eq_false (fun e => h ((norm_fix hv hp hs).1 e)), decide_eq_false (fun e => h e.2)]
set_option maxRecDepth 100000 in
set_option maxHeartbeats 8000000 in
theorem has_fitSet47 (hn : NoA ans eff 47) (hn66 : NoA ans eff 66) (hn32 : NoA ans eff 32) {H : Hp} {v : Value} {l : List (Int × Int)} (hv : StA H v l) (hlen : l.length ≤ 200000) :
    Has (tE ans eff) 47 [v] H fun r H' => r = .bool (fitS l) ∧ Keep H H' := by
  obtain ⟨a, c, rfl, hl, _⟩ := id hv
  refine Has.of hn ft47 rfl (Nat.le_of_ble_eq_true rfl) ?_
  simp (config := { maxSteps := 1000000 }) (disch := first | omega | ((repeat (first | rw [n_new] | rw [n_put])) <;> omega) | fail) only [Tryz.f47, G_seq, G_block, G_region, G_onil, G_op, GG_true, GX_val, GP_some, put_lt, wantedG_none, Nat.zero_add, evalO_int, evalO_bool, cx_assign, List.toList_toArray, List.length_cons, List.length_nil]
  refine G_loop_ind (fun k s => ∃ tm H2 i, s = ⟨tm, [], H2⟩ ∧ k + i = l.length ∧ tget tm 0 = .slice a l.length c ∧ tget tm 3 = .int .i64 ((i : Nat) : Int) ∧ (∀ p ∈ l.take i, validP p) ∧ Keep H H2) ?_ l.length _ ?_
  · rintro k ih2 s ⟨tm, H2, i, rfl, hk, h0, h3, hva, kH⟩
    by_cases hi : (i : Int) < (l.length : Int)
    · obtain ⟨p, hp, hpd⟩ := drop_at (l := l) (i := i) (by omega)
      obtain ⟨b, cs, ty, es, fl, r, rfl, hb, hg, hdr⟩ := hv.elem hp
      have hg2 : H2.get b = some (.cells cs ty es fl) := by rw [kH.get hb]; exact hg
      have hdr1 : cs.drop (i * 2 + 1) = .int .i64 p.2 :: r := by rw [← List.drop_drop, hdr]; rfl
      have hpm := List.mem_of_getElem? hp
      simp (config := { maxSteps := 1000000 }) (disch := first | omega | ((repeat (first | rw [n_new] | rw [n_put])) <;> omega) | fail) only [tt22, h0, h3, decide_eq_true hi, G_skip, G_seq, G_cond, GIf_true, G_block, G_region, G_onil, G_op, GG_true, GX_val, GP_some, put_lt, wantedG_none, eq_self, tget_set, nbeq, evalO_tmp, oval_eq, cx_move, cx_bin, cx_builtin, cbin_lss, bi_len, tyAt0, xlen_sl, List.map_cons, List.map_nil, cond_true, decide_true, if_true, if_false, Nat.reduceEqDiff]
      rw [G_draw (by kernel_rfl)]
      by_cases h1 : p.1 < 0
      · simp (config := { maxSteps := 1000000 }) (disch := first | omega | ((repeat (first | rw [n_new] | rw [n_put])) <;> omega) | fail) only [tt22, tt62, tt3, h0, h3, hg2, hdr, decide_eq_true h1, G_nil, G_seq, G_cond, GIf_true, G_ret, G_region, G_codeR, G_lpR, G_blkR, G_onil, G_op, GG_true, GG_false, GX_val, GP_some, put_lt, wantedG_none, wantedG_some, wG_some, isB_bool, List.getElem?_toArray, eq_self, Nat.zero_add, tget_set, nbeq, evalO_tmp, evalO_int, evalO_bool, Tr.get_set, oval_eq, cx_move, cx_assign, cx_pick, xpick_true, cx_load, cx_bin, cx_fieldAddr, cx_indexAddr, loadAt_some, loadIn_cells, xfieldAddr_some, xfa_some, xindexAddr_some, natOf_nat, xidx_sl, cbin_lss, takeN, resAll, resOne, tupV1, Outs_ret, OutR_some, List.head?_cons, Nat.add_zero, List.getElem?_cons_zero, List.getElem?_cons_succ, Option.map_some, cond_true, cond_false, Bool.not_false, decide_true, decide_false, if_true, if_false, Nat.reduceEqDiff]
        exact ⟨trivial, by rw [fitS_bad hpm (fun h => by have := h.1; omega)], kH⟩
      · by_cases h2 : p.2 > 1114111
        · simp (config := { maxSteps := 1000000 }) (disch := first | omega | ((repeat (first | rw [n_new] | rw [n_put])) <;> omega) | fail) only [tt22, tt62, tt3, h0, h3, hg2, hdr, hdr1, decide_eq_false h1, decide_eq_true h2, G_nil, G_seq, G_cond, GIf_true, G_ret, G_region, G_codeR, G_lpR, G_blkR, G_onil, G_op, GG_true, GG_false, GX_val, GP_some, put_lt, wantedG_none, wantedG_some, wG_some, isB_bool, List.getElem?_toArray, eq_self, Nat.zero_add, tget_set, nbeq, evalO_tmp, evalO_int, evalO_bool, Tr.get_set, oval_eq, cx_move, cx_assign, cx_pick, xpick_true, xpick_false, cx_load, cx_bin, cx_fieldAddr, cx_indexAddr, loadAt_some, loadIn_cells, xfieldAddr_some, xfa_some, xindexAddr_some, natOf_nat, xidx_sl, cbin_lss, cbin_gtr, takeN, resAll, resOne, tupV1, Outs_ret, OutR_some, List.head?_cons, Nat.add_zero, List.getElem?_cons_zero, List.getElem?_cons_succ, Option.map_some, cond_true, cond_false, Bool.not_false, decide_true, decide_false, if_true, if_false, Nat.reduceEqDiff]
          exact ⟨trivial, by rw [fitS_bad hpm (fun h => by have := h.2.2; omega)], kH⟩
        · by_cases h4 : p.1 > p.2
          · simp (config := { maxSteps := 1000000 }) (disch := first | omega | ((repeat (first | rw [n_new] | rw [n_put])) <;> omega) | fail) only [tt22, tt62, tt3, h0, h3, hg2, hdr, hdr1, decide_eq_false h1, decide_eq_false h2, decide_eq_true h4, G_nil, G_seq, G_cond, GIf_true, G_ret, G_region, G_codeR, G_lpR, G_blkR, G_onil, G_op, GG_true, GX_val, GP_some, put_lt, wantedG_none, wantedG_some, wG_some, isB_bool, List.getElem?_toArray, eq_self, Nat.zero_add, tget_set, nbeq, evalO_tmp, evalO_int, evalO_bool, Tr.get_set, oval_eq, cx_move, cx_assign, cx_pick, xpick_false, cx_load, cx_bin, cx_fieldAddr, cx_indexAddr, loadAt_some, loadIn_cells, xfieldAddr_some, xfa_some, xindexAddr_some, natOf_nat, xidx_sl, cbin_lss, cbin_gtr, takeN, resAll, resOne, tupV1, Outs_ret, OutR_some, List.head?_cons, Nat.add_zero, List.getElem?_cons_zero, List.getElem?_cons_succ, Option.map_some, cond_true, cond_false, Bool.not_false, decide_true, decide_false, if_true, if_false, Nat.reduceEqDiff]
            exact ⟨trivial, by rw [fitS_bad hpm (fun h => by have := h.2.1; omega)], kH⟩
          · simp (config := { maxSteps := 1000000 }) (disch := first | omega | ((repeat (first | rw [n_new] | rw [n_put])) <;> omega) | fail) only [tt22, tt62, tt3, h0, h3, hg2, hdr, hdr1, decide_eq_false h1, decide_eq_false h2, decide_eq_false h4, G_skip, G_cond, GIf_false, G_again, G_region, G_blkN, G_onil, G_op, GG_true, GX_val, GP_some, put_lt, wantedG_none, wantedG_some, wG_some, isB_bool, List.getElem?_toArray, eq_self, Nat.zero_add, tget_set, nbeq, evalO_tmp, evalO_int, evalO_bool, Tr.get_set, oval_eq, cx_move, cx_assign, cx_pick, xpick_false, cx_load, cx_bin, cx_fieldAddr, cx_indexAddr, loadAt_some, loadIn_cells, xfieldAddr_some, xfa_some, xindexAddr_some, natOf_nat, xidx_sl, cbin_add, cbin_lss, cbin_gtr, wrap_nat_add1, takeN, List.head?_cons, Nat.add_zero, List.getElem?_cons_zero, List.getElem?_cons_succ, Option.map_some, cond_true, cond_false, Bool.not_false, decide_true, decide_false, if_true, if_false, Nat.reduceEqDiff]
            refine ih2 (k - 1) _ (by omega) ⟨_, _, i + 1, rfl, by omega, ?_, ?_, ?_, kH⟩
            · simp (config := { maxSteps := 1000000 }) (disch := first | omega | ((repeat (first | rw [n_new] | rw [n_put])) <;> omega) | fail) only [h0, eq_self, tget_set, if_false, Nat.reduceEqDiff]
            · simp (config := { maxSteps := 1000000 }) (disch := first | omega | ((repeat (first | rw [n_new] | rw [n_put])) <;> omega) | fail) only [h3, eq_self, tget_set, if_true, if_false, Nat.reduceEqDiff]
            · intro q hq
              rw [List.take_add_one, hp] at hq
              rcases List.mem_append.1 hq with hq | hq
              · exact hva q hq
              · rw [Option.toList_some, List.mem_singleton] at hq
                subst hq
                exact ⟨by omega, by omega, by omega⟩
    · rw [List.take_of_length_le (by omega)] at hva
      by_cases h0' : ((l.length : Nat) : Int) > 0
      · simp (config := { maxSteps := 1000000 }) (disch := first | omega | ((repeat (first | rw [n_new] | rw [n_put])) <;> omega) | fail) only [tt22, h0, h3, decide_eq_false hi, decide_eq_true h0', ft66, cc66, G_seq, G_cond, GIf_false, G_exit, G_region, G_codeE, G_lpE, G_blkE, G_onil, G_op, GG_true, GX_val, GX_enter, GP_some, put_lt, wantedG_none, wantedG_some, wG_some, isB_bool, List.getElem?_toArray, eq_self, tget_set, nbeq, evalO_tmp, evalO_int, evalO_func, Tr.get_set, oval_eq, cx_move, cx_bin, cx_call, cx_builtin, xcallv_func, cbin_lss, cbin_gtr, bi_len, tyAt0, xlen_sl, List.map_cons, List.map_nil, List.append_nil, List.nil_append, List.getElem?_cons_zero, List.getElem?_cons_succ, cond_true, Bool.not_true, decide_true, if_true, if_false, Nat.reduceEqDiff]
        refine GCall.of (has_norm66 hn66 (hv.mono kH) hva hlen) ?_
        rintro v3 H3 ⟨⟨s, hps, hls, hst⟩, k3⟩
        simp (config := { maxSteps := 1000000 }) (disch := first | omega | ((repeat (first | rw [n_new] | rw [n_put])) <;> omega) | fail) only [ft32, cc32, G_op, GG_true, GX_enter, GP_some, put_lt, wantedG_some, wG_some, isB_bool, List.getElem?_toArray, eq_self, tget_set, evalO_tmp, evalO_func, Tr.get_set, cx_call, xcallv_func, List.map_cons, List.map_nil, List.append_nil, List.nil_append, List.getElem?_cons_zero, List.getElem?_cons_succ, cond_true, Bool.not_true, if_true, if_false, Nat.reduceEqDiff]
        refine GCall.of (has_same32 hn32 ((hv.mono kH).mono k3) hst) ?_
        rintro v4 H4 ⟨rfl, k4⟩
        simp (config := { maxSteps := 1000000 }) (disch := first | omega | ((repeat (first | rw [n_new] | rw [n_put])) <;> omega) | fail) only [G_nil, G_ret, G_onil, G_op, GG_true, GX_val, GP_some, put_lt, wantedG_none, eq_self, tget_set, evalO_tmp, evalO_bool, cx_assign, cx_pick, xpick_true, resAll, resOne, tupV1, Outs_ret, OutR_some, if_true, if_false, Nat.reduceEqDiff]
        refine ⟨trivial, ?_, (kH.trans k3).trans k4⟩
        rw [fitS_eq (fun e => by rw [e] at h0'; simp at h0') hva hps hls]
      · simp (config := { maxSteps := 1000000 }) (disch := first | omega | ((repeat (first | rw [n_new] | rw [n_put])) <;> omega) | fail) only [tt22, h0, h3, decide_eq_false hi, decide_eq_false h0', G_nil, G_seq, G_cond, GIf_false, G_exit, G_ret, G_region, G_codeE, G_lpE, G_blkE, G_onil, G_op, GG_true, GG_false, GX_val, GP_some, put_lt, wantedG_none, wantedG_some, wG_some, isB_bool, List.getElem?_toArray, eq_self, tget_set, nbeq, evalO_tmp, evalO_int, evalO_bool, Tr.get_set, oval_eq, cx_move, cx_assign, cx_pick, xpick_false, cx_bin, cx_builtin, cbin_lss, cbin_gtr, bi_len, tyAt0, xlen_sl, resAll, resOne, tupV1, Outs_ret, OutR_some, List.map_cons, List.map_nil, List.getElem?_cons_zero, List.getElem?_cons_succ, cond_true, cond_false, Bool.not_true, decide_true, if_true, if_false, Nat.reduceEqDiff]
        refine ⟨trivial, ?_, kH⟩
        have : l = [] := List.eq_nil_of_length_eq_zero (by omega)
        rw [this]; rfl
  · refine ⟨_, _, 0, rfl, rfl, ?_, ?_, fun p hp => by simp at hp, Keep.refl _⟩
    · simp (config := { maxSteps := 1000000 }) (disch := first | omega | ((repeat (first | rw [n_new] | rw [n_put])) <;> omega) | fail) only [eq_self, tget_set, tget_of1, List.getElem?_cons_zero, if_false, Nat.reduceEqDiff]
    · simp (config := { maxSteps := 1000000 }) (disch := first | omega | ((repeat (first | rw [n_new] | rw [n_put])) <;> omega) | fail) only [cast_lit, eq_self, tget_set, tget_of1, List.getElem?_cons_succ, if_true, if_false, Nat.reduceEqDiff]
end
end Go.Proofs
