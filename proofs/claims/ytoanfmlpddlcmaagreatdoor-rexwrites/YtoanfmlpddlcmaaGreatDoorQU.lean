/- The text of a set, by the program and by the reference, walked (no statement of the program is proved here). -/
import Derived.Test.YtoanfmlpddlcmaaGreatDoorQT
namespace Go.Proofs
open Go Go.PE
noncomputable section
variable {ans : Tr (List Value → Option Value)} {eff : Tr (List Value → Hp → Option (Value × Hp))}
def shownI (z : Int) : List UInt8 := shownB z.toNat
theorem shownI_len (z : Int) : (shownI z).length ≤ 5 := shownB_len _
def letterI (z : Int) : Prop := 0 ≤ z ∧ letterP z.toNat
theorem okp_letter {p : Int × Int} (h : okp p) : letterI p.1 ∧ letterI p.2 := by
  obtain ⟨h1, h2, h3, h4⟩ := h
  refine ⟨⟨by omega, by omega, ?_⟩, ⟨by omega, by omega, ?_⟩⟩ <;> omega
theorem has_show50 (N : NoText ans eff) {H : Hp} {z : Int} (hz : letterI z) : Has (tE ans eff) 50 [.int .i64 z] H fun r H' => r = .string (bs (shownI z)) ∧ Keep H H' := by
  have := has_shown50 N (H := H) hz.2
  rw [show ((z.toNat : Nat) : Int) = z from Int.toNat_of_nonneg hz.1] at this
  exact this
theorem has_show36 (N : NoText ans eff) {H : Hp} {z : Int} (hz : letterI z) : Has (tE ans eff) 36 [.int .i64 z] H fun r H' => r = .string (bs (shownI z)) ∧ Keep H H' := by
  have := has_shown36 N (H := H) hz.2
  rw [show ((z.toNat : Nat) : Int) = z from Int.toNat_of_nonneg hz.1] at this
  exact this
def rangeB (p : Int × Int) : List UInt8 := shownI p.1 ++ if p.1 < p.2 then 45 :: shownI p.2 else []
theorem rangeB_len (p : Int × Int) : (rangeB p).length ≤ 11 := by
  have h1 := shownI_len p.1
  have h2 := shownI_len p.2
  unfold rangeB
  rw [List.length_append]
  split <;> simp <;> omega
def printSet : List (Int × Int) → List UInt8
  | [p] => if p.1 = p.2 then shownI p.1 else 91 :: (rangeB p ++ [93])
  | l => 91 :: (l.flatMap rangeB ++ [93])
theorem printSet_ne {p : Int × Int} {r : List (Int × Int)} (h : ¬ (r = [] ∧ p.1 = p.2)) : printSet (p :: r) = 91 :: ((p :: r).flatMap rangeB ++ [93]) := by
  cases r with
  | nil =>
    have : ¬ p.1 = p.2 := fun e => h ⟨rfl, e⟩
    rw [printSet, if_neg this]; simp
  | cons q r => rw [printSet]; simp
theorem flat_len : ∀ (l : List (Int × Int)), (l.flatMap rangeB).length ≤ 11 * l.length
  | [] => by simp
  | p :: l => by
    have := flat_len l
    have h := rangeB_len p
    simp only [List.flatMap_cons, List.length_append, List.length_cons] at *
    omega
theorem printSet_len {l : List (Int × Int)} (h : l ≠ []) : (printSet l).length ≤ 2 + 11 * l.length := by
  match l, h with
  | p :: r, _ =>
    by_cases hs : r = [] ∧ p.1 = p.2
    · obtain ⟨rfl, e⟩ := hs
      have := shownI_len p.1
      rw [printSet, if_pos e]; simp; omega
    · have := flat_len (p :: r)
      rw [printSet_ne hs, List.length_cons, List.length_append, List.length_singleton]; omega
theorem limN_eq : limN = 16777216 := rfl
set_option maxRecDepth 100000 in
set_option maxHeartbeats 16000000 in
theorem has_printSet34 (N : NoText ans eff) {H : Hp} {v : Value} {l : List (Int × Int)} (hv : StA H v l) (h0 : l ≠ []) (hok : ∀ p ∈ l, okp p) (hlen : l.length ≤ 100000) :
    Has (tE ans eff) 34 [v] H fun r H' => r = .string (bs (printSet l)) ∧ Keep H H' := by
  obtain ⟨a, c, rfl, hl, _⟩ := id hv
  refine Has.of N.n34 ft34 rfl (Nat.le_of_ble_eq_true rfl) ?_
  have hpos : 0 < l.length := List.length_pos_iff.2 h0
  obtain ⟨p, hp, hpd⟩ := drop_at (l := l) (i := 0) hpos
  obtain ⟨b, cs, ty, es, fl, r', rfl, hb, hg, hdr⟩ := hv.elem (i := 0) hp
  simp only [Nat.zero_mul, List.drop_zero] at hdr hpd
  subst hdr
  have hlim := limN_eq
  have hpo := okp_letter (hok p (List.mem_of_getElem? hp))
  simp (config := { maxSteps := 1000000 }) (disch := first | omega | ((repeat (first | rw [n_new] | rw [n_put])) <;> omega) | fail) only [Tryz.f34, G_seq, G_region, G_onil, G_op, GG_true, GX_val, GP_some, put_lt, wantedG_none, Nat.zero_add, evalO_str, cx_assign, List.toList_toArray, List.length_cons, List.length_nil]
  rw [G_draw (by kernel_rfl)]
  by_cases hs : ((l.length : Nat) : Int) = 1 ∧ p.1 = p.2
  · obtain ⟨h1, e⟩ := hs
    have hl1 : l = [p] := by
      have : l.drop (0 + 1) = [] := List.drop_eq_nil_of_le (by omega)
      rw [this] at hpd; exact hpd
    simp (config := { maxSteps := 1000000 }) (disch := first | assumption | omega | ((repeat (first | rw [n_new] | rw [n_put])) <;> omega) | fail) only [tt22, tt62, tt3, hg, decide_eq_true h1, decide_eq_true e, ft50, cc50, G_seq, G_cond, GIf_true, G_region, G_onil, G_op, GG_true, GX_val, GX_enter, GP_some, put_lt, wantedG_none, wantedG_some, wG_some, isB_bool, List.getElem?_toArray, eq_self, Nat.zero_add, tget_set, tget_of1, nbeq, evalO_tmp, evalO_int, evalO_bool, evalO_func, Tr.get_set, oval_eq, cx_move, cx_pick, xpick_true, cx_load, cx_bin, cx_fieldAddr, cx_indexAddr, cx_call, cx_builtin, xcallv_func, loadAt_some, loadIn_cells, xfieldAddr_some, xfa_some, xindexAddr_some, natOf_lit, xidx_sl, cbin_eql, bi_len, tyAt0, xlen_sl, takeN, List.map_cons, List.map_nil, List.append_nil, List.nil_append, List.drop_zero, List.drop_succ_cons, List.head?_cons, Nat.add_zero, List.getElem?_cons_zero, List.getElem?_cons_succ, Option.map_some, cond_true, cond_false, Bool.not_true, decide_true, decide_false, if_true, if_false, Nat.reduceEqDiff, Nat.reduceMul]
    refine GCall.of (has_show50 N hpo.1) ?_
    rintro v H2 ⟨rfl, k2⟩
    simp (config := { maxSteps := 1000000 }) (disch := first | assumption | omega | ((repeat (first | rw [n_new] | rw [n_put])) <;> omega) | fail) only [G_nil, G_ret, G_codeR, G_onil, G_op, GG_true, GX_val, GP_some, put_lt, wantedG_none, eq_self, tget_set, tget_of1, evalO_tmp, cx_assign, resAll, resOne, tupV1, Outs_ret, OutR_some, List.getElem?_cons_succ, if_true, if_false, Nat.reduceEqDiff]
    exact ⟨trivial, by rw [hl1, printSet, if_pos e], k2⟩
  · have hps : printSet l = 91 :: (l.flatMap rangeB ++ [93]) := by
      rw [hpd]
      refine printSet_ne fun ⟨h1, h2⟩ => hs ⟨?_, h2⟩
      rw [hpd, h1]; rfl
    rw [hps]
    have hne : ((l.length : Nat) : Int) = 1 → ¬ p.1 = p.2 := fun h1 h2 => hs ⟨h1, h2⟩
    by_cases hr : ((l.length : Nat) : Int) = 1
    all_goals
      first
        | simp (config := { maxSteps := 1000000 }) (disch := first | assumption | omega | ((repeat (first | rw [n_new] | rw [n_put])) <;> omega) | fail) only [tt22, tt62, tt3, hg, decide_eq_true hr, decide_eq_false (hne hr), bsLit, G_skip, G_seq, G_cond, GIf_false, G_block, G_region, G_onil, G_op, GG_true, GX_val, GP_some, put_lt, wantedG_none, wantedG_some, wG_some, isB_bool, List.getElem?_toArray, eq_self, Nat.zero_add, tget_set, tget_of1, nbeq, evalO_tmp, evalO_int, evalO_bool, evalO_str, Tr.get_set, oval_eq, cx_move, cx_assign, cx_pick, xpick_true, cx_load, cx_bin, cx_fieldAddr, cx_indexAddr, cx_builtin, loadAt_some, loadIn_cells, xfieldAddr_some, xfa_some, xindexAddr_some, natOf_lit, xidx_sl, cbin_eql, bi_len, tyAt0, xlen_sl, takeN, List.map_cons, List.map_nil, List.drop_zero, List.drop_succ_cons, List.head?_cons, Nat.add_zero, List.getElem?_cons_zero, List.getElem?_cons_succ, Option.map_some, cond_true, cond_false, Bool.not_true, decide_true, decide_false, if_true, if_false, Nat.reduceEqDiff, Nat.reduceMul]
        | simp (config := { maxSteps := 1000000 }) (disch := first | assumption | omega | ((repeat (first | rw [n_new] | rw [n_put])) <;> omega) | fail) only [tt22, decide_eq_false hr, bsLit, G_skip, G_seq, G_cond, GIf_false, G_block, G_region, G_onil, G_op, GG_true, GG_false, GX_val, GP_some, put_lt, wantedG_none, wantedG_some, wG_some, isB_bool, List.getElem?_toArray, eq_self, tget_set, tget_of1, nbeq, evalO_tmp, evalO_int, evalO_bool, evalO_str, Tr.get_set, oval_eq, cx_move, cx_assign, cx_pick, xpick_false, cx_bin, cx_builtin, cbin_eql, bi_len, tyAt0, xlen_sl, List.map_cons, List.map_nil, List.getElem?_cons_zero, List.getElem?_cons_succ, cond_true, cond_false, Bool.not_true, decide_true, if_true, if_false, Nat.reduceEqDiff]
      refine G_loop_ind (fun k s => ∃ tm H2 i acc, s = ⟨tm, [], H2⟩ ∧ k + i = l.length ∧ tget tm 25 = .slice (some ⟨b, 0, none⟩) l.length c ∧ tget tm 26 = .int .i64 ((l.length : Nat) : Int) ∧ tget tm 27 = .int .i64 ((i : Nat) : Int) ∧ tget tm 3 = .string (bs acc) ∧ Keep H H2 ∧ acc.length ≤ 1 + 11 * i ∧ acc ++ (l.drop i).flatMap rangeB = 91 :: l.flatMap rangeB) ?_ l.length _ ?_
      · rintro k ih2 s ⟨tm, H2, i, acc, rfl, hk, h25, h26, h27, h3, kH, hal, hac⟩
        by_cases hi : (i : Int) < (l.length : Int)
        · obtain ⟨q, hq, hqd⟩ := drop_at (l := l) (i := i) (by omega)
          obtain ⟨b', cs', ty', es', fl', r'', e', hb', hg', hdr'⟩ := hv.elem hq
          cases e'
          have hg2 : H2.get b = some (.cells cs' ty' es' fl') := by rw [kH.get hb']; exact hg'
          have hqo := okp_letter (hok q (List.mem_of_getElem? hq))
          have hl1 := shownI_len q.1
          have hl2 := shownI_len q.2
          have hrl := rangeB_len q
          have b1 : acc.length + (shownI q.1).length ≤ limN := by omega
          have b2 : [45].length + (shownI q.2).length ≤ limN := by simp; omega
          have b3 : (acc ++ shownI q.1).length + ([45] ++ shownI q.2).length ≤ limN := by simp; omega
          have hnx : (l.drop i).flatMap rangeB = rangeB q ++ (l.drop (i + 1)).flatMap rangeB := by rw [hqd]; simp
          simp (config := { maxSteps := 1000000 }) (disch := first | assumption | omega | ((repeat (first | rw [n_new] | rw [n_put])) <;> omega) | fail) only [tt22, tt62, tt3, h25, h26, h27, hg2, hdr', decide_eq_true hi, ft50, cc50, G_skip, G_seq, G_cond, GIf_true, G_block, G_region, G_onil, G_op, GG_true, GX_val, GX_skip, GX_enter, GP_some, put_lt, put_none, wantedG_none, eq_self, Nat.zero_add, tget_set, nbeq, nble, evalO_tmp, evalO_func, oval_eq, oskip_some, xnew_eq, get_put_eq, get_new_eq, cx_move, cx_alloc, cx_load, cx_store, cx_bin, cx_fieldAddr, cx_indexAddr, cx_call, xcallv_func, xalloc_some, loadAt_some, loadIn_cells, storeAt_some, storeIn_cells, xfieldAddr_some, xfa_some, xindexAddr_some, natOf_nat, xidx_sl, cbin_lss, isJunk, oneC, splice, takeN, Value.cells, List.toList_toArray, List.map_cons, List.map_nil, List.all_cons, List.all_nil, List.length_cons, List.length_nil, List.append_nil, List.nil_append, List.drop_zero, List.head?_cons, Nat.add_zero, List.getElem?_cons_zero, Option.map_some, cond_true, cond_false, Bool.and_true, decide_true, decide_false, if_true, if_false, Nat.reduceAdd, Nat.reduceEqDiff, Nat.reduceLeDiff]
          refine GCall.of (has_show50 N hqo.1) ?_
          rintro v H3 ⟨rfl, k3⟩
          have k23 : Keep H2 H3 := Keep.trans (by repeat (first | assumption | exact Keep.refl _ | refine Keep.new ?_ _ | refine Keep.put ?_ _ (by first | omega | (simp only [n_new, n_put] <;> omega)))) k3
          have g3 : H3.get H2.n = some (.cells [.int .i64 q.1, .int .i64 q.2] 62 none 0) := (k3.get (by simp only [n_put, n_new]; omega)).trans (get_put_eq rfl)
          by_cases hlt : q.1 < q.2
          · simp (config := { maxSteps := 1000000 }) (disch := first | assumption | omega | ((repeat (first | rw [n_new] | rw [n_put])) <;> omega) | fail) only [tt62, tt3, h3, g3, decide_eq_true hlt, cbin_sadd, ft50, cc50, G_seq, G_cond, GIf_true, G_region, G_onil, G_op, GG_true, GX_val, GX_enter, GP_some, put_lt, wantedG_none, eq_self, Nat.zero_add, tget_set, nbeq, evalO_tmp, evalO_func, oval_eq, cx_move, cx_assign, cx_load, cx_bin, cx_fieldAddr, cx_call, xcallv_func, loadAt_some, loadIn_cells, xfieldAddr_some, xfa_some, cbin_lss, cbin_sadd, takeN, List.map_cons, List.map_nil, List.append_nil, List.nil_append, List.drop_zero, List.drop_succ_cons, List.head?_cons, Nat.add_zero, List.getElem?_cons_zero, List.getElem?_cons_succ, Option.map_some, cond_true, cond_false, decide_true, decide_false, if_true, if_false, Nat.reduceEqDiff]
            refine GCall.of (has_show50 N hqo.2) ?_
            rintro v H4 ⟨rfl, k4⟩
            rw [rangeB, if_pos hlt] at hnx hrl
            simp (config := { maxSteps := 1000000 }) (disch := first | assumption | omega | ((repeat (first | rw [n_new] | rw [n_put])) <;> omega) | fail) only [h27, cbin_sadd, G_again, G_region, G_blkN, G_onil, G_op, GG_true, GX_val, GP_some, put_lt, wantedG_none, eq_self, tget_set, evalO_tmp, evalO_int, evalO_str, oval_eq, cx_move, cx_assign, cx_bin, cbin_add, cbin_sadd, wrap_nat_add1, if_true, if_false, Nat.reduceEqDiff]
            refine ih2 (k - 1) _ (by omega) ⟨_, H4, i + 1, (acc ++ shownI q.1) ++ ([45] ++ shownI q.2), rfl, by omega, ?_, ?_, ?_, ?_, (kH.trans k23).trans k4, ?_, ?_⟩
            · simp (config := { maxSteps := 1000000 }) (disch := first | omega | ((repeat (first | rw [n_new] | rw [n_put])) <;> omega) | fail) only [h25, eq_self, tget_set, List.nil_append, List.cons_append, if_false, Nat.reduceEqDiff]
            · simp (config := { maxSteps := 1000000 }) (disch := first | omega | ((repeat (first | rw [n_new] | rw [n_put])) <;> omega) | fail) only [h26, eq_self, tget_set, List.nil_append, List.cons_append, if_false, Nat.reduceEqDiff]
            · simp (config := { maxSteps := 1000000 }) (disch := first | omega | ((repeat (first | rw [n_new] | rw [n_put])) <;> omega) | fail) only [h27, eq_self, tget_set, List.nil_append, List.cons_append, if_true, if_false, Nat.reduceEqDiff]
            · simp (config := { maxSteps := 1000000 }) (disch := first | omega | ((repeat (first | rw [n_new] | rw [n_put])) <;> omega) | fail) only [eq_self, tget_set, if_true, if_false, Nat.reduceEqDiff]
            · simp only [List.length_append, List.length_cons, List.length_nil] at *; omega
            · rw [← hac, hnx]; simp
          · simp (config := { maxSteps := 1000000 }) (disch := first | assumption | omega | ((repeat (first | rw [n_new] | rw [n_put])) <;> omega) | fail) only [tt62, tt3, h27, h3, g3, decide_eq_false hlt, cbin_sadd, G_skip, G_seq, G_cond, GIf_false, G_again, G_region, G_blkN, G_onil, G_op, GG_true, GX_val, GP_some, put_lt, wantedG_none, eq_self, Nat.zero_add, tget_set, nbeq, evalO_tmp, evalO_int, oval_eq, cx_move, cx_assign, cx_load, cx_bin, cx_fieldAddr, loadAt_some, loadIn_cells, xfieldAddr_some, xfa_some, cbin_add, cbin_lss, cbin_sadd, wrap_nat_add1, takeN, List.drop_zero, List.drop_succ_cons, List.head?_cons, Nat.add_zero, List.getElem?_cons_zero, List.getElem?_cons_succ, Option.map_some, cond_true, cond_false, decide_true, decide_false, if_true, if_false, Nat.reduceEqDiff]
            rw [rangeB, if_neg hlt, List.append_nil] at hnx hrl
            refine ih2 (k - 1) _ (by omega) ⟨_, H3, i + 1, acc ++ shownI q.1, rfl, by omega, ?_, ?_, ?_, ?_, kH.trans k23, ?_, ?_⟩
            · simp (config := { maxSteps := 1000000 }) (disch := first | omega | ((repeat (first | rw [n_new] | rw [n_put])) <;> omega) | fail) only [h25, eq_self, tget_set, if_false, Nat.reduceEqDiff]
            · simp (config := { maxSteps := 1000000 }) (disch := first | omega | ((repeat (first | rw [n_new] | rw [n_put])) <;> omega) | fail) only [h26, eq_self, tget_set, if_false, Nat.reduceEqDiff]
            · simp (config := { maxSteps := 1000000 }) (disch := first | omega | ((repeat (first | rw [n_new] | rw [n_put])) <;> omega) | fail) only [h27, eq_self, tget_set, if_true, if_false, Nat.reduceEqDiff]
            · simp (config := { maxSteps := 1000000 }) (disch := first | omega | ((repeat (first | rw [n_new] | rw [n_put])) <;> omega) | fail) only [eq_self, tget_set, if_true, if_false, Nat.reduceEqDiff]
            · simp only [List.length_append] at *; omega
            · rw [← hac, hnx]; simp
        · have b1 : acc.length + [93].length ≤ limN := by simp; omega
          simp (config := { maxSteps := 1000000 }) (disch := first | assumption | omega | ((repeat (first | rw [n_new] | rw [n_put])) <;> omega) | fail) only [h26, h27, h3, decide_eq_false hi, cbin_sadd, G_nil, G_seq, G_cond, GIf_false, G_exit, G_ret, G_region, G_codeE, G_lpE, G_blkE, G_onil, G_op, GG_true, GX_val, GP_some, put_lt, wantedG_none, eq_self, tget_set, evalO_tmp, evalO_str, oval_eq, cx_move, cx_assign, cx_bin, cbin_lss, cbin_sadd, resAll, resOne, tupV1, Outs_ret, OutR_some, if_true, if_false, Nat.reduceEqDiff]
          refine ⟨trivial, ?_, kH⟩
          rw [List.drop_eq_nil_of_le (by omega)] at hac
          simp only [List.flatMap_nil, List.append_nil] at hac
          rw [hac]; rfl
      · refine ⟨_, _, 0, [91], rfl, rfl, ?_, ?_, ?_, ?_, Keep.refl _, by simp, by simp⟩
        all_goals (simp (config := { maxSteps := 1000000 }) (disch := first | omega | ((repeat (first | rw [n_new] | rw [n_put])) <;> omega) | fail) only [cast_lit, eq_self, tget_set, tget_of1, List.getElem?_cons_succ, if_true, if_false, Nat.reduceEqDiff]; done)
end
end Go.Proofs
