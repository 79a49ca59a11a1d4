/- The reference's measures of an expression, walked (no statement of the program is proved here). -/
import Derived.Test.YtoanfmlpddlcmaaGreatDoorQA
namespace Go.Proofs
open Go Go.PE
noncomputable section
def RexL.drop : Nat → RexL → RexL
  | 0, l => l
  | _ + 1, .nil => .nil
  | n + 1, .cons _ l => l.drop n
theorem RexL.drop_succ : ∀ {i : Nat} {l : RexL} {x : RexT} {r : RexL}, l.drop i = .cons x r → l.drop (i + 1) = r
  | 0, .cons _ _, _, _, h => by cases h; rfl
  | 0, .nil, _, _, h => by cases h
  | n + 1, .nil, _, _, h => by cases h
  | n + 1, .cons _ l, _, _, h => RexL.drop_succ (i := n) (l := l) h
mutual
theorem RexT.indT (PT : RexT → Prop) (h : ∀ op set subs, (∀ i x r, RexL.drop i subs = .cons x r → PT x) → PT (.node op set subs)) : ∀ t, PT t
  | .node op set subs => h op set subs (RexT.indL PT h subs)
theorem RexT.indL (PT : RexT → Prop) (h : ∀ op set subs, (∀ i x r, RexL.drop i subs = .cons x r → PT x) → PT (.node op set subs)) : ∀ (l : RexL) (i : Nat) (x : RexT) (r : RexL), RexL.drop i l = .cons x r → PT x
  | .nil, 0, _, _, e => by cases e
  | .nil, _ + 1, _, _, e => by cases e
  | .cons y l, 0, x, r, e => by
    cases e; exact RexT.indT PT h y
  | .cons y l, n + 1, x, r, e => RexT.indL PT h l n x r e
end
theorem RXL.len {H : Hp} : ∀ {l : RexL} {els : List (List Value)}, RXL H l els → els.length = l.len
  | .nil, els, h => by unfold RXL at h; rw [h]; rfl
  | .cons x l, els, h => by
    unfold RXL at h
    obtain ⟨e, r, rfl, _, h2⟩ := h
    rw [List.length_cons, RXL.len h2]; rfl
theorem RXL.at {H : Hp} : ∀ {l : RexL} {els : List (List Value)} {i : Nat}, RXL H l els → i < els.length → ∃ x e, l.drop i = .cons x (l.drop (i + 1)) ∧ els[i]? = some e ∧ RX H x e
  | .nil, els, i, h, hi => by unfold RXL at h; rw [h] at hi; simp at hi
  | .cons x l, els, 0, h, hi => by
    unfold RXL at h
    obtain ⟨e, r, rfl, h1, h2⟩ := h
    exact ⟨x, e, rfl, rfl, h1⟩
  | .cons x l, els, i + 1, h, hi => by
    unfold RXL at h
    obtain ⟨e, r, rfl, h1, h2⟩ := h
    obtain ⟨x', e', h3, h4, h5⟩ := RXL.at (i := i) h2 (by simpa using hi)
    exact ⟨x', e', h3, by simpa using h4, h5⟩
theorem RexL.drop_len : ∀ {l : RexL} {i : Nat}, l.len ≤ i → l.drop i = .nil
  | .nil, 0, _ => rfl
  | .nil, _ + 1, _ => rfl
  | .cons x l, 0, h => by simp [RexL.len] at h
  | .cons x l, i + 1, h => RexL.drop_len (l := l) (i := i) (by simp [RexL.len] at h; exact h)
theorem flat_drop {k : Nat} : ∀ {els : List (List Value)} {i : Nat} {e : List Value}, (∀ e ∈ els, e.length = k) → els[i]? = some e → ∃ r, els.flatten.drop (i * k) = e ++ r
  | [], i, e, _, h => by simp at h
  | a :: els, 0, e, _, h => by
    simp only [List.getElem?_cons_zero, Option.some.injEq] at h
    subst h
    exact ⟨els.flatten, by simp⟩
  | a :: els, i + 1, e, hk, h => by
    obtain ⟨r, hr⟩ := flat_drop (k := k) (els := els) (i := i) (e := e) (fun e he => hk e (by simp [he])) (by simpa using h)
    refine ⟨r, ?_⟩
    have ha := hk a (by simp)
    rw [List.flatten_cons, Nat.succ_mul, Nat.add_comm, ← List.drop_drop, ← ha, List.drop_left, ha]; exact hr
/-- the parts of an expression, as a walk meets them: what the length of the slice is, and what an element holds -/
theorem _root_.Go.PE.SlAt.len {H : Hp} {k : Nat} {v : Value} {els : List (List Value)} (h : SlAt k anyP H v els) : ∃ a, v = .slice a els.length els.length ∧ els.length ≤ 9223372036854775807 := by
  rcases h with ⟨rfl, rfl | ⟨b, off, rfl⟩⟩ | ⟨_, b, ty, rfl, _, _, h, _⟩
  · exact ⟨_, rfl, by decide⟩
  · exact ⟨_, rfl, by decide⟩
  · exact ⟨_, rfl, h⟩
theorem _root_.Go.PE.SlAt.elem {H : Hp} {k : Nat} {a : Option Addr} {n c : Nat} {els : List (List Value)} {i : Nat} {e : List Value} (h : SlAt k anyP H (.slice a n c) els) (hi : els[i]? = some e) : ∃ b ty l r, a = some ⟨b, 0, none⟩ ∧ b < H.n ∧ H.get b = some (.cells l ty (some k) 3) ∧ l.drop (i * k) = e ++ r ∧ e.length = k := by
  rcases h with ⟨rfl, _⟩ | ⟨_, b, ty, h1, h2, h3, h4, h5⟩
  · simp at hi
  · cases h1
    obtain ⟨r, hr⟩ := flat_drop (fun e he => (h5 e he).1) hi
    exact ⟨b, ty, _, r, rfl, h2, h3, hr, (h5 e (List.mem_of_getElem? hi)).1⟩
/-! ### small: what is left when an expression's parts are taken off -/
mutual
def smallT : RexT → Int → Int
  | .node _ set subs, left => smallL subs (left - 1 - set.length)
def smallL : RexL → Int → Int
  | .nil, left => left
  | .cons x l, left => if 0 ≤ left then smallL l (smallT x left) else left
end
mutual
theorem smallT_le : ∀ (t : RexT) (left : Int), smallT t left ≤ left - 1
  | .node op set subs, left => by
    have := smallL_le subs (left - 1 - set.length)
    unfold smallT; omega
theorem smallL_le : ∀ (l : RexL) (left : Int), smallL l left ≤ left
  | .nil, left => by unfold smallL; omega
  | .cons x l, left => by
    unfold smallL
    have h1 := smallT_le x left
    have h2 := smallL_le l (smallT x left)
    split <;> omega
end
variable {ans : Tr (List Value → Option Value)} {eff : Tr (List Value → Hp → Option (Value × Hp))}
set_option maxRecDepth 100000 in
set_option maxHeartbeats 8000000 in
theorem has_small (hn : (tE ans eff).ans.get 28 = none ∧ (tE ans eff).eff.get 28 = none) : ∀ (t : RexT) (H : Hp) (cs : List Value) (left : Int), RX H t cs → 0 ≤ left → left ≤ 100000 →
    Has (tE ans eff) 28 [.agg cs.toArray, .int .i64 left] H fun v H' => v = .int .i64 (smallT t left) ∧ -9223372036854775808 ≤ smallT t left ∧ Keep H H' := by
  refine RexT.indT _ fun op set subs ih => ?_
  intro H cs left hx h0 h1
  unfold RX at hx
  obtain ⟨sv, bv, els, rfl, hsv, hbv, hsub⟩ := hx
  obtain ⟨asv, rfl, hls⟩ := hsv.len
  obtain ⟨ab, rfl, hlb⟩ := hbv.len
  rw [List.length_map] at *
  refine Has.of hn ft28 rfl (Nat.le_of_ble_eq_true rfl) ?_
  have hw1 : IntKind.i64.wrap (left - 1) = left - 1 := wrap_ok (by omega) (by omega)
  have hw2 : IntKind.i64.wrap (left - 1 - (set.length : Int)) = left - 1 - (set.length : Int) := wrap_ok (by omega) (by omega)
  simp (config := { maxSteps := 1000000 }) (disch := first | omega | ((repeat (first | rw [n_new] | rw [n_put])) <;> omega) | fail) only [Tryz.f28, tt25, tt22, hw1, hw2, G_seq, G_block, G_region, G_onil, G_op, GG_true, GX_val, GP_some, put_lt, wantedG_none, eq_self, Int.reduceNeg, Nat.zero_add, tget_set, tget_of2, nbeq, evalO_tmp, evalO_int, oval_eq, xnew_eq, get_new_eq, cx_move, cx_assign, cx_box, cx_load, cx_bin, cx_fieldAddr, cx_builtin, loadAt_some, loadIn_cells, xfieldAddr_some, xfa_some, cbin_sub, bi_len, tyAt0, xlen_sl, isJunk, takeN, Value.cells, List.toList_toArray, List.map_cons, List.map_nil, List.length_cons, List.length_nil, List.drop_zero, List.drop_succ_cons, List.head?_cons, List.getElem?_cons_zero, List.getElem?_cons_succ, Option.map_some, cond_true, cond_false, decide_true, decide_false, if_true, if_false, Nat.reduceAdd, Nat.reduceEqDiff]
  have hbx : ∀ H', Keep (H.new (.cells [.int .i64 op, .slice asv set.length set.length, .slice ab els.length els.length] 25 none 0)) H' → H'.get H.n = some (.cells [.int .i64 op, .slice asv set.length set.length, .slice ab els.length els.length] 25 none 0) := fun H' k => (k.get (Nat.lt_succ_self _)).trans (get_new_eq rfl)
  have hst : smallT (.node op set subs) left = smallL subs (left - 1 - set.length) := by unfold smallT; rfl
  rw [hst]
  refine G_loop_ind (fun k s => ∃ tm H2 i lf, s = ⟨tm, [], H2⟩ ∧ k + i = els.length ∧ tget tm 2 = .pointer (some ⟨H.n, 0, none⟩) ∧ tget tm 1 = .int .i64 lf ∧ tget tm 5 = .int .i64 ((i : Nat) : Int) ∧ Keep (H.new (.cells [.int .i64 op, .slice asv set.length set.length, .slice ab els.length els.length] 25 none 0)) H2 ∧
    lf ≤ 100000 ∧ -9223372036854775808 ≤ lf ∧ smallL (subs.drop i) lf = smallL subs (left - 1 - set.length)) ?_ els.length _ ?_
  · rintro k ih2 s ⟨tm, H2, i, lf, rfl, hk, h2, h1', h5, k2, hlf, hlf2, hsm⟩
    have g2 := hbx H2 k2
    have kH : Keep H H2 := ((Keep.refl H).new _).trans k2
    by_cases hi : (i : Int) < (els.length : Int)
    · by_cases h0' : (0 : Int) ≤ lf
      · obtain ⟨x, e, hd, he, hxe⟩ := RXL.at hsub (i := i) (by omega)
        obtain ⟨b, ty, l, r, rfl, hb, hg, hdr, hl3⟩ := hbv.elem he
        have hg2 : H2.get b = some (.cells l ty (some 3) 3) := by rw [kH.get hb]; exact hg
        match e, hl3 with
        | [e0, e1, e2], _ =>
          have hdr' : l.drop (i * 3) = e0 :: e1 :: e2 :: r := hdr
          simp (config := { maxSteps := 1000000 }) (disch := first | omega | ((repeat (first | rw [n_new] | rw [n_put])) <;> omega) | fail) only [tt25, tt23, h2, h1', h5, g2, hg2, hdr', decide_eq_true hi, decide_eq_true h0', ft28, cc28, G_skip, G_seq, G_cond, GIf_true, G_block, G_region, G_onil, G_op, GG_true, GX_val, GX_enter, GP_some, put_lt, wantedG_none, wantedG_some, wG_some, isB_bool, List.getElem?_toArray, eq_self, Int.reduceNeg, Nat.zero_add, tget_set, nbeq, evalO_tmp, evalO_int, evalO_bool, evalO_func, Tr.get_set, oval_eq, cx_move, cx_pick, xpick_true, cx_load, cx_bin, cx_fieldAddr, cx_indexAddr, cx_call, cx_builtin, xcallv_func, loadAt_some, loadIn_cells, xfieldAddr_some, xfa_some, xindexAddr_some, natOf_nat, xidx_sl, cbin_lss, cbin_geq, bi_len, tyAt0, xlen_sl, takeN, List.map_cons, List.map_nil, List.append_nil, List.nil_append, List.drop_zero, List.drop_succ_cons, List.head?_cons, List.getElem?_cons_zero, List.getElem?_cons_succ, Option.map_some, cond_true, cond_false, Bool.not_true, decide_true, decide_false, if_true, if_false, Nat.reduceEqDiff]
          refine GCall.of (ih i x _ hd H2 [e0, e1, e2] lf (RX.mono kH _ _ hxe) h0' hlf) ?_
          rintro v H3 ⟨rfl, hge, k3⟩
          simp (config := { maxSteps := 1000000 }) (disch := first | omega | ((repeat (first | rw [n_new] | rw [n_put])) <;> omega) | fail) only [h5, G_again, G_region, G_blkN, G_onil, G_op, GG_true, GX_val, GP_some, put_lt, wantedG_none, eq_self, Int.reduceNeg, tget_set, evalO_tmp, evalO_int, oval_eq, cx_move, cx_assign, cx_bin, cbin_add, wrap_nat_add1, if_true, if_false, Nat.reduceEqDiff]
          have hle := smallT_le x lf
          refine ih2 (k - 1) _ (by omega) ⟨_, H3, i + 1, _, rfl, by omega, ?_, ?_, ?_, k2.trans k3, by omega, hge, ?_⟩
          · simp (config := { maxSteps := 1000000 }) (disch := first | omega | ((repeat (first | rw [n_new] | rw [n_put])) <;> omega) | fail) only [h2, eq_self, tget_set, if_false, Nat.reduceEqDiff]
          · simp (config := { maxSteps := 1000000 }) (disch := first | omega | ((repeat (first | rw [n_new] | rw [n_put])) <;> omega) | fail) only [eq_self, tget_set, if_true, if_false, Nat.reduceEqDiff]
          · simp (config := { maxSteps := 1000000 }) (disch := first | omega | ((repeat (first | rw [n_new] | rw [n_put])) <;> omega) | fail) only [h5, eq_self, tget_set, if_true, if_false, Nat.reduceEqDiff]
          · rw [← hsm, hd]; rw [smallL]; rw [if_pos h0']
      · obtain ⟨x, e, hd, he, hxe⟩ := RXL.at hsub (i := i) (by omega)
        simp (config := { maxSteps := 1000000 }) (disch := first | omega | ((repeat (first | rw [n_new] | rw [n_put])) <;> omega) | fail) only [tt25, tt23, h2, h1', h5, g2, decide_eq_true hi, decide_eq_false h0', G_nil, G_seq, G_cond, GIf_false, G_exit, G_ret, G_region, G_codeE, G_lpE, G_blkE, G_onil, G_op, GG_true, GX_val, GP_some, put_lt, wantedG_none, wantedG_some, wG_some, isB_bool, List.getElem?_toArray, eq_self, Int.reduceNeg, Nat.zero_add, tget_set, nbeq, evalO_tmp, evalO_int, evalO_bool, Tr.get_set, oval_eq, cx_move, cx_assign, cx_pick, xpick_true, cx_load, cx_bin, cx_fieldAddr, cx_builtin, loadAt_some, loadIn_cells, xfieldAddr_some, xfa_some, cbin_lss, cbin_geq, bi_len, tyAt0, xlen_sl, takeN, resAll, resOne, tupV1, Outs_ret, OutR_some, List.map_cons, List.map_nil, List.drop_zero, List.drop_succ_cons, List.head?_cons, List.getElem?_cons_zero, List.getElem?_cons_succ, Option.map_some, cond_true, cond_false, Bool.not_true, decide_true, decide_false, if_true, if_false, Nat.reduceEqDiff]
        have : smallL (subs.drop i) lf = lf := by rw [hd]; rw [smallL]; rw [if_neg h0']
        rw [← hsm, this]
        exact ⟨trivial, rfl, hlf2, kH⟩
    · simp (config := { maxSteps := 1000000 }) (disch := first | omega | ((repeat (first | rw [n_new] | rw [n_put])) <;> omega) | fail) only [tt25, tt23, h2, h1', h5, g2, decide_eq_false hi, G_nil, G_seq, G_cond, GIf_false, G_exit, G_ret, G_region, G_codeE, G_lpE, G_blkE, G_onil, G_op, GG_true, GG_false, GX_val, GP_some, put_lt, wantedG_none, wantedG_some, wG_some, isB_bool, List.getElem?_toArray, eq_self, Int.reduceNeg, Nat.zero_add, tget_set, nbeq, evalO_tmp, evalO_bool, Tr.get_set, oval_eq, cx_move, cx_assign, cx_pick, xpick_false, cx_load, cx_bin, cx_fieldAddr, cx_builtin, loadAt_some, loadIn_cells, xfieldAddr_some, xfa_some, cbin_lss, bi_len, tyAt0, xlen_sl, takeN, resAll, resOne, tupV1, Outs_ret, OutR_some, List.map_cons, List.map_nil, List.drop_zero, List.drop_succ_cons, List.head?_cons, List.getElem?_cons_zero, List.getElem?_cons_succ, Option.map_some, cond_true, cond_false, Bool.not_true, decide_true, decide_false, if_true, if_false, Nat.reduceEqDiff]
      have : subs.drop i = .nil := RexL.drop_len (by rw [← RXL.len hsub]; omega)
      rw [this] at hsm
      rw [smallL] at hsm
      rw [← hsm]
      exact ⟨trivial, rfl, hlf2, kH⟩
  · refine ⟨_, _, 0, left - 1 - set.length, rfl, rfl, ?_, ?_, ?_, Keep.refl _, by omega, by omega, rfl⟩
    all_goals (simp (config := { maxSteps := 1000000 }) (disch := first | omega | ((repeat (first | rw [n_new] | rw [n_put])) <;> omega) | fail) only [cast_lit, eq_self, tget_set, tget_of2, List.getElem?_cons_zero, List.getElem?_cons_succ, if_true, if_false, Nat.reduceEqDiff]; done)
end
end Go.Proofs
