/- Functions of the program under the statement RexPlain, walked: a text's letters found (no statement of the program is proved here). -/
import Derived.Test.YtoanfmlpddlcmaaGreatDoorRF
namespace Go.Proofs
open Go Go.PE
noncomputable section
def walk (S : List UInt8) (cs : List Nat) (o : Option Nat) : Option Nat := cs.foldl (fun o c => o.bind (stepL S c)) o
theorem stepL_le {S : List UInt8} {c at' P : Nat} (h : stepL S c at' = some P) : P ≤ S.length := by
  unfold stepL at h
  split at h
  · split at h
    · cases h
      have := letN_le (l := S.drop at') (c := (letN (S.drop at')).1) (n := (letN (S.drop at')).2) rfl
      rw [List.length_drop] at this; omega
    · cases h
  · cases h
theorem walk_le {S : List UInt8} : ∀ {cs : List Nat} {o : Option Nat}, (∀ P, o = some P → P ≤ S.length) → ∀ P, walk S cs o = some P → P ≤ S.length
  | [], o, h, P, hP => h P hP
  | c :: cs, o, h, P, hP => walk_le (cs := cs) (o := o.bind (stepL S c)) (fun Q hQ => by
      cases o with
      | none => cases hQ
      | some a => exact stepL_le hQ) P hP
theorem walk_snoc {S : List UInt8} {cs : List Nat} {c : Nat} {o : Option Nat} : walk S (cs ++ [c]) o = (walk S cs o).bind (stepL S c) := by
  unfold walk; rw [List.foldl_append]; rfl
def KeysLt (H : Hp) (bb i : Nat) (es : List (Value × Value)) : Prop := ∀ e ∈ es, ∃ b o, e.1 = .pointer (some ⟨b, o, none⟩) ∧ b < H.n ∧ plainBlk (H.get b) = true ∧ (b = bb → o < i * 3)
theorem KeysLt.fresh {H : Hp} {bb i : Nat} {es : List (Value × Value)} (h : KeysLt H bb i es) : Fresh H bb (i * 3) es := by
  intro e he
  obtain ⟨b, o, h1, h2, h3, h4⟩ := h e he
  exact ⟨b, o, h1, h2, h3, fun hx => by have := h4 hx.1; omega⟩
theorem KeysLt.but {H H' : Hp} {mk bb i : Nat} {es es' : List (Value × Value)} (k : KeepBut mk H H') (hm : H.get mk = some (.mp es')) (h : KeysLt H bb i es) : KeysLt H' bb i es := by
  intro e he
  obtain ⟨b, o, h1, h2, h3, h4⟩ := h e he
  have : b ≠ mk := by
    rintro rfl
    rw [hm] at h3; cases h3
  exact ⟨b, o, h1, Nat.lt_of_lt_of_le h2 k.le, by rw [k.get h2 this]; exact h3, h4⟩
theorem KeysLt.more {H : Hp} {bb i : Nat} {es : List (Value × Value)} (h : KeysLt H bb i es) : KeysLt H bb (i + 1) es := by
  intro e he
  obtain ⟨b, o, h1, h2, h3, h4⟩ := h e he
  exact ⟨b, o, h1, h2, h3, fun hx => by have := h4 hx; omega⟩
theorem KeysLt.snoc {H : Hp} {bb i : Nat} {es : List (Value × Value)} {row : Value} (h : KeysLt H bb i es) (hb : bb < H.n) (hp : plainBlk (H.get bb) = true) : KeysLt H bb (i + 1) (es ++ [(.pointer (some ⟨bb, i * 3, none⟩), row)]) := by
  intro e he
  rcases List.mem_append.1 he with he | he
  · exact h.more e he
  · rw [List.mem_singleton] at he; subst he
    exact ⟨bb, i * 3, rfl, hb, hp, fun _ => by omega⟩
/-- the parts of an expression -/
def SubsAt (H : Hp) (bb : Nat) (cs : List Nat) : Prop := bb < H.n ∧ ∃ l, H.get bb = some (.cells l 25 (some 3) 0) ∧ Sets H l cs
theorem SubsAt.letter {H : Hp} {bb i c : Nat} {cs : List Nat} (h : SubsAt H bb cs) (hi : cs[i]? = some c) : LetP H bb (i * 3) c := by
  obtain ⟨h1, l, h2, h3⟩ := h
  obtain ⟨v, h4, r, h5⟩ := h3.drop hi
  have hg : ∀ j, l[i * 3 + j]? = (Value.int .i64 2 :: v :: .slice none 0 0 :: r)[j]? := fun j => by rw [← h5, List.getElem?_drop]
  exact ⟨h1, l, _, v, h2, hg 0, hg 1, hg 2, h4⟩
theorem SubsAt.but {H H' : Hp} {mk bb : Nat} {cs : List Nat} {es : List (Value × Value)} (k : KeepBut mk H H') (hm : H.get mk = some (.mp es)) (h : SubsAt H bb cs) : SubsAt H' bb cs := by
  obtain ⟨h1, l, h2, h3⟩ := h
  have : bb ≠ mk := by
    rintro rfl
    rw [h2] at hm; cases hm
  exact ⟨Nat.lt_of_lt_of_le h1 k.le, l, by rw [k.get h1 this]; exact h2, h3.mono fun _ _ a => a.but k hm⟩
theorem SubsAt.plain {H : Hp} {bb : Nat} {cs : List Nat} (h : SubsAt H bb cs) : plainBlk (H.get bb) = true := by
  obtain ⟨h1, l, h2, h3⟩ := h
  rw [h2]; rfl
def CatAt (H : Hp) (bx bb : Nat) (k : Nat) : Prop := bx < H.n ∧ H.get bx = some (.cells [.int .i64 3, .slice none 0 0, .slice (some ⟨bb, 0, none⟩) k k] 25 none 0)
theorem CatAt.but {H H' : Hp} {mk bx bb k' : Nat} {es : List (Value × Value)} (k : KeepBut mk H H') (hm : H.get mk = some (.mp es)) (h : CatAt H bx bb k') : CatAt H' bx bb k' := by
  obtain ⟨h1, h2⟩ := h
  have : bx ≠ mk := by
    rintro rfl
    rw [h2] at hm; cases hm
  exact ⟨Nat.lt_of_lt_of_le h1 k.le, by rw [k.get h1 this]; exact h2⟩
set_option maxRecDepth 100000 in
theorem find_cat {H : Hp} {br mk bx bb at' : Nat} {cs : List Nat} {S : List UInt8} {es : List (Value × Value)} (hr : RunP H br mk S) (hm : H.get mk = some (.mp es)) (hmk : mk < H.n) (hx : CatAt H bx bb cs.length) (hs : SubsAt H bb cs) (hk : KeysLt H bb 0 es) (hS : S.length ≤ 100000) (ha : at' ≤ S.length) (hc : cs.length ≤ 100000) :
    Has rE 46 [.pointer (some ⟨br, 0, none⟩), .pointer (some ⟨bx, 0, none⟩), .int .i64 (at' : Int)] H fun v H2 => BAt H2 v (oh (S.length + 1) (walk S cs (some at'))) ∧ KeepBut mk H H2 ∧ ∃ es2, H2.get mk = some (.mp es2) ∧ True := by
  have hr' := hr.1
  have hbr := hr.2
  have hbx := hx.1
  have hx' := hx.2
  refine Has.of (rans_none (by decide) (by decide)) ft46 rfl (Nat.le_of_ble_eq_true rfl) ?_
  simp (config := { maxSteps := 1000000 }) (disch := first | omega | ((repeat (first | rw [n_new] | rw [n_put])) <;> omega) | fail) only [Tryz.f46, tt48, tt9, tt53, hr', G_seq, G_region, G_onil, G_op, GG_true, GX_val, GP_some, put_lt, wantedG_none, eq_self, Nat.zero_add, tget_set, tget_of3, nbeq, evalO_tmp, evalO_int, evalO_nsl, oval_eq, cx_move, cx_assign, cx_load, cx_nilCheck, cx_bin, cx_makeSlice, cx_fieldAddr, cx_builtin, xnil_ptr, loadAt_some, loadIn_cells, xfieldAddr_some, xfa_some, cbin_add, wrap_nat_add1, bi_len, tyAt0, xlen_str, takeN, List.toList_toArray, List.map_cons, List.map_nil, List.length_cons, List.length_nil, List.drop_zero, List.head?_cons, Nat.add_zero, List.getElem?_cons_zero, List.getElem?_cons_succ, Option.map_some, cond_true, cond_false, decide_true, decide_false, if_true, if_false, Nat.reduceAdd, Nat.reduceEqDiff]
  rw [mk_sl rfl tt4 rfl rfl rfl (by show (S.length + 1) * 2 ≤ 16777216; omega) (by rw [bytes4]; show (S.length + 1) * 1 ≤ 16777216; omega)]
  simp (config := { maxSteps := 1000000 }) (disch := first | omega | ((repeat (first | rw [n_new] | rw [n_put])) <;> omega) | fail) only [tt25, tt3, hx', ft62, cc62, G_seq, G_cond, GIf_true, GIf_false, G_block, G_region, G_onil, G_op, GG_true, GX_val, GX_enter, GP_some, put_lt, wantedG_none, eq_self, Int.reduceEq, tget_set, tget_of3, nbeq, evalO_tmp, evalO_int, evalO_func, oval_eq, get_new_ne, cx_move, cx_assign, cx_load, cx_nilCheck, cx_bin, cx_fieldAddr, cx_call, xcallv_func, xnil_ptr, loadAt_some, loadIn_cells, xfieldAddr_some, xfa_some, cbin_eql, takeN, List.map_cons, List.map_nil, List.append_nil, List.nil_append, List.drop_zero, List.head?_cons, Nat.add_zero, List.getElem?_cons_zero, List.getElem?_cons_succ, Option.map_some, cond_true, cond_false, decide_true, decide_false, if_true, if_false, Nat.reduceEqDiff]
  refine GCall.of (has_only (H := H.new (.cells (List.replicate (S.length + 1) (.bool false)) 4 none 0)) (S := S) (mk := mk) (by rw [get_new_ne (by omega)]; exact hr') (Nat.lt_succ_of_lt hbr) hS ha) ?_
  rintro v H1 ⟨hv, k1⟩
  have k01 : Keep H H1 := Keep.trans ((Keep.refl H).new _) k1
  have n01 := k01.le
  have hx1 : H1.get bx = some (.cells [.int .i64 3, .slice none 0 0, .slice (some ⟨bb, 0, none⟩) cs.length cs.length] 25 none 0) := by rw [k01.get hbx]; exact hx'
  simp (config := { maxSteps := 1000000 }) (disch := first | omega | ((repeat (first | rw [n_new] | rw [n_put])) <;> omega) | fail) only [tt25, tt23, hx1, G_seq, G_block, G_region, G_onil, G_op, GG_true, GX_val, GP_some, put_lt, wantedG_none, eq_self, Nat.zero_add, tget_set, tget_of3, nbeq, evalO_tmp, evalO_int, oval_eq, cx_move, cx_assign, cx_load, cx_nilCheck, cx_fieldAddr, cx_builtin, xnil_ptr, loadAt_some, loadIn_cells, xfieldAddr_some, xfa_some, bi_len, tyAt0, xlen_sl, takeN, List.map_cons, List.map_nil, List.drop_zero, List.drop_succ_cons, List.head?_cons, List.getElem?_cons_zero, List.getElem?_cons_succ, Option.map_some, cond_true, cond_false, decide_true, decide_false, if_true, if_false, Nat.reduceEqDiff]
  refine G_loop_ind (fun k s => ∃ tm H2 i p es2, s = ⟨tm, [], H2⟩ ∧ k + i = cs.length ∧ tget tm 0 = .pointer (some ⟨br, 0, none⟩) ∧ tget tm 1 = .pointer (some ⟨bx, 0, none⟩) ∧ tget tm 10 = p ∧ tget tm 68 = .int .i64 ((cs.length : Nat) : Int) ∧ tget tm 69 = .int .i64 ((i : Nat) : Int) ∧
    KeepBut mk H H2 ∧ BAt H2 p (oh (S.length + 1) (walk S (cs.take i) (some at'))) ∧ H2.get mk = some (.mp es2) ∧ KeysLt H2 bb i es2) ?_ cs.length _ ?_
  · rintro k ih s ⟨tm, H2, i, p, es2, rfl, hki, h0, h1, h10, h68, h69, k2, hp, hm2, hks⟩
    have n2 := k2.le
    by_cases hi : (i : Int) < (cs.length : Int)
    · have hi' : i < cs.length := by omega
      have hx2 := (hx.but k2 hm).2
      obtain ⟨c, hc'⟩ : ∃ c, cs[i]? = some c := ⟨_, List.getElem?_eq_getElem hi'⟩
      simp (config := { maxSteps := 1000000 }) (disch := first | omega | ((repeat (first | rw [n_new] | rw [n_put])) <;> omega) | fail) only [tt25, tt23, h0, h1, h10, h68, h69, hx2, decide_eq_true hi, ft63, cc63, G_skip, G_seq, G_cond, GIf_true, G_block, G_region, G_onil, G_op, GG_true, GX_val, GX_enter, GP_some, put_lt, wantedG_none, eq_self, Nat.zero_add, tget_set, nbeq, evalO_tmp, evalO_func, oval_eq, cx_move, cx_assign, cx_load, cx_nilCheck, cx_bin, cx_fieldAddr, cx_indexAddr, cx_call, xcallv_func, xnil_ptr, loadAt_some, loadIn_cells, xfieldAddr_some, xfa_some, xindexAddr_some, natOf_nat, xidx_sl, cbin_lss, takeN, List.map_cons, List.map_nil, List.append_nil, List.nil_append, List.drop_zero, List.drop_succ_cons, List.head?_cons, List.getElem?_cons_zero, List.getElem?_cons_succ, Option.map_some, cond_true, cond_false, decide_true, decide_false, if_true, if_false, Nat.reduceEqDiff]
      refine GCall.of (has_beyond (hr.but k2 hm) hm2 (by omega) ((hs.but k2 hm).letter hc') hks.fresh hS hp (walk_le fun P h => by cases h; exact ha)) ?_
      rintro v H3 ⟨hv3, k3, es3, hm3, hes3⟩
      have hw : walk S (cs.take (i + 1)) (some at') = (walk S (cs.take i) (some at')).bind (stepL S c) := by
        rw [List.take_add_one, hc', ← walk_snoc]; rfl
      rw [← hw] at hv3
      have hks3 : KeysLt H3 bb (i + 1) es3 := by
        rcases hes3 with rfl | ⟨row, rfl⟩
        · exact (hks.but k3 hm2).more
        · exact (hks.but k3 hm2).snoc ((hs.but k2 hm).but k3 hm2).1 ((hs.but k2 hm).but k3 hm2).plain
      simp (config := { maxSteps := 1000000 }) (disch := first | omega | ((repeat (first | rw [n_new] | rw [n_put])) <;> omega) | fail) only [h69, G_again, G_region, G_blkN, G_onil, G_op, GG_true, GX_val, GP_some, put_lt, wantedG_none, eq_self, tget_set, evalO_tmp, evalO_int, oval_eq, cx_move, cx_assign, cx_bin, cbin_add, wrap_nat_add1, if_true, if_false, Nat.reduceEqDiff]
      refine ih (k - 1) _ (by omega) ⟨_, H3, i + 1, v, es3, rfl, by omega, ?_, ?_, ?_, ?_, ?_, k2.trans k3, hv3, hm3, hks3⟩
      all_goals (simp (config := { maxSteps := 1000000 }) (disch := first | omega | ((repeat (first | rw [n_new] | rw [n_put])) <;> omega) | fail) only [h0, h1, h68, h69, eq_self, tget_set, if_true, if_false, Nat.reduceEqDiff]; done)
    · simp (config := { maxSteps := 1000000 }) (disch := first | omega | ((repeat (first | rw [n_new] | rw [n_put])) <;> omega) | fail) only [h10, h68, h69, decide_eq_false hi, G_nil, G_seq, G_cond, GIf_false, G_exit, G_ret, G_region, G_codeE, G_codeR, G_lpE, G_blkE, G_blkR, G_onil, G_op, GG_true, GX_val, GP_some, put_lt, wantedG_none, eq_self, tget_set, evalO_tmp, oval_eq, cx_move, cx_assign, cx_bin, cbin_lss, resAll, resOne, tupV1, Outs_ret, OutR_some, if_true, if_false, Nat.reduceEqDiff]
      rw [List.take_of_length_le (by omega)] at hp
      exact ⟨trivial, hp, k2, _, hm2, trivial⟩
  · refine ⟨_, _, 0, _, es, rfl, rfl, ?_, ?_, rfl, ?_, ?_, k01.but, ?_, ?_, ?_⟩
    all_goals first | (simp (config := { maxSteps := 1000000 }) (disch := first | omega | ((repeat (first | rw [n_new] | rw [n_put])) <;> omega) | fail) only [cast_lit, eq_self, tget_set, tget_of3, List.getElem?_cons_zero, List.getElem?_cons_succ, if_true, if_false, Nat.reduceEqDiff]; done) | skip
    · simp (config := { maxSteps := 1000000 }) (disch := first | omega | ((repeat (first | rw [n_new] | rw [n_put])) <;> omega) | fail) only [eq_self, tget_set, tget_of3, List.getElem?_cons_succ, if_true, if_false, Nat.reduceEqDiff]; exact hv
    · rw [k01.get hmk]; exact hm
    · exact hk.but k01.but hm
theorem from_cat {H : Hp} {br mk bx bb at' : Nat} {cs : List Nat} {S : List UInt8} (hr : RunP H br mk S) (hm : H.get mk = some (.mp [])) (hmk : mk < H.n) (hx : CatAt H bx bb cs.length) (hs : SubsAt H bb cs) (hS : S.length ≤ 100000) (ha : at' ≤ S.length) (hc : cs.length ≤ 100000) :
    Has rE 23 [.pointer (some ⟨br, 0, none⟩), .pointer (some ⟨bx, 0, none⟩), .int .i64 (at' : Int)] H fun v H2 => BAt H2 v (oh (S.length + 1) (walk S cs (some at'))) ∧ KeepBut mk H H2 := by
  have hne : bx ≠ bb := by
    rintro rfl
    obtain ⟨_, l, h2, _⟩ := hs
    rw [hx.2] at h2; cases h2
  have hpx : plainBlk (H.get bx) = true := by rw [hx.2]; rfl
  refine (has_from (M := fun _ => True) hr hm hmk hpx hx.1 (fun e he => by cases he) hS ha fun H1 n1 _ q1 m1 => ?_).mono fun v H2 h => ⟨h.1, h.2.1⟩
  have k1 : KeepBut mk H H1 := ⟨by omega, fun {b} h hn => q1 b h hn⟩
  refine find_cat (hr.but k1 hm) m1 (by omega) (hx.but k1 hm) (hs.but k1 hm) ?_ hS ha hc
  intro e he
  rw [List.nil_append, List.mem_singleton] at he
  subst he
  exact ⟨bx, 0, rfl, (hx.but k1 hm).1, by rw [(hx.but k1 hm).2]; rfl, fun h => absurd h hne⟩
end
end Go.Proofs
