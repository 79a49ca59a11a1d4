/- Functions of the program under the statement RexPlain, walked (no statement of the program is proved here). -/
import Derived.Test.YtoanfmlpddlcmaaGreatDoorPV
import Derived.Lib.TrimUEq
import Derived.Lib.TrimU
namespace Go.Proofs
open Go Go.PE
noncomputable section
theorem has_set {H : Hp} {a : Option Addr} {n c : Nat} : Has rE 18 [.slice a n c] H fun r H' => r = .agg #[.int .i64 2, .slice a n c, .slice none 0 0] ∧ Keep H H' := by
  refine Has.of (rans_none (by decide) (by decide)) ft18 rfl (Nat.le_of_ble_eq_true rfl) ?_
  simp (config := { maxSteps := 1000000 }) (disch := first | omega | ((repeat (first | rw [n_new] | rw [n_put])) <;> omega) | fail) only [Tryz.f18, tt25, G_nil, G_seq, G_ret, G_region, G_onil, G_op, GG_true, GX_val, GX_skip, GP_some, put_lt, put_none, wantedG_none, eq_self, Nat.zero_add, tget_set, tget_of1, nbeq, nble, evalO_tmp, evalO_int, oval_eq, oskip_some, xnew_eq, get_put_eq, get_new_eq, cx_move, cx_alloc, cx_build, cx_store, xalloc_some, loadAt_some, loadIn_cells, storeAt_some, storeIn_cells, isJunk, oneC, cbuild, partsV, fillC, fieldPl, elemPl, splice, takeN, Value.cells, resAll, resOne, tupV1, Outs_ret, OutR_some, List.toList_toArray, List.map_cons, List.map_nil, List.all_cons, List.all_nil, List.length_cons, List.length_nil, List.drop_zero, List.head?_cons, List.getElem?_cons_zero, List.getElem?_cons_succ, Option.map_some, cond_true, cond_false, Bool.and_true, Bool.not_true, Bool.not_false, decide_true, decide_false, if_true, if_false, List.size_toArray, Nat.reduceAdd, Nat.reduceEqDiff, Nat.reduceLeDiff]
  refine ⟨trivial, trivial, (by repeat (first | assumption | exact Keep.refl _ | refine Keep.new ?_ _ | refine Keep.put ?_ _ (by first | omega | (simp only [n_new, n_put] <;> omega))))⟩
theorem has_one {H : Hp} {c : Int} : Has rE 19 [.int .i64 c] H fun r H' => ∃ b, r = .slice (some ⟨b, 0, none⟩) 1 1 ∧ H.n ≤ b ∧ b < H'.n ∧ H'.get b = some (.cells [.int .i64 c, .int .i64 c] 62 none 0) ∧ Keep H H' := by
  refine Has.of (rans_none (by decide) (by decide)) ft19 rfl (Nat.le_of_ble_eq_true rfl) ?_
  simp (config := { maxSteps := 1000000 }) (disch := first | omega | ((repeat (first | rw [n_new] | rw [n_put])) <;> omega) | fail) only [Tryz.f19, tt22, tt62, G_nil, G_seq, G_ret, G_region, G_onil, G_op, GG_true, GX_val, GP_some, put_lt, wantedG_none, eq_self, Nat.zero_add, tget_set, tget_of1, nbeq, nble, evalO_tmp, evalO_nsl, oval_eq, xnewSl_eq, n_new, cx_move, cx_assign, cx_build, cx_buildSlice, isJunk, cbuild, partsV, fillC, fieldPl, elemPl, splice, Value.cells, resAll, resOne, tupV1, Outs_ret, OutR_some, xbuildSlice, rep, limN, List.toList_toArray, List.map_cons, List.map_nil, List.length_cons, List.length_nil, List.append_nil, List.getElem?_cons_zero, List.getElem?_cons_succ, Option.map_some, cond_true, cond_false, Bool.and_true, Bool.not_true, Bool.not_false, decide_true, decide_false, if_true, if_false, List.size_toArray, Nat.reduceAdd, Nat.reduceEqDiff, Nat.reduceLeDiff, Nat.reduceMul]
  refine ⟨trivial, _, rfl, Nat.le_refl _, Nat.lt_succ_self _, get_new_eq rfl, (by repeat (first | assumption | exact Keep.refl _ | refine Keep.new ?_ _ | refine Keep.put ?_ _ (by first | omega | (simp only [n_new, n_put] <;> omega))))⟩
def dec (l : List UInt8) : Nat × Nat := if (bs l).size = 0 then (65533, 0) else Utf8.decode (bs l) 0
def letN (l : List UInt8) : Nat × Nat := if (dec l).1 = 65533 ∧ (dec l).2 ≤ 1 then (0, 0) else dec l
theorem has_dec {H : Hp} {l : List UInt8} : Has rE 40 [.string (bs l)] H fun r H' => r = .tuple #[.int .i32 ((dec l).1 : Int), .int .i64 ((dec l).2 : Int)] ∧ H' = H :=
  Has.ans rans_40 rfl ⟨rfl, rfl⟩
theorem decodeN_le (n b0 b1 b2 b3 : Nat) (hn : 1 ≤ n) : (Lib.decodeN n b0 b1 b2 b3).2 ≤ 4 ∧ (Lib.decodeN n b0 b1 b2 b3).2 ≤ n := by
  unfold Lib.decodeN
  repeat' split
  all_goals (simp only; omega)
theorem dec_nil : dec [] = (65533, 0) := rfl
theorem dec_N {l : List UInt8} (h : l ≠ []) : dec l = Lib.decodeN l.length (l.getD 0 0).toNat (l.getD 1 0).toNat (l.getD 2 0).toNat (l.getD 3 0).toNat := by
  have : (bs l).size ≠ 0 := fun e => h (List.eq_nil_of_length_eq_zero e)
  unfold dec
  rw [if_neg this, Lib.decode_N]
  simp only [bs_list, Nat.sub_zero, Nat.zero_add]
theorem dec_small (l : List UInt8) : (dec l).1 ≤ 1114111 ∧ (dec l).2 ≤ 4 := by
  by_cases h : l = []
  · subst h; rw [dec_nil]; decide
  · have : 1 ≤ l.length := by
      cases l with
      | nil => exact absurd rfl h
      | cons _ _ => simp
    rw [dec_N h]
    exact ⟨Lib.decodeN_rune_le _ _ _ _ _ (UInt8.toNat_lt _), (decodeN_le _ _ _ _ _ this).1⟩
theorem has_letter {H : Hp} {l : List UInt8} : Has rE 17 [.string (bs l)] H fun r H' => r = .tuple #[.int .i64 ((letN l).1 : Int), .int .i64 ((letN l).2 : Int)] ∧ H' = H := by
  refine Has.of (rans_none (by decide) (by decide)) ft17 rfl (Nat.le_of_ble_eq_true rfl) ?_
  simp (config := { maxSteps := 1000000 }) (disch := first | omega | ((repeat (first | rw [n_new] | rw [n_put])) <;> omega) | fail) only [Tryz.f17, cc40, ft40, G_seq, G_region, G_onil, G_op, GG_true, GX_val, GX_enter, GP_some, put_lt, wantedG_none, eq_self, Nat.zero_add, tget_set, tget_of1, evalO_tmp, evalO_int, evalO_func, cx_move, cx_assign, cx_call, xcallv_func, List.toList_toArray, List.map_cons, List.map_nil, List.length_cons, List.length_nil, List.append_nil, List.nil_append, List.getElem?_cons_zero, List.getElem?_cons_succ, if_true, if_false, Nat.reduceEqDiff]
  refine GCall.of has_dec ?_
  rintro v H' ⟨rfl, rfl⟩
  have hs := dec_small l
  unfold letN
  generalize dec l = d at hs ⊢
  obtain ⟨c, n⟩ := d
  simp only at hs ⊢
  by_cases hc : (c : Int) = 65533
  · have hc' : c = 65533 := by omega
    by_cases hn : (n : Int) ≤ 1
    · have hn' : n ≤ 1 := by omega
      simp (config := { maxSteps := 1000000 }) (disch := first | omega | ((repeat (first | rw [n_new] | rw [n_put])) <;> omega) | fail) only [decide_eq_true hc, decide_eq_true hn, G_nil, G_seq, G_cond, GIf_true, G_ret, G_region, G_codeR, G_onil, G_op, GG_true, GX_val, GP_some, put_lt, wantedG_none, wantedG_some, wG_some, isB_bool, List.getElem?_toArray, eq_self, tget_set, tget_of1, evalO_tmp, evalO_int, evalO_bool, Tr.get_set, oval_eq, cx_move, cx_assign, cx_pick, xpick_true, cx_bin, cx_extract, xextract_tuple, cbin_eql, cbin_leq, resAll, resOne, tupV2, Outs_ret, OutR_some, List.getElem?_cons_zero, List.getElem?_cons_succ, cond_true, Bool.not_true, if_true, if_false, Nat.reduceEqDiff]
      rw [if_pos ⟨hc', hn'⟩]
      exact ⟨trivial, rfl, trivial⟩
    · have hn' : ¬ n ≤ 1 := by omega
      simp (config := { maxSteps := 1000000 }) (disch := first | omega | ((repeat (first | rw [n_new] | rw [n_put])) <;> omega) | fail) only [tt3, tt21, decide_eq_true hc, decide_eq_false hn, cv_21_3 tt21 tt3, wrap_ok, G_nil, G_skip, G_seq, G_cond, GIf_false, G_ret, G_region, G_onil, G_op, GG_true, GX_val, GP_some, put_lt, wantedG_none, wantedG_some, wG_some, isB_bool, List.getElem?_toArray, eq_self, tget_set, tget_of1, evalO_tmp, evalO_int, evalO_bool, Tr.get_set, oval_eq, cx_move, cx_assign, cx_pick, xpick_true, cx_bin, cx_convert, cx_extract, xextract_tuple, cbin_eql, cbin_leq, resAll, resOne, tupV2, Outs_ret, OutR_some, List.getElem?_cons_zero, List.getElem?_cons_succ, cond_true, Bool.not_true, if_true, if_false, Nat.reduceEqDiff]
      rw [if_neg fun h => hn' h.2]
      exact ⟨trivial, rfl, trivial⟩
  · have hc' : ¬ c = 65533 := by omega
    simp (config := { maxSteps := 1000000 }) (disch := first | omega | ((repeat (first | rw [n_new] | rw [n_put])) <;> omega) | fail) only [tt3, tt21, decide_eq_false hc, cv_21_3 tt21 tt3, wrap_ok, G_nil, G_skip, G_seq, G_cond, GIf_false, G_ret, G_region, G_onil, G_op, GG_true, GG_false, GX_val, GP_some, put_lt, wantedG_none, wantedG_some, wG_some, isB_bool, List.getElem?_toArray, eq_self, tget_set, tget_of1, evalO_tmp, evalO_int, evalO_bool, Tr.get_set, oval_eq, cx_move, cx_assign, cx_pick, xpick_false, cx_bin, cx_convert, cx_extract, xextract_tuple, cbin_eql, resAll, resOne, tupV2, Outs_ret, OutR_some, List.getElem?_cons_zero, List.getElem?_cons_succ, cond_false, Bool.not_true, if_true, if_false, Nat.reduceEqDiff]
    rw [if_neg fun h => hc' h.1]
    exact ⟨trivial, rfl, trivial⟩
/-! what a text's letters look like in the heap -/
def Set1 (H : Hp) (v : Value) (c : Nat) : Prop := ∃ b, v = .slice (some ⟨b, 0, none⟩) 1 1 ∧ b < H.n ∧ H.get b = some (.cells [.int .i64 (c : Int), .int .i64 (c : Int)] 62 none 0)
theorem Set1.keep {H H' : Hp} (k : Keep H H') {v : Value} {c : Nat} (h : Set1 H v c) : Set1 H' v c := by
  obtain ⟨b, h1, h2, h3⟩ := h
  exact ⟨b, h1, Nat.lt_of_lt_of_le h2 k.le, by rw [k.get h2]; exact h3⟩
inductive Sets (H : Hp) : List Value → List Nat → Prop
  | nil : Sets H [] []
  | cons {v : Value} {c : Nat} {l : List Value} {cs : List Nat} : Set1 H v c → Sets H l cs → Sets H (.int .i64 2 :: v :: .slice none 0 0 :: l) (c :: cs)
theorem Sets.mono {H H' : Hp} (k : ∀ v c, Set1 H v c → Set1 H' v c) {l : List Value} {cs : List Nat} (h : Sets H l cs) : Sets H' l cs := by
  induction h with
  | nil => exact .nil
  | cons a _ ih => exact .cons (k _ _ a) ih
theorem Sets.app {H : Hp} {l : List Value} {cs : List Nat} (h : Sets H l cs) {v : Value} {c : Nat} (hv : Set1 H v c) : Sets H (l ++ [.int .i64 2, v, .slice none 0 0]) (cs ++ [c]) := by
  induction h with
  | nil => exact .cons hv .nil
  | cons a _ ih => exact .cons a ih
theorem Sets.len {H : Hp} {l : List Value} {cs : List Nat} (h : Sets H l cs) : l.length = cs.length * 3 := by
  induction h with
  | nil => rfl
  | cons _ _ ih => simp only [List.length_cons, ih]; omega
theorem Sets.drop {H : Hp} {l : List Value} {cs : List Nat} (h : Sets H l cs) : ∀ {i : Nat} {c : Nat}, cs[i]? = some c → ∃ v, Set1 H v c ∧ ∃ r, l.drop (i * 3) = .int .i64 2 :: v :: .slice none 0 0 :: r := by
  induction h with
  | nil => intro i c h; simp at h
  | @cons v c l cs a _ ih =>
    intro i d h
    cases i with
    | zero => simp only [List.getElem?_cons_zero, Option.some.injEq] at h; subst h; exact ⟨v, a, l, by simp⟩
    | succ i =>
      simp only [List.getElem?_cons_succ] at h
      obtain ⟨u, h1, r, h2⟩ := ih h
      refine ⟨u, h1, r, ?_⟩
      rw [show (i + 1) * 3 = i * 3 + 3 by omega]
      simp only [List.drop_succ_cons]; exact h2
/-- a list of letters -/
def LAt (N : Nat) (H : Hp) (v : Value) (cs : List Nat) : Prop := (cs = [] ∧ v = .slice none 0 0) ∨
  (cs ≠ [] ∧ ∃ b l, v = .slice (some ⟨b, 0, none⟩) cs.length cs.length ∧ N ≤ b ∧ b < H.n ∧ H.get b = some (.cells l 25 (some 3) 0) ∧ Sets H l cs)
theorem LAt.keep {N : Nat} {H H' : Hp} (k : Keep H H') {v : Value} {cs : List Nat} (h : LAt N H v cs) : LAt N H' v cs := by
  rcases h with h | ⟨h0, b, l, h1, hN, h2, h3, h4⟩
  · exact .inl h
  · exact .inr ⟨h0, b, l, h1, hN, Nat.lt_of_lt_of_le h2 k.le, by rw [k.get h2]; exact h3, h4.mono fun _ _ a => a.keep k⟩
/-- the expression of a text -/
def XAt (H : Hp) (x : Value) (cs : List Nat) : Prop := (∃ c v, cs = [c] ∧ x = .agg #[.int .i64 2, v, .slice none 0 0] ∧ Set1 H v c) ∨
  (2 ≤ cs.length ∧ ∃ v, x = .agg #[.int .i64 3, .slice none 0 0, v] ∧ LAt 0 H v cs)
theorem XAt.keep {H H' : Hp} (k : Keep H H') {x : Value} {cs : List Nat} (h : XAt H x cs) : XAt H' x cs := by
  rcases h with ⟨c, v, h1, h2, h3⟩ | ⟨h1, v, h2, h3⟩
  · exact .inl ⟨c, v, h1, h2, h3.keep k⟩
  · exact .inr ⟨h1, v, h2, h3.keep k⟩
theorem XAt.put {H : Hp} {x : Value} {cs : List Nat} {b : Nat} {l : List Value} {o : CO} (h : XAt H x cs) (hb : H.get b = some (.cells l 25 none 0)) : XAt (H.put b o) x cs := by
  have hm : ∀ v c, Set1 H v c → Set1 (H.put b o) v c := by
    rintro v c ⟨bb, h1, h2, h3⟩
    have hne : bb ≠ b := by
      rintro rfl
      rw [hb] at h3; cases h3
    exact ⟨bb, h1, h2, by rw [get_put_ne hne]; exact h3⟩
  rcases h with ⟨c, v, h1, h2, h3⟩ | ⟨h1, v, h2, h3⟩
  · exact .inl ⟨c, v, h1, h2, hm _ _ h3⟩
  · refine .inr ⟨h1, v, h2, ?_⟩
    rcases h3 with h3 | ⟨e0, bb, ll, e1, e2, e3, e4, e5⟩
    · exact .inl h3
    · have hne : bb ≠ b := by
        rintro rfl
        rw [hb] at e4; cases e4
      exact .inr ⟨e0, bb, ll, e1, e2, e3, by rw [get_put_ne hne]; exact e4, e5.mono hm⟩
theorem has_whole {N : Nat} {H : Hp} {v : Value} {cs : List Nat} (h : LAt N H v cs) (hne : cs ≠ []) : Has rE 20 [.int .i64 3, v] H fun r H' => XAt H r cs ∧ Keep H H' := by
  rcases h with h | ⟨_, b, l, rfl, _, hb, hg, hs⟩
  · exact absurd h.1 hne
  refine Has.of (rans_none (by decide) (by decide)) ft20 rfl (Nat.le_of_ble_eq_true rfl) ?_
  by_cases h1 : ((cs.length : Nat) : Int) = 1
  · have h1' : cs.length = 1 := by omega
    obtain ⟨c, rfl⟩ : ∃ c, cs = [c] := by
      match cs, h1' with
      | [c], _ => exact ⟨c, rfl⟩
    obtain ⟨u, hu, r, hr⟩ := hs.drop (i := 0) (c := c) rfl
    have hl := hs.len
    rw [Nat.zero_mul, List.drop_zero] at hr
    subst hr
    obtain ⟨bu, rfl, hu1, hu2⟩ := hu
    simp (config := { maxSteps := 1000000 }) (disch := first | omega | ((repeat (first | rw [n_new] | rw [n_put])) <;> omega) | fail) only [Tryz.f20, tt25, tt23, hg, List.length_cons, List.length_nil, Nat.zero_add, G_nil, G_seq, G_cond, GIf_true, G_ret, G_region, G_codeR, G_onil, G_op, GG_true, GX_val, GX_skip, GP_some, put_lt, put_none, wantedG_none, cast_lit, eq_self, Nat.zero_add, tget_set, tget_of2, nbeq, nble, evalO_tmp, evalO_int, oval_eq, oskip_some, xnew_eq, get_put_eq, get_new_eq, get_new_ne, cx_move, cx_alloc, cx_load, cx_store, cx_bin, cx_indexAddr, cx_builtin, xalloc_some, loadAt_some, loadIn_cells, storeAt_some, storeIn_cells, xindexAddr_some, natOf_lit, xidx_sl, cbin_eql, bi_len, tyAt0, xlen_sl, isJunk, oneC, splice, takeN, Value.cells, resAll, resOne, tupV1, Outs_ret, OutR_some, List.toList_toArray, List.map_cons, List.map_nil, List.all_cons, List.all_nil, List.length_cons, List.length_nil, List.drop_zero, List.head?_cons, Nat.add_zero, List.getElem?_cons_zero, List.getElem?_cons_succ, Option.map_some, cond_true, cond_false, Bool.and_true, decide_true, if_true, if_false, Nat.reduceAdd, Nat.reduceEqDiff, Nat.reduceLeDiff, Nat.reduceMul]
    refine ⟨trivial, .inl ⟨c, _, rfl, rfl, ?_⟩, (by repeat (first | assumption | exact Keep.refl _ | refine Keep.new ?_ _ | refine Keep.put ?_ _ (by first | omega | (simp only [n_new, n_put] <;> omega))))⟩
    refine Set1.keep ?_ ⟨bu, rfl, hu1, hu2⟩
    exact (by repeat (first | assumption | exact Keep.refl _ | refine Keep.new ?_ _ | refine Keep.put ?_ _ (by first | omega | (simp only [n_new, n_put] <;> omega))))
  · have h2 : 2 ≤ cs.length := by
      have : cs.length ≠ 0 := fun h => hne (List.eq_nil_of_length_eq_zero h)
      omega
    simp (config := { maxSteps := 1000000 }) (disch := first | omega | ((repeat (first | rw [n_new] | rw [n_put])) <;> omega) | fail) only [Tryz.f20, tt25, tt23, decide_eq_false h1, G_nil, G_skip, G_seq, G_cond, GIf_false, G_ret, G_region, G_onil, G_op, GG_true, GX_val, GX_skip, GP_some, put_lt, put_none, wantedG_none, eq_self, Nat.zero_add, tget_set, tget_of2, nbeq, nble, evalO_tmp, evalO_int, oval_eq, oskip_some, xnew_eq, get_put_eq, get_new_eq, cx_move, cx_alloc, cx_build, cx_store, cx_bin, cx_builtin, xalloc_some, loadAt_some, loadIn_cells, storeAt_some, storeIn_cells, cbin_eql, bi_len, tyAt0, xlen_sl, isJunk, oneC, cbuild, partsV, fillC, fieldPl, elemPl, splice, takeN, Value.cells, resAll, resOne, tupV1, Outs_ret, OutR_some, List.toList_toArray, List.map_cons, List.map_nil, List.all_cons, List.all_nil, List.length_cons, List.length_nil, List.drop_zero, List.head?_cons, List.getElem?_cons_zero, List.getElem?_cons_succ, Option.map_some, cond_true, cond_false, Bool.and_true, Bool.not_true, Bool.not_false, decide_true, decide_false, if_true, if_false, List.size_toArray, Nat.reduceAdd, Nat.reduceEqDiff, Nat.reduceLeDiff]
    refine ⟨trivial, .inr ⟨h2, _, rfl, LAt.keep (by repeat (first | assumption | exact Keep.refl _ | refine Keep.new ?_ _ | refine Keep.put ?_ _ (by first | omega | (simp only [n_new, n_put] <;> omega)))) (.inr ⟨hne, b, l, rfl, Nat.zero_le _, hb, hg, hs⟩)⟩, (by repeat (first | assumption | exact Keep.refl _ | refine Keep.new ?_ _ | refine Keep.put ?_ _ (by first | omega | (simp only [n_new, n_put] <;> omega))))⟩
theorem app_letters {N : Nat} {H : Hp} {v : Value} {cs : List Nat} {bx b c : Nat} (la : LAt N H v cs) (hN : N ≤ H.n) (hx : H.get bx = some (.cells [.int .i64 2, .slice (some ⟨b, 0, none⟩) 1 1, .slice none 0 0] 25 none 0)) (hs : Set1 H (.slice (some ⟨b, 0, none⟩) 1 1) c) (hlim : cs.length ≤ 2000000) :
    ∃ v' H', xbuiltin rE #[23, 23] H .append [v, .slice (some ⟨bx, 0, none⟩) 1 1] = some (.val v', H') ∧ LAt N H' v' (cs ++ [c]) ∧ H'.n = H.n + 1 ∧ (∀ k, k < H.n → (k < N ∨ ∀ l, H.get k ≠ some (.cells l 25 (some 3) 0)) → H'.get k = H.get k) := by
  have hlimN : limN = 16777216 := rfl
  rcases la with ⟨rfl, rfl⟩ | ⟨h0, b', l, rfl, hb, hb', hg, hl⟩
  · refine ⟨_, _, (bi_app tt23 tt23 rfl rfl tt25 hx rfl rfl rfl 0 rfl (by rw [hlimN]; decide)).trans (capp_nil (by decide)), ?_, rfl, fun k hk _ => get_new_ne (by omega)⟩
    refine .inr ⟨by simp, H.n, _, rfl, hN, Nat.lt_succ_self _, get_new_eq rfl, .cons ?_ .nil⟩
    exact hs.keep ((Keep.refl H).new _)
  · have hlen := hl.len
    refine ⟨_, _, (bi_app tt23 tt23 rfl rfl tt25 hx rfl rfl rfl cs.length rfl (by rw [hlimN]; show (cs.length + 1) * 4 ≤ _; omega)).trans (capp_grow (by decide) hg hlen rfl), ?_, rfl, fun k hk hne => ?_⟩
    · have hm : ∀ v c, Set1 H v c → Set1 ((H.put b' .dead).new (.cells (l ++ [.int .i64 2, .slice (some ⟨b, 0, none⟩) 1 1, .slice none 0 0]) 25 (some 3) 0)) v c := by
        rintro v c ⟨bb, h1, h2, h3⟩
        have hne : bb ≠ b' := by
          rintro rfl
          rw [hg] at h3; cases h3
        exact ⟨bb, h1, Nat.lt_succ_of_lt h2, by rw [get_new_ne (by rw [n_put]; omega), get_put_ne hne]; exact h3⟩
      refine .inr ⟨by simp, H.n, _, ?_, hN, Nat.lt_succ_self _, get_new_eq rfl, (hl.mono hm).app (hm _ _ hs)⟩
      simp
    · rw [get_new_ne (by rw [n_put]; omega), get_put_ne]
      rintro rfl
      rcases hne with h | h
      · omega
      · exact h _ hg
/-- a text's letters, from its beginning to a place -/
inductive Spl (l : List UInt8) : List (Nat × Nat) → Nat → Prop
  | nil : Spl l [] 0
  | snoc {p : List (Nat × Nat)} {pos c n : Nat} : Spl l p pos → pos < l.length → letN (l.drop pos) = (c, n) → n ≠ 0 → Spl l (p ++ [(c, n)]) (pos + n)
theorem Spl.len {l : List UInt8} {p : List (Nat × Nat)} {pos : Nat} (h : Spl l p pos) : p.length ≤ pos := by
  induction h with
  | nil => exact Nat.le_refl _
  | snoc _ _ _ h ih => simp only [List.length_append, List.length_cons, List.length_nil]; omega
theorem dec_drop {l : List UInt8} {pos : Nat} (h : pos < l.length) : dec (l.drop pos) = Utf8.decode (bs l) pos := by
  have hne : l.drop pos ≠ [] := by
    intro e
    have := congrArg List.length e
    rw [List.length_drop] at this
    simp only [List.length_nil] at this; omega
  rw [dec_N hne, Lib.decode_N]
  simp only [bs_list, Lib.getD_dropU, List.length_drop, Nat.add_zero]
theorem letN_le {l : List UInt8} {c n : Nat} (h : letN l = (c, n)) : n ≤ l.length := by
  unfold letN at h
  split at h
  · cases h; exact Nat.zero_le _
  · by_cases hl : l = []
    · subst hl; rw [dec_nil] at h; cases h; exact Nat.zero_le _
    · have h1 : 1 ≤ l.length := by
        cases l with
        | nil => exact absurd rfl hl
        | cons _ _ => simp
      rw [dec_N hl] at h
      have := (decodeN_le l.length (l.getD 0 0).toNat (l.getD 1 0).toNat (l.getD 2 0).toNat (l.getD 3 0).toNat h1).2
      rw [h] at this; exact this
theorem Spl.le {l : List UInt8} {p : List (Nat × Nat)} {pos : Nat} (h : Spl l p pos) : pos ≤ l.length := by
  cases h with
  | nil => exact Nat.zero_le _
  | snoc _ h1 h2 _ => have := letN_le h2; rw [List.length_drop] at this; omega
def PlainPost (l : List UInt8) (H : Hp) (r : Value) (H' : Hp) : Prop := ∃ x e, r = .tuple #[x, .int .i64 e] ∧ Keep H H' ∧ ((e ≠ 0 ∧ x = .agg #[.int .i64 0, .slice none 0 0, .slice none 0 0]) ∨
  (e = 0 ∧ ∃ p, Spl l p l.length ∧ p ≠ [] ∧ p.length ≤ 400 ∧ XAt H' x (p.map Prod.fst)))
set_option maxRecDepth 100000 in
theorem has_plain {H : Hp} {l : List UInt8} (hl : l.length ≤ 1048576) : Has rE 5 [.string (bs l)] H (PlainPost l H) := by
  refine Has.of (rans_none (by decide) (by decide)) ft5 rfl (Nat.le_of_ble_eq_true rfl) ?_
  simp (config := { maxSteps := 1000000 }) (disch := first | omega | ((repeat (first | rw [n_new] | rw [n_put])) <;> omega) | fail) only [Tryz.f5, tt25, tt9, G_seq, G_block, G_region, G_onil, G_op, GG_true, GX_val, GP_some, put_lt, wantedG_none, eq_self, Nat.zero_add, tget_set, tget_of1, nbeq, evalO_tmp, evalO_int, evalO_nsl, xnew_eq, n_new, cx_move, cx_assign, cx_alloc, cx_range, xalloc_some, xrange_str, List.toList_toArray, List.length_cons, List.length_nil, List.getElem?_cons_zero, List.getElem?_cons_succ, cond_true, decide_true, if_true, if_false, Nat.reduceEqDiff]
  refine G_loop_ind (fun k s => ∃ tm H1 p pos v, s = ⟨tm, [], H1⟩ ∧ k + pos = l.length ∧ tget tm 0 = .string (bs l) ∧ tget tm 2 = .pointer (some ⟨H.n, 0, none⟩) ∧ tget tm 4 = v ∧ tget tm 9 = .pointer (some ⟨H.n + 1, 0, none⟩) ∧ H.n + 2 ≤ H1.n ∧
    H1.get H.n = some (.cells [.int .i64 0, .slice none 0 0, .slice none 0 0] 25 none 0) ∧ H1.get (H.n + 1) = some (.siter (bs l) pos) ∧ Spl l p pos ∧ LAt (H.n + 2) H1 v (p.map Prod.fst) ∧ Keep H H1) ?_ l.length _ ?_
  · rintro k ih s ⟨tm, H1, p, pos, v, rfl, hk, h0, h2, h4, h9, hn, g2, g9, sp, la, kp⟩
    by_cases hp : pos < (bs l).size
    · simp (config := { maxSteps := 1000000 }) (disch := first | assumption | omega | ((repeat (first | rw [n_new] | rw [n_put])) <;> omega) | fail) only [tt9, h0, h9, g9, ft17, cc17, G_skip, G_seq, G_cond, GIf_true, G_block, G_region, G_onil, G_op, GG_true, GX_val, GX_enter, GP_some, put_lt, wantedG_none, eq_self, tget_set, nbeq, evalO_tmp, evalO_func, oval_eq, cx_move, cx_assign, cx_slice, cx_next, cx_extract, cx_call, xcallv_func, xextract_tuple, cslice_from, xnext_eq, xnextIn_more, List.map_cons, List.map_nil, List.append_nil, List.nil_append, List.getElem?_cons_zero, List.getElem?_cons_succ, Option.map_some, Option.map_none, cond_true, decide_true, if_true, if_false, Nat.reduceEqDiff]
      refine GCall.of has_letter ?_
      rintro v1 H2 ⟨rfl, rfl⟩
      obtain ⟨c, n, hcn⟩ : ∃ c n, letN (l.drop pos) = (c, n) := ⟨_, _, rfl⟩
      rw [hcn]
      dsimp only
      by_cases hz : (n : Int) = 0
      · simp (config := { maxSteps := 1000000 }) (disch := first | assumption | omega | ((repeat (first | rw [n_new] | rw [n_put])) <;> omega) | fail) only [tt25, h2, g2, decide_eq_true hz, G_nil, G_seq, G_cond, GIf_true, G_ret, G_region, G_codeR, G_lpR, G_blkR, G_onil, G_op, GG_true, GX_val, GX_skip, GP_some, put_lt, put_none, wantedG_none, eq_self, Nat.zero_add, tget_set, nbeq, nble, evalO_tmp, evalO_int, oval_eq, oskip_some, get_put_eq, get_put_ne, cx_move, cx_assign, cx_build, cx_store, cx_bin, cx_extract, loadAt_some, loadIn_cells, storeAt_some, storeIn_cells, xextract_tuple, cbin_eql, isJunk, oneC, cbuild, partsV, fillC, splice, takeN, Value.cells, resAll, resOne, tupV2, Outs_ret, OutR_some, List.toList_toArray, List.map_nil, List.all_cons, List.all_nil, List.length_cons, List.length_nil, List.drop_zero, List.head?_cons, List.getElem?_cons_zero, List.getElem?_cons_succ, Option.map_some, cond_true, cond_false, Bool.and_true, Bool.not_true, decide_true, decide_false, if_true, if_false, Nat.reduceAdd, Nat.reduceEqDiff, Nat.reduceLeDiff]
        exact ⟨trivial, _, _, rfl, (by repeat (first | assumption | exact Keep.refl _ | refine Keep.new ?_ _ | refine Keep.put ?_ _ (by first | omega | (simp only [n_new, n_put] <;> omega)))), .inl ⟨by decide, rfl⟩⟩
      · simp (config := { maxSteps := 1000000 }) (disch := first | assumption | omega | ((repeat (first | rw [n_new] | rw [n_put])) <;> omega) | fail) only [h4, decide_eq_false hz, ft19, cc19, G_skip, G_seq, G_cond, GIf_false, G_region, G_onil, G_op, GG_true, GX_val, GX_enter, GP_some, put_lt, wantedG_none, eq_self, tget_set, evalO_tmp, evalO_int, evalO_func, oval_eq, cx_move, cx_assign, cx_bin, cx_extract, cx_call, xcallv_func, xextract_tuple, cbin_eql, List.map_cons, List.map_nil, List.append_nil, List.nil_append, List.getElem?_cons_zero, List.getElem?_cons_succ, if_true, if_false, Nat.reduceEqDiff]
        generalize hH : H1.put (H.n + 1) (CO.siter (bs l) (pos + (Utf8.decode (bs l) pos).snd)) = H3
        have n3 : H3.n = H1.n := by rw [← hH]; rfl
        have q3 : ∀ b, b ≠ H.n + 1 → H3.get b = H1.get b := fun b h => by rw [← hH, get_put_ne h]
        have q9 : H3.get (H.n + 1) = some (.siter (bs l) (pos + (Utf8.decode (bs l) pos).snd)) := by rw [← hH, get_put_eq rfl]
        refine GCall.of has_one ?_
        rintro v1 H4 ⟨b, rfl, hb1, hb2, hg, k4⟩
        simp (config := { maxSteps := 1000000 }) (disch := first | assumption | omega | ((repeat (first | rw [n_new] | rw [n_put])) <;> omega) | fail) only [ft18, cc18, G_op, GG_true, GX_enter, GP_some, put_lt, wantedG_none, eq_self, tget_set, evalO_tmp, evalO_func, cx_call, xcallv_func, List.map_cons, List.map_nil, List.append_nil, List.nil_append, if_true, if_false, Nat.reduceEqDiff]
        refine GCall.of has_set ?_
        rintro v1 H5 ⟨rfl, k5⟩
        simp (config := { maxSteps := 1000000 }) (disch := first | assumption | omega | ((repeat (first | rw [n_new] | rw [n_put])) <;> omega) | fail) only [tt25, tt23, G_op, GG_true, GX_val, GP_some, put_lt, wantedG_none, eq_self, Nat.zero_add, tget_set, nbeq, nble, evalO_tmp, xnewSl_eq, cx_buildSlice, cx_builtin, isJunk, partsV, fillC, elemPl, splice, Value.cells, xbuildSlice, rep, limN, List.toList_toArray, List.map_cons, List.map_nil, List.length_cons, List.length_nil, List.append_nil, cond_true, Bool.and_true, Bool.not_false, decide_true, if_true, if_false, List.size_toArray, Nat.reduceAdd, Nat.reduceEqDiff, Nat.reduceLeDiff, Nat.reduceMul]
        have n4 := k4.le
        have n5 := k5.le
        have hz' : n ≠ 0 := by omega
        have hbs : pos < l.length := hp
        have hwd : (Utf8.decode (bs l) pos).2 = n := by
          have h1 := dec_drop hbs
          unfold letN at hcn
          split at hcn
          · simp only [Prod.mk.injEq] at hcn; omega
          · rw [← h1, hcn]
        have sp' : Spl l (p ++ [(c, n)]) (pos + n) := sp.snoc hbs hcn hz'
        have hle' := sp'.le
        have hpl := sp.len
        have hm5 : ∀ v c, Set1 H1 v c → Set1 H5 v c := by
          rintro v c ⟨bb, h1, h2, h3⟩
          have hne : bb ≠ H.n + 1 := by
            rintro rfl
            rw [g9] at h3; cases h3
          exact ⟨bb, h1, by omega, by rw [k5.get (by omega), k4.get (by omega), q3 _ hne]; exact h3⟩
        have la5 : LAt (H.n + 2) H5 v (p.map Prod.fst) := by
          rcases la with la | ⟨e0, bb, ll, e1, e2, e3, e4, e5⟩
          · exact .inl la
          · exact .inr ⟨e0, bb, ll, e1, e2, by omega, by rw [k5.get (by omega), k4.get (by omega), q3 _ (by omega)]; exact e4, e5.mono hm5⟩
        have g2' : H5.get H.n = some (.cells [.int .i64 0, .slice none 0 0, .slice none 0 0] 25 none 0) := by rw [k5.get (by omega), k4.get (by omega), q3 _ (by omega)]; exact g2
        have g9' : H5.get (H.n + 1) = some (.siter (bs l) (pos + n)) := by rw [k5.get (by omega), k4.get (by omega), q9, hwd]
        have kp5 : Keep H H5 := (Keep.trans (by rw [← hH]; exact kp.put _ (by omega)) k4).trans k5
        have gb' : Set1 H5 (.slice (some ⟨b, 0, none⟩) 1 1) c := ⟨b, rfl, by omega, by rw [k5.get hb2]; exact hg⟩
        obtain ⟨v', H6, ha, la6, n6, q6⟩ := app_letters (N := H.n + 2) (H := H5.new (.cells [.int .i64 2, .slice (some ⟨b, 0, none⟩) 1 1, .slice none 0 0] 25 none 0)) (v := v) (cs := p.map Prod.fst) (bx := H5.n) (b := b) (c := c) (la5.keep ((Keep.refl _).new _)) (by rw [n_new]; omega) (get_new_eq rfl) (gb'.keep ((Keep.refl _).new _)) (by rw [List.length_map]; omega)
        rw [n_new] at n6
        have q6' : ∀ k, k < H5.n → (k < H.n + 2 ∨ ∀ l, H5.get k ≠ some (.cells l 25 (some 3) 0)) → H6.get k = H5.get k := by
          intro k hk hne
          rw [q6 k (by rw [n_new]; omega) (by rw [get_new_ne (by omega)]; exact hne), get_new_ne (by omega)]
        rw [ha]
        simp (config := { maxSteps := 1000000 }) (disch := first | assumption | omega | ((repeat (first | rw [n_new] | rw [n_put])) <;> omega) | fail) only [G_again, G_blkN, G_onil, G_op, GG_true, GX_val, GP_some, put_lt, wantedG_none, eq_self, tget_set, evalO_tmp, cx_assign, if_true, if_false, Nat.reduceEqDiff]
        refine ih (k - n) _ (by omega) ⟨_, H6, p ++ [(c, n)], pos + n, v', rfl, by omega, ?_, ?_, ?_, ?_, by omega, ?_, ?_, sp', ?_, ?_⟩
        · simp (config := { maxSteps := 1000000 }) (disch := first | omega | ((repeat (first | rw [n_new] | rw [n_put])) <;> omega) | fail) only [h0, eq_self, tget_set, if_false, Nat.reduceEqDiff]
        · simp (config := { maxSteps := 1000000 }) (disch := first | omega | ((repeat (first | rw [n_new] | rw [n_put])) <;> omega) | fail) only [h2, eq_self, tget_set, if_false, Nat.reduceEqDiff]
        · simp (config := { maxSteps := 1000000 }) (disch := first | omega | ((repeat (first | rw [n_new] | rw [n_put])) <;> omega) | fail) only [eq_self, tget_set, if_true, if_false, Nat.reduceEqDiff]
        · simp (config := { maxSteps := 1000000 }) (disch := first | omega | ((repeat (first | rw [n_new] | rw [n_put])) <;> omega) | fail) only [h9, eq_self, tget_set, if_false, Nat.reduceEqDiff]
        · rw [q6' _ (by omega) (.inl (by omega)), g2']
        · rw [q6' _ (by omega) (.inl (by omega)), g9']
        · rw [List.map_append]; exact la6
        · exact ⟨by omega, fun {k} hk => by rw [q6' _ (by omega) (.inl (by omega)), kp5.get hk]⟩
    · have hend : pos = l.length := by
        have := sp.le
        have h2 : ¬ pos < l.length := hp
        omega
      subst hend
      rcases la with ⟨e1, rfl⟩ | ⟨e0, bb, ll, rfl, e2, e3, e4, e5⟩
      · simp (config := { maxSteps := 1000000 }) (disch := first | assumption | omega | ((repeat (first | rw [n_new] | rw [n_put])) <;> omega) | fail) only [tt25, tt23, h2, h4, h9, g2, g9, G_nil, G_seq, G_cond, GIf_true, GIf_false, G_block, G_exit, G_ret, G_region, G_codeE, G_codeR, G_lpE, G_blkE, G_blkR, G_onil, G_op, GG_true, GX_val, GX_skip, GP_some, put_lt, put_none, wantedG_none, cast_lit, eq_self, Nat.zero_add, tget_set, nbeq, nble, evalO_tmp, evalO_int, oval_eq, oskip_some, get_put_eq, cx_move, cx_assign, cx_build, cx_store, cx_bin, cx_next, cx_extract, cx_builtin, loadAt_some, loadIn_cells, storeAt_some, storeIn_cells, xextract_tuple, cbin_eql, bi_len, tyAt0, xlen_sl, xnext_eq, xnextIn_end, isJunk, oneC, cbuild, partsV, fillC, splice, takeN, Value.cells, resAll, resOne, tupV2, Outs_ret, OutR_some, List.toList_toArray, List.map_cons, List.map_nil, List.all_cons, List.all_nil, List.length_cons, List.length_nil, List.drop_zero, List.head?_cons, List.getElem?_cons_zero, Option.map_some, cond_true, cond_false, Bool.and_true, Bool.not_true, decide_true, decide_false, if_true, if_false, Nat.reduceAdd, Nat.reduceEqDiff, Nat.reduceLeDiff]
        exact ⟨trivial, _, _, rfl, (by repeat (first | assumption | exact Keep.refl _ | refine Keep.new ?_ _ | refine Keep.put ?_ _ (by first | omega | (simp only [n_new, n_put] <;> omega)))), .inl ⟨by decide, rfl⟩⟩
      · have hpl : (p.map Prod.fst).length = p.length := List.length_map ..
        have hne0 : p ≠ [] := by rintro rfl; exact e0 rfl
        have hn0 : ¬ ((p.length : Nat) : Int) = 0 := by
          have : p.length ≠ 0 := fun h => hne0 (List.eq_nil_of_length_eq_zero h)
          omega
        by_cases h400 : (400 : Int) < ((p.length : Nat) : Int)
        · simp (config := { maxSteps := 1000000 }) (disch := first | assumption | omega | ((repeat (first | rw [n_new] | rw [n_put])) <;> omega) | fail) only [tt25, tt23, h2, h4, h9, g2, g9, hpl, decide_eq_false hn0, decide_eq_true h400, G_nil, G_seq, G_cond, GIf_true, GIf_false, G_block, G_exit, G_ret, G_region, G_codeE, G_codeR, G_lpE, G_blkE, G_blkR, G_onil, G_op, GG_true, GX_val, GX_skip, GP_some, put_lt, put_none, wantedG_none, eq_self, Nat.zero_add, tget_set, nbeq, nble, evalO_tmp, evalO_int, oval_eq, oskip_some, get_put_eq, cx_move, cx_assign, cx_build, cx_store, cx_bin, cx_next, cx_extract, cx_builtin, loadAt_some, loadIn_cells, storeAt_some, storeIn_cells, xextract_tuple, cbin_eql, cbin_gtr, bi_len, tyAt0, xlen_sl, xnext_eq, xnextIn_end, isJunk, oneC, cbuild, partsV, fillC, splice, takeN, Value.cells, resAll, resOne, tupV2, Outs_ret, OutR_some, List.toList_toArray, List.map_cons, List.map_nil, List.all_cons, List.all_nil, List.length_cons, List.length_nil, List.drop_zero, List.head?_cons, List.getElem?_cons_zero, Option.map_some, cond_true, cond_false, Bool.and_true, Bool.not_true, decide_true, decide_false, if_true, if_false, Nat.reduceAdd, Nat.reduceEqDiff, Nat.reduceLeDiff]
          exact ⟨trivial, _, _, rfl, (by repeat (first | assumption | exact Keep.refl _ | refine Keep.new ?_ _ | refine Keep.put ?_ _ (by first | omega | (simp only [n_new, n_put] <;> omega)))), .inl ⟨by decide, rfl⟩⟩
        · simp (config := { maxSteps := 1000000 }) (disch := first | assumption | omega | ((repeat (first | rw [n_new] | rw [n_put])) <;> omega) | fail) only [tt23, h4, h9, g9, hpl, decide_eq_false hn0, decide_eq_false h400, ft20, cc20, G_skip, G_seq, G_cond, GIf_false, G_block, G_exit, G_region, G_codeE, G_lpE, G_blkN, G_blkE, G_onil, G_op, GG_true, GX_val, GX_enter, GP_some, put_lt, wantedG_none, eq_self, tget_set, nbeq, evalO_tmp, evalO_int, evalO_func, oval_eq, cx_move, cx_assign, cx_bin, cx_next, cx_extract, cx_call, cx_builtin, xcallv_func, xextract_tuple, cbin_eql, cbin_gtr, bi_len, tyAt0, xlen_sl, xnext_eq, xnextIn_end, List.map_cons, List.map_nil, List.append_nil, List.nil_append, List.getElem?_cons_zero, cond_true, decide_true, if_true, if_false, Nat.reduceEqDiff]
          refine GCall.of (has_whole (N := H.n + 2) (cs := p.map Prod.fst) (.inr ⟨e0, bb, ll, by rw [hpl], e2, e3, e4, e5⟩) e0) ?_
          rintro x H2 ⟨hx, k2⟩
          have n2 := k2.le
          have g2' : H2.get H.n = some (.cells [.int .i64 0, .slice none 0 0, .slice none 0 0] 25 none 0) := by rw [k2.get (by omega)]; exact g2
          have hfin : ∀ cells, XAt (H2.put H.n cells) x (p.map Prod.fst) := fun cells => (hx.keep k2).put g2'
          have hpost : ∀ cells, PlainPost l H (.tuple #[x, .int .i64 0]) (H2.put H.n cells) := fun cells =>
            ⟨_, _, rfl, (kp.trans k2).put _ (Nat.le_refl _), .inr ⟨rfl, p, sp, hne0, by omega, hfin _⟩⟩
          rcases hx with ⟨c, v, hc, rfl, hv⟩ | ⟨hc, v, rfl, hv⟩
          · obtain ⟨bv, rfl, _⟩ := hv
            simp (config := { maxSteps := 1000000 }) (disch := first | assumption | omega | ((repeat (first | rw [n_new] | rw [n_put])) <;> omega) | fail) only [tt25, h2, g2', G_nil, G_ret, G_onil, G_op, GG_true, GX_val, GX_skip, GP_some, put_lt, put_none, wantedG_none, eq_self, Nat.zero_add, tget_set, nbeq, nble, evalO_tmp, evalO_int, oskip_some, get_put_eq, cx_assign, cx_store, loadAt_some, loadIn_cells, storeAt_some, storeIn_cells, isJunk, oneC, splice, takeN, Value.cells, resAll, resOne, tupV2, Outs_ret, OutR_some, List.toList_toArray, List.all_cons, List.all_nil, List.length_cons, List.length_nil, List.drop_zero, List.head?_cons, Option.map_some, cond_true, cond_false, Bool.and_true, decide_true, if_true, if_false, Nat.reduceAdd, Nat.reduceEqDiff, Nat.reduceLeDiff]
            exact ⟨trivial, hpost _⟩
          · rcases hv with ⟨e, _⟩ | ⟨_, bv, lv, rfl, _⟩
            · exact absurd e e0
            · simp (config := { maxSteps := 1000000 }) (disch := first | assumption | omega | ((repeat (first | rw [n_new] | rw [n_put])) <;> omega) | fail) only [tt25, h2, g2', G_nil, G_ret, G_onil, G_op, GG_true, GX_val, GX_skip, GP_some, put_lt, put_none, wantedG_none, eq_self, Nat.zero_add, tget_set, nbeq, nble, evalO_tmp, evalO_int, oskip_some, get_put_eq, cx_assign, cx_store, loadAt_some, loadIn_cells, storeAt_some, storeIn_cells, isJunk, oneC, splice, takeN, Value.cells, resAll, resOne, tupV2, Outs_ret, OutR_some, List.toList_toArray, List.all_cons, List.all_nil, List.length_cons, List.length_nil, List.drop_zero, List.head?_cons, Option.map_some, cond_true, cond_false, Bool.and_true, decide_true, if_true, if_false, Nat.reduceAdd, Nat.reduceEqDiff, Nat.reduceLeDiff]
              exact ⟨trivial, hpost _⟩
  · refine ⟨_, _, [], 0, _, rfl, rfl, ?_, ?_, rfl, ?_, ?_, ?_, ?_, .nil, .inl ⟨rfl, ?_⟩, ?_⟩
    all_goals first | (simp (config := { maxSteps := 1000000 }) (disch := first | omega | ((repeat (first | rw [n_new] | rw [n_put])) <;> omega) | fail) only [eq_self, tget_set, tget_of1, get_new_eq, get_new_ne, n_new, List.getElem?_cons_zero, List.getElem?_cons_succ, if_true, if_false, Nat.reduceEqDiff, Nat.reduceLeDiff]; done) | (simp only [n_new]; omega) | exact get_new_eq rfl | (rw [get_new_ne (by simp only [n_new]; omega), get_new_eq rfl]; done) | (exact (by repeat (first | assumption | exact Keep.refl _ | refine Keep.new ?_ _ | refine Keep.put ?_ _ (by first | omega | (simp only [n_new, n_put] <;> omega)))))
end
end Go.Proofs
