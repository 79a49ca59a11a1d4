/- Functions of the program under the statement RexPlain, walked: what is known of an expression's parts (no statement of the program is proved here). -/
import Derived.Test.YtoanfmlpddlcmaaGreatDoorRD
namespace Go.Proofs
open Go Go.PE
noncomputable section
structure KeepBut (mk : Nat) (H H' : Hp) : Prop where
  le : H.n ≤ H'.n
  get : ∀ {b : Nat}, b < H.n → b ≠ mk → H'.get b = H.get b
theorem _root_.Go.PE.Keep.but {mk : Nat} {H H' : Hp} (k : Keep H H') : KeepBut mk H H' := ⟨k.le, fun h _ => k.get h⟩
theorem KeepBut.trans {mk : Nat} {H1 H2 H3 : Hp} (a : KeepBut mk H1 H2) (b : KeepBut mk H2 H3) : KeepBut mk H1 H3 := ⟨Nat.le_trans a.le b.le, fun h hn => by rw [b.get (Nat.lt_of_lt_of_le h a.le) hn, a.get h hn]⟩
/-- keys that are all other ones -/
def Fresh (H : Hp) (bk off : Nat) (es : List (Value × Value)) : Prop := ∀ e ∈ es, ∃ b o, e.1 = .pointer (some ⟨b, o, none⟩) ∧ b < H.n ∧ plainBlk (H.get b) = true ∧ ¬ (b = bk ∧ o = off)
theorem find_fresh {H : Hp} {bk off : Nat} (hp : plainBlk (H.get bk) = true) : ∀ {es : List (Value × Value)} {i : Nat}, Fresh H bk off es → findIdx H (.pointer (some ⟨bk, off, none⟩)) es i = some none
  | [], _, _ => rfl
  | (k, v) :: es, i, hf => by
    obtain ⟨b, o, h1, _, h2, h3⟩ := hf (k, v) (by simp)
    simp only at h1
    subst h1
    have hd : decide ((⟨bk, off, none⟩ : Addr) = ⟨b, o, none⟩) = false := by
      apply decide_eq_false
      intro e
      simp only [Addr.mk.injEq, and_true] at e
      exact h3 ⟨e.1.symm, e.2.symm⟩
    simp only [findIdx, keyEq, PE.ptrEq, hp, h2, Bool.and_self, cond_true, hd]
    exact find_fresh hp fun e he => hf e (List.mem_cons_of_mem _ he)
theorem keyFits55 {bk off : Nat} : keyFits rE (.pointer (some ⟨bk, off, none⟩)) (rE.tt.get 55) = true := by
  rw [tt55]
  simp only [keyFits, keyKind, tt25]; rfl
theorem lookup_fresh {H : Hp} {mk bk off : Nat} {es : List (Value × Value)} {ti : TI} (h46 : rE.tt.get 46 = some ti) (hm : H.get mk = some (.mp es)) (hp : plainBlk (H.get bk) = true) (hf : Fresh H bk off es) :
    xlookup rE (.map (some mk)) (.pointer (some ⟨bk, off, none⟩)) false H (some ti) = some (.val (.slice none 0 0), H) := by
  rw [tt46] at h46; cases h46
  simp only [xlookup, keyFits55, mapOf, hm, mapIn, tt80, findKey, find_fresh hp hf, Bool.and_true]
  rfl
theorem update_fresh {H : Hp} {mk bk off : Nat} {es : List (Value × Value)} {v : Value} {ti : TI} (h46 : rE.tt.get 46 = some ti) (hm : H.get mk = some (.mp es)) (hp : plainBlk (H.get bk) = true) (hf : Fresh H bk off es) :
    xmapUpdate rE (.pointer (some ⟨bk, off, none⟩)) v H (some ti) (.map (some mk)) = some (.skip, H.put mk (.mp (es ++ [(.pointer (some ⟨bk, off, none⟩), v)]))) := by
  rw [tt46] at h46; cases h46
  simp only [xmapUpdate, keyFits55, hm, mapIn, putKey, find_fresh hp hf, Bool.and_true]
  rfl
/-- what a row of the table looks like when it is new -/
def newRow (n : Nat) : CO := .cells (List.replicate n (.slice none 0 0)) 53 none 0
def rowV (b n : Nat) : Value := .slice (some ⟨b, 0, none⟩) n n
set_option maxRecDepth 100000 in
theorem has_from {H : Hp} {br mk bk off at' : Nat} {S : List UInt8} {es : List (Value × Value)} {f : List Bool} {M : List (Value × Value) → Prop} (hr : RunP H br mk S) (hm : H.get mk = some (.mp es)) (hmk : mk < H.n) (hp : plainBlk (H.get bk) = true) (hbk : bk < H.n) (hf : Fresh H bk off es) (hS : S.length ≤ 100000) (ha : at' ≤ S.length)
    (hfind : ∀ H1, H1.n = H.n + 1 → H1.get H.n = some (newRow (S.length + 1)) → (∀ b, b < H.n → b ≠ mk → H1.get b = H.get b) → H1.get mk = some (.mp (es ++ [(.pointer (some ⟨bk, off, none⟩), rowV H.n (S.length + 1))])) →
      Has rE 46 [.pointer (some ⟨br, 0, none⟩), .pointer (some ⟨bk, off, none⟩), .int .i64 (at' : Int)] H1 fun v H2 => BAt H2 v f ∧ KeepBut mk H1 H2 ∧ ∃ es2, H2.get mk = some (.mp es2) ∧ M es2) :
    Has rE 23 [.pointer (some ⟨br, 0, none⟩), .pointer (some ⟨bk, off, none⟩), .int .i64 (at' : Int)] H fun v H2 => BAt H2 v f ∧ KeepBut mk H H2 ∧ ∃ es2, H2.get mk = some (.mp es2) ∧ M es2 := by
  obtain ⟨hr, hbr⟩ := hr
  have hbm : br ≠ mk := by
    rintro rfl
    rw [hr] at hm; cases hm
  refine Has.of (rans_none (by decide) (by decide)) ft23 rfl (Nat.le_of_ble_eq_true rfl) ?_
  simp (config := { maxSteps := 1000000 }) (disch := first | omega | ((repeat (first | rw [n_new] | rw [n_put])) <;> omega) | fail) only [Tryz.f23, tt48, tt9, tt46, tt80, hr, lookup_fresh tt46 hm hp hf, G_seq, G_cond, GIf_true, G_region, G_onil, G_op, GG_true, GX_val, GP_some, put_lt, wantedG_none, eq_self, Nat.zero_add, tget_set, tget_of3, nbeq, evalO_tmp, evalO_int, evalO_nsl, oval_eq, cx_move, cx_assign, cx_load, cx_nilCheck, cx_bin, cx_makeSlice, cx_fieldAddr, cx_lookup, cx_builtin, xnil_ptr, loadAt_some, loadIn_cells, xfieldAddr_some, xfa_some, cbin_add, wrap_nat_add1, bi_len, tyAt0, xlen_str, takeN, eqnil80, List.toList_toArray, List.map_cons, List.map_nil, List.length_cons, List.length_nil, List.drop_zero, List.drop_succ_cons, List.head?_cons, Nat.add_zero, List.getElem?_cons_zero, List.getElem?_cons_succ, Option.map_some, cond_true, cond_false, decide_true, decide_false, if_true, if_false, Nat.reduceAdd, Nat.reduceEqDiff]
  rw [mk_sl rfl tt53 rfl rfl rfl (by show (S.length + 1) * 2 ≤ 16777216; omega) (by rw [bytes53]; show (S.length + 1) * 24 ≤ 16777216; omega)]
  have hpn : ∀ {b : Nat} {o : CO}, b < H.n → plainBlk (H.get b) = true → plainBlk ((H.new o).get b) = true := fun hb h => by rw [get_new_ne (by omega)]; exact h
  have hfn : ∀ o, Fresh (H.new o) bk off es := by
    intro o e he
    obtain ⟨b, o', h1, hb, h2, h3⟩ := hf e he
    exact ⟨b, o', h1, Nat.lt_succ_of_lt hb, hpn hb h2, h3⟩
  have hmn : ∀ o, (H.new o).get mk = some (.mp es) := fun o => by rw [get_new_ne (by omega)]; exact hm
  have hrp : (List.replicate (S.length + 1) (Value.slice none 0 0))[at']? = some (.slice none 0 0) := by rw [List.getElem?_replicate, if_pos (by omega)]
  simp (config := { maxSteps := 1000000 }) (disch := first | omega | ((repeat (first | rw [n_new] | rw [n_put])) <;> omega) | fail) only [tt48, tt53, tt46, tt80, hr, hrp, ft46, cc46, update_fresh tt46 (hmn _) (hpn hbk hp) (hfn _), G_seq, G_cond, GIf_true, G_region, G_onil, G_op, GG_true, GX_val, GX_skip, GX_enter, GP_some, put_lt, put_none, wantedG_none, eq_self, Nat.zero_add, tget_set, tget_of3, nbeq, evalO_tmp, evalO_nsl, evalO_func, oval_eq, get_put_ne, get_new_eq, get_new_ne, cx_move, cx_assign, cx_load, cx_nilCheck, cx_bin, cx_fieldAddr, cx_indexAddr, cx_mapUpdate, cx_call, xcallv_func, xnil_ptr, loadAt_some, loadIn_cells, xfieldAddr_some, xfa_some, xindexAddr_some, natOf_nat, xidx_sl, takeN, eqnil53, List.map_cons, List.map_nil, List.append_nil, List.nil_append, List.drop_zero, List.drop_succ_cons, List.head?_cons, List.head?_drop, Nat.mul_one, List.getElem?_cons_zero, List.getElem?_cons_succ, Option.map_some, cond_true, cond_false, decide_true, decide_false, if_true, if_false, Nat.reduceEqDiff]
  refine GCall.of (hfind _ (by rfl) ?_ ?_ ?_) ?_
  · rw [get_put_ne (by omega)]; exact get_new_eq rfl
  · intro b hb hne
    rw [get_put_ne hne, get_new_ne (by omega)]
  · rw [get_put_eq rfl]; rfl
  rintro v H2 ⟨⟨b, eb, rfl, hbb, hgb⟩, k2, es2, hm2, hM⟩
  have n2 := k2.le
  simp only [n_put, n_new] at n2
  have g2 : H2.get H.n = some (newRow (S.length + 1)) := by
    rw [k2.get (by rw [n_put, n_new]; omega) (by omega), get_put_ne (by omega)]; exact get_new_eq rfl
  have hne : b ≠ H.n := by
    rintro rfl
    rw [g2] at hgb; simp [newRow] at hgb
  have hnm : b ≠ mk := by
    rintro rfl
    rw [hm2] at hgb; cases hgb
  unfold newRow at g2
  simp (config := { maxSteps := 1000000 }) (disch := first | omega | ((repeat (first | rw [n_new] | rw [n_put])) <;> omega) | fail) only [tt53, tt80, g2, G_op, GG_true, GX_val, GP_some, put_lt, wantedG_none, eq_self, Nat.zero_add, tget_set, tget_of3, nbeq, nble, evalO_tmp, cx_store, cx_indexAddr, storeAt_some, storeIn_cells, xindexAddr_some, natOf_nat, xidx_sl, isJunk, oneC, Value.cells, List.toList_toArray, List.all_cons, List.all_nil, List.length_cons, List.length_nil, Nat.mul_one, List.getElem?_cons_succ, cond_true, cond_false, Bool.and_true, decide_true, if_true, if_false, Nat.reduceEqDiff, Nat.reduceLeDiff]
  rw [splice_one (by rw [List.length_replicate]; omega)]
  have hrs : ∀ v : Value, ((List.replicate (S.length + 1) (Value.slice none 0 0)).set at' v)[at']? = some v := fun v => by rw [List.getElem?_set_self (by rw [List.length_replicate]; omega)]
  simp (config := { maxSteps := 1000000 }) (disch := first | omega | ((repeat (first | rw [n_new] | rw [n_put])) <;> omega) | fail) only [tt53, tt80, hrs, G_nil, G_seq, G_ret, G_region, G_onil, G_op, GG_true, GX_val, GX_skip, GP_some, put_lt, put_none, wantedG_none, eq_self, Nat.zero_add, tget_set, tget_of3, nbeq, evalO_tmp, oval_eq, oskip_some, get_put_eq, get_put_ne, cx_move, cx_assign, cx_load, cx_indexAddr, loadAt_some, loadIn_cells, xindexAddr_some, natOf_nat, xidx_sl, resAll, resOne, tupV1, Outs_ret, OutR_some, List.head?_drop, Nat.mul_one, List.getElem?_cons_zero, List.getElem?_cons_succ, Option.map_some, cond_true, cond_false, decide_true, if_true, if_false, Nat.reduceEqDiff]
  refine ⟨trivial, ⟨b, eb, rfl, by rw [n_put]; exact hbb, by rw [get_put_ne hne]; exact hgb⟩, ⟨by rw [n_put]; omega, fun {k} hk hkm => ?_⟩, es2, hm2, hM⟩
  rw [get_put_ne (by omega), k2.get (by rw [n_put, n_new]; omega) hkm, get_put_ne hkm, get_new_ne (by omega)]
end
end Go.Proofs
