/- Functions of the program under the statement RexPlain, walked: letters one behind the other (no statement of the program is proved here). -/
import Derived.Test.YtoanfmlpddlcmaaGreatDoorRE
namespace Go.Proofs
open Go Go.PE
noncomputable section
def stepL (S : List UInt8) (c at' : Nat) : Option Nat := if at' < S.length then (if 0 < (letN (S.drop at')).2 ∧ c = (letN (S.drop at')).1 then some (at' + (letN (S.drop at')).2) else none) else none
def oh (n : Nat) : Option Nat → List Bool
  | none => List.replicate n false
  | some p => hot n p
theorem oh_len {n : Nat} {o : Option Nat} : (oh n o).length = n := by cases o <;> simp [oh, hot]
theorem set_same {n i : Nat} : (List.replicate n false).set i false = List.replicate n false := by
  refine List.ext_getElem? fun j => ?_
  rw [List.getElem?_set, List.getElem?_replicate]
  split
  · rename_i h; subst h
    simp only [List.length_replicate]
  · rfl
theorem setF_oh {S : List UInt8} {c at' : Nat} : setF S c at' = oh (S.length + 1) (stepL S c at') := by
  unfold setF stepL
  split
  · by_cases h : 0 < (letN (S.drop at')).2 ∧ c = (letN (S.drop at')).1
    · rw [if_pos h, decide_eq_true h.1, decide_eq_true h.2]; rfl
    · rw [if_neg h]
      have : (decide (0 < (letN (S.drop at')).2) && decide (c = (letN (S.drop at')).1)) = false := by
        cases hb : (decide (0 < (letN (S.drop at')).2) && decide (c = (letN (S.drop at')).1)) with
        | false => rfl
        | true => rw [Bool.and_eq_true, decide_eq_true_eq, decide_eq_true_eq] at hb; exact absurd hb h
      rw [this, set_same]; rfl
  · rfl
theorem orB_false {n : Nat} {g : List Bool} (h : g.length = n) : orB (List.replicate n false) g = g := by
  refine List.ext_getElem? fun j => ?_
  simp only [orB, List.getElem?_zipWith, List.getElem?_replicate]
  by_cases hj : j < n
  · rw [if_pos hj, List.getElem?_eq_getElem (by omega)]; simp
  · rw [if_neg hj, List.getElem?_eq_none (by omega)]
theorem oh_get {n i : Nat} {o : Option Nat} (hi : i < n) : (oh n o)[i]? = some (decide (o = some i)) := by
  cases o with
  | none => simp [oh, hi]
  | some p =>
    simp only [oh, hot, List.getElem?_set, List.length_replicate, Option.some.injEq]
    by_cases h : p = i
    · subst h; simp [hi]
    · rw [if_neg h, List.getElem?_replicate, if_pos hi]; simp [h]
theorem RunP.but {H H' : Hp} {br mk : Nat} {S : List UInt8} {es : List (Value × Value)} (k : KeepBut mk H H') (hm : H.get mk = some (.mp es)) (h : RunP H br mk S) : RunP H' br mk S := by
  obtain ⟨h1, h2⟩ := h
  have : br ≠ mk := by
    rintro rfl
    rw [h1] at hm; cases hm
  exact ⟨by rw [k.get h2 this]; exact h1, Nat.lt_of_lt_of_le h2 k.le⟩
theorem Set1.but {H H' : Hp} {mk c : Nat} {v : Value} {es : List (Value × Value)} (k : KeepBut mk H H') (hm : H.get mk = some (.mp es)) (h : Set1 H v c) : Set1 H' v c := by
  obtain ⟨b, h1, h2, h3⟩ := h
  have : b ≠ mk := by
    rintro rfl
    rw [h3] at hm; cases hm
  exact ⟨b, h1, Nat.lt_of_lt_of_le h2 k.le, by rw [k.get h2 this]; exact h3⟩
theorem LetP.but {H H' : Hp} {mk bk off c : Nat} {es : List (Value × Value)} (k : KeepBut mk H H') (hm : H.get mk = some (.mp es)) (h : LetP H bk off c) : LetP H' bk off c := by
  obtain ⟨h1, l, e, v, h2, h3, h4, h5, h6⟩ := h
  have : bk ≠ mk := by
    rintro rfl
    rw [h2] at hm; cases hm
  exact ⟨Nat.lt_of_lt_of_le h1 k.le, l, e, v, by rw [k.get h1 this]; exact h2, h3, h4, h5, h6.but k hm⟩
theorem LetP.plain {H : Hp} {bk off c : Nat} (h : LetP H bk off c) : plainBlk (H.get bk) = true := by
  obtain ⟨h1, l, e, v, h2, _⟩ := h
  rw [h2]; rfl
theorem Fresh.but {H H' : Hp} {mk bk off : Nat} {es es' : List (Value × Value)} (k : KeepBut mk H H') (hm : H.get mk = some (.mp es')) (h : Fresh H bk off es) : Fresh H' bk off es := by
  intro e he
  obtain ⟨b, o, h1, h2, h3, h4⟩ := h e he
  have : b ≠ mk := by
    rintro rfl
    rw [hm] at h3; cases h3
  exact ⟨b, o, h1, Nat.lt_of_lt_of_le h2 k.le, by rw [k.get h2 this]; exact h3, h4⟩
theorem BAt.but {H H' : Hp} {mk : Nat} {v : Value} {f : List Bool} {es : List (Value × Value)} (k : KeepBut mk H H') (hm : H.get mk = some (.mp es)) (h : BAt H v f) : BAt H' v f := by
  obtain ⟨b, e, h1, h2, h3⟩ := h
  have : b ≠ mk := by
    rintro rfl
    rw [h3] at hm; cases hm
  exact ⟨b, e, h1, Nat.lt_of_lt_of_le h2 k.le, by rw [k.get h2 this]; exact h3⟩
theorem from_letter {H : Hp} {br mk bk off c at' : Nat} {S : List UInt8} {es : List (Value × Value)} (hr : RunP H br mk S) (hm : H.get mk = some (.mp es)) (hmk : mk < H.n) (hl : LetP H bk off c) (hf : Fresh H bk off es) (hS : S.length ≤ 100000) (ha : at' ≤ S.length) :
    Has rE 23 [.pointer (some ⟨br, 0, none⟩), .pointer (some ⟨bk, off, none⟩), .int .i64 (at' : Int)] H fun v H2 => BAt H2 v (oh (S.length + 1) (stepL S c at')) ∧ KeepBut mk H H2 ∧ ∃ es2, H2.get mk = some (.mp es2) ∧ ∃ row, es2 = es ++ [(.pointer (some ⟨bk, off, none⟩), row)] := by
  refine has_from hr hm hmk hl.plain hl.1 hf hS ha fun H1 n1 _ q1 m1 => ?_
  have k1 : KeepBut mk H H1 := ⟨by omega, fun {b} h hn => q1 b h hn⟩
  refine (find_letter (hr.but k1 hm) (hl.but k1 hm) hS ha).mono fun v H2 h => ?_
  rw [← setF_oh]
  exact ⟨h.1, h.2.but, _, by rw [h.2.get (by omega)]; exact m1, _, rfl⟩
set_option maxRecDepth 100000 in
theorem has_beyond {H : Hp} {br mk bk off c : Nat} {S : List UInt8} {es : List (Value × Value)} {p : Value} {o : Option Nat} (hr : RunP H br mk S) (hm : H.get mk = some (.mp es)) (hmk : mk < H.n) (hl : LetP H bk off c) (hf : Fresh H bk off es) (hS : S.length ≤ 100000) (hp : BAt H p (oh (S.length + 1) o)) (hoS : ∀ P, o = some P → P ≤ S.length) :
    Has rE 63 [.pointer (some ⟨br, 0, none⟩), .pointer (some ⟨bk, off, none⟩), p] H fun v H2 => BAt H2 v (oh (S.length + 1) (o.bind (stepL S c))) ∧ KeepBut mk H H2 ∧ ∃ es2, H2.get mk = some (.mp es2) ∧ (es2 = es ∨ ∃ row, es2 = es ++ [(.pointer (some ⟨bk, off, none⟩), row)]) := by
  have hp' := hp
  obtain ⟨bp, ep, rfl, hbp, hgp⟩ := hp
  rw [oh_len] at *
  refine Has.of (rans_none (by decide) (by decide)) ft63 rfl (Nat.le_of_ble_eq_true rfl) ?_
  simp (config := { maxSteps := 1000000 }) (disch := first | omega | ((repeat (first | rw [n_new] | rw [n_put])) <;> omega) | fail) only [Tryz.f63, tt53, G_seq, G_region, G_onil, G_op, GG_true, GX_val, GP_some, put_lt, wantedG_none, eq_self, Nat.zero_add, tget_set, tget_of3, nbeq, evalO_tmp, evalO_nsl, cx_move, cx_assign, cx_makeSlice, cx_builtin, bi_len, tyAt0, xlen_sl, List.toList_toArray, List.map_cons, List.map_nil, List.length_cons, List.length_nil, List.getElem?_cons_zero, List.getElem?_cons_succ, cond_true, decide_true, if_true, if_false, Nat.reduceAdd, Nat.reduceEqDiff]
  rw [mk_sl rfl tt4 rfl rfl rfl (by show (S.length + 1) * 2 ≤ 16777216; omega) (by rw [bytes4]; show (S.length + 1) * 1 ≤ 16777216; omega)]
  simp (config := { maxSteps := 1000000 }) (disch := first | omega | ((repeat (first | rw [n_new] | rw [n_put])) <;> omega) | fail) only [tt53, G_seq, G_block, G_region, G_onil, G_op, GG_true, GX_val, GP_some, put_lt, wantedG_none, eq_self, tget_set, tget_of3, nbeq, evalO_tmp, evalO_int, cx_move, cx_assign, cx_builtin, bi_len, tyAt0, xlen_sl, List.map_cons, List.map_nil, List.getElem?_cons_zero, List.getElem?_cons_succ, cond_true, decide_true, if_true, if_false, Nat.reduceEqDiff]
  refine G_loop_ind (fun k s => ∃ tm H2 i out, s = ⟨tm, [], H2⟩ ∧ k + i = S.length + 1 ∧ tget tm 0 = .pointer (some ⟨br, 0, none⟩) ∧ tget tm 1 = .pointer (some ⟨bk, off, none⟩) ∧ tget tm 7 = out ∧ tget tm 13 = .slice (some ⟨bp, 0, none⟩) (S.length + 1) (S.length + 1) ∧
    tget tm 14 = .int .i64 ((S.length + 1 : Nat) : Int) ∧ tget tm 15 = .int .i64 ((i : Nat) : Int) ∧ KeepBut mk H H2 ∧
    (((∀ P, o = some P → i ≤ P) ∧ BAt H2 out (List.replicate (S.length + 1) false) ∧ H2.get mk = some (.mp es)) ∨
     (∃ P, o = some P ∧ P < i ∧ BAt H2 out (oh (S.length + 1) (stepL S c P)) ∧ ∃ row, H2.get mk = some (.mp (es ++ [(.pointer (some ⟨bk, off, none⟩), row)]))))) ?_ (S.length + 1) _ ?_
  · rintro k ih s ⟨tm, H2, i, out, rfl, hk, h0, h1, h7, h13, h14, h15, k2, hI⟩
    by_cases hi : (i : Int) < ((S.length + 1 : Nat) : Int)
    · have hi' : i < S.length + 1 := by omega
      have gp2 : H2.get bp = some (.cells ((oh (S.length + 1) o).map .bool) 4 ep 0) := by
        rw [k2.get hbp (by rintro rfl; rw [hm] at hgp; cases hgp)]; exact hgp
      have hpi : ((oh (S.length + 1) o).map Value.bool)[i]? = some (.bool (decide (o = some i))) := by rw [List.getElem?_map, oh_get hi']; rfl
      generalize hrow : (oh (S.length + 1) o).map Value.bool = row at *
      by_cases ho : o = some i
      · rcases hI with ⟨_, hout, hm2⟩ | ⟨P, hP, hlt, _⟩
        · rw [decide_eq_true ho] at hpi
          simp (config := { maxSteps := 1000000 }) (disch := first | omega | ((repeat (first | rw [n_new] | rw [n_put])) <;> omega) | fail) only [tt53, tt4, h0, h1, h7, h13, h14, h15, decide_eq_true hi, gp2, hpi, ft23, cc23, G_skip, G_seq, G_cond, GIf_true, G_block, G_region, G_onil, G_op, GG_true, GX_val, GX_enter, GP_some, put_lt, wantedG_none, eq_self, Nat.zero_add, tget_set, nbeq, evalO_tmp, evalO_func, oval_eq, cx_move, cx_assign, cx_load, cx_bin, cx_indexAddr, cx_call, xcallv_func, loadAt_some, loadIn_cells, xindexAddr_some, natOf_nat, xidx_sl, cbin_lss, List.map_cons, List.map_nil, List.append_nil, List.nil_append, List.head?_drop, Nat.mul_one, cond_true, cond_false, decide_true, if_true, if_false, Nat.reduceEqDiff]
          refine GCall.of (from_letter (hr.but k2 hm) hm2 (Nat.lt_of_lt_of_le hmk k2.le) (hl.but k2 hm) (hf.but k2 hm) hS (by omega)) ?_
          rintro v H3 ⟨hv, k3, es3, hm3, row3, rfl⟩
          simp (config := { maxSteps := 1000000 }) (disch := first | omega | ((repeat (first | rw [n_new] | rw [n_put])) <;> omega) | fail) only [ft64, cc64, G_op, GG_true, GX_enter, GP_some, put_lt, wantedG_none, eq_self, tget_set, evalO_tmp, evalO_func, cx_call, xcallv_func, List.map_cons, List.map_nil, List.append_nil, List.nil_append, if_true, if_false, Nat.reduceEqDiff]
          refine GCall.of (has_join (hout.but k3 hm2) hv (by rw [oh_len, List.length_replicate]) (by rw [List.length_replicate]; omega) (by rw [List.length_replicate]; omega)) ?_
          rintro u H4 ⟨hu, k4⟩
          rw [orB_false oh_len] at hu
          simp (config := { maxSteps := 1000000 }) (disch := first | omega | ((repeat (first | rw [n_new] | rw [n_put])) <;> omega) | fail) only [h15, G_again, G_region, G_blkN, G_onil, G_op, GG_true, GX_val, GP_some, put_lt, wantedG_none, eq_self, tget_set, evalO_tmp, evalO_int, oval_eq, cx_move, cx_assign, cx_bin, cbin_add, wrap_nat_add1, if_true, if_false, Nat.reduceEqDiff]
          refine ih (k - 1) _ (by omega) ⟨_, H4, i + 1, u, rfl, by omega, ?_, ?_, ?_, ?_, ?_, ?_, (k2.trans k3).trans k4.but, .inr ⟨i, ho, by omega, hu, row3, ?_⟩⟩
          all_goals first | (simp (config := { maxSteps := 1000000 }) (disch := first | omega | ((repeat (first | rw [n_new] | rw [n_put])) <;> omega) | fail) only [h0, h1, h13, h14, h15, eq_self, tget_set, if_true, if_false, Nat.reduceEqDiff]; done) | skip
          rw [k4.get (Nat.lt_of_lt_of_le hmk (k2.trans k3).le)]; exact hm3
        · rw [hP] at ho; cases ho; omega
      · rw [decide_eq_false ho] at hpi
        simp (config := { maxSteps := 1000000 }) (disch := first | omega | ((repeat (first | rw [n_new] | rw [n_put])) <;> omega) | fail) only [tt53, tt4, h13, h14, h15, decide_eq_true hi, gp2, hpi, G_skip, G_seq, G_cond, GIf_true, GIf_false, G_block, G_again, G_region, G_blkN, G_onil, G_op, GG_true, GX_val, GP_some, put_lt, wantedG_none, eq_self, Nat.zero_add, tget_set, nbeq, evalO_tmp, evalO_int, oval_eq, cx_move, cx_assign, cx_load, cx_bin, cx_indexAddr, loadAt_some, loadIn_cells, xindexAddr_some, natOf_nat, xidx_sl, cbin_add, cbin_lss, wrap_nat_add1, List.head?_drop, Nat.mul_one, cond_true, cond_false, decide_true, if_true, if_false, Nat.reduceEqDiff]
        refine ih (k - 1) _ (by omega) ⟨_, H2, i + 1, out, rfl, by omega, ?_, ?_, ?_, ?_, ?_, ?_, k2, ?_⟩
        all_goals first | (simp (config := { maxSteps := 1000000 }) (disch := first | omega | ((repeat (first | rw [n_new] | rw [n_put])) <;> omega) | fail) only [h0, h1, h7, h13, h14, h15, eq_self, tget_set, if_true, if_false, Nat.reduceEqDiff]; done) | skip
        rcases hI with ⟨hA, hout, hm2⟩ | ⟨P, hP, hlt, hx⟩
        · refine .inl ⟨fun P hP => ?_, hout, hm2⟩
          have := hA P hP
          have : P ≠ i := by rintro rfl; exact ho hP
          omega
        · exact .inr ⟨P, hP, by omega, hx⟩
    · simp (config := { maxSteps := 1000000 }) (disch := first | omega | ((repeat (first | rw [n_new] | rw [n_put])) <;> omega) | fail) only [h7, h14, h15, decide_eq_false hi, G_nil, G_seq, G_cond, GIf_false, G_exit, G_ret, G_region, G_codeE, G_lpE, G_blkE, G_onil, G_op, GG_true, GX_val, GP_some, put_lt, wantedG_none, eq_self, tget_set, evalO_tmp, oval_eq, cx_move, cx_assign, cx_bin, cbin_lss, resAll, resOne, tupV1, Outs_ret, OutR_some, if_true, if_false, Nat.reduceEqDiff]
      rcases hI with ⟨hA, hout, hm2⟩ | ⟨P, hP, hlt, hx, row, hm2⟩
      · cases o with
        | none => exact ⟨trivial, hout, k2, _, hm2, .inl rfl⟩
        | some P =>
          exfalso
          have h1 := hA P rfl
          have h2 := hoS P rfl
          omega
      · subst hP
        exact ⟨trivial, hx, k2, _, hm2, .inr ⟨row, rfl⟩⟩
  · refine ⟨_, _, 0, _, rfl, rfl, ?_, ?_, rfl, ?_, ?_, ?_, ((Keep.refl H).new _).but, .inl ⟨fun _ _ => Nat.zero_le _, ?_, ?_⟩⟩
    all_goals first | (simp (config := { maxSteps := 1000000 }) (disch := first | omega | ((repeat (first | rw [n_new] | rw [n_put])) <;> omega) | fail) only [cast_lit, eq_self, tget_set, tget_of3, get_new_ne, List.getElem?_cons_zero, List.getElem?_cons_succ, if_true, if_false, Nat.reduceEqDiff]; done) | skip
    · simp (config := { maxSteps := 1000000 }) (disch := first | omega | ((repeat (first | rw [n_new] | rw [n_put])) <;> omega) | fail) only [eq_self, tget_set, tget_of3, List.getElem?_cons_succ, if_true, if_false, Nat.reduceEqDiff]
      exact ⟨H.n, none, by rw [List.length_replicate], Nat.lt_succ_self _, by rw [get_new_eq rfl, List.map_replicate]⟩
    · rw [get_new_ne (by omega)]; exact hm
end
end Go.Proofs
