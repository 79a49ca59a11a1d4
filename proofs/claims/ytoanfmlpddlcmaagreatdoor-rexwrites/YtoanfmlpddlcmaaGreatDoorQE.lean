/- Sets of letters that lie in memory: whether two are the same (no statement of the program is proved here). -/
import Derived.Test.YtoanfmlpddlcmaaGreatDoorQD
namespace Go.Proofs
open Go Go.PE
noncomputable section
variable {ans : Tr (List Value → Option Value)} {eff : Tr (List Value → Hp → Option (Value × Hp))}
theorem pureRun_bind {α β : Type} (P : Program) (s : Sem α) (f : α → Sem β) : pureRun P (s >>= f) = (pureRun P s).bind fun a => pureRun P (f a) := by
  show pureRun P (Sem.bind s f) = _
  induction s with
  | pure a => rfl
  | program k ih => simp only [Sem.bind, pureRun]; exact ih P
  | _ => rfl
theorem pureRun_pure {α : Type} (P : Program) (a : α) : pureRun P (pure a) = some a := rfl
theorem pureRun_program (P : Program) : pureRun P program = some P := rfl
theorem pr_eq62 {a b c d : Int} : pureRun Tryz.prog (Op.equal 62 (.agg #[.int .i64 a, .int .i64 b]) (.agg #[.int .i64 c, .int .i64 d])) = some ((a == c) && (b == d)) := by
  have hi : ∀ (n : Nat) (x y : Int), pureRun Tryz.prog (Op.equalIn (n + 1) 3 (.int .i64 x) (.int .i64 y)) = some (x == y) := by
    intro n x y
    show pureRun Tryz.prog (underlying 3 >>= _) = _
    rw [pureRun_bind]
    have : pureRun Tryz.prog (underlying 3) = some (.int .i64) := by kernel_rfl
    rw [this]
    rfl
  have hp0 : ∀ (x y : Int), pureRun Tryz.prog (part 3 #[.int .i64 x, .int .i64 y] 0) = some (.int .i64 x) := by intro x y; kernel_rfl
  have hp1 : ∀ (x y : Int), pureRun Tryz.prog (part 3 #[.int .i64 x, .int .i64 y] 1) = some (.int .i64 y) := by intro x y; kernel_rfl
  show pureRun Tryz.prog (Op.equalIn (9998 + 1 + 1) 62 _ _) = _
  rw [Op.equalIn]
  rw [pureRun_bind]
  have : pureRun Tryz.prog (underlying 62) = some (.struct #[{ name := "Lo", type := 3, offset := 0, embedded := false, tag := "", pkgPath := "", byteOffset := 0 }, { name := "Hi", type := 3, offset := 1, embedded := false, tag := "", pkgPath := "", byteOffset := 8 }]) := by kernel_rfl
  rw [this]
  simp only [Option.bind_some, pureRun_bind, pureRun_program]
  have h2 : Tryz.prog.stoodInHeld 62 = false := by kernel_rfl
  rw [h2]
  simp [pureRun_bind, hi, hp0]
  by_cases h : a = c <;> by_cases h2 : b = d <;> simp [h, h2, pureRun_bind, pureRun_pure, hi, hp1]
theorem cbin_neq62 {H : Hp} {x y : Operand} {a b c d : Int} : cbin (tE ans eff) .neq 62 x y H (.agg #[.int .i64 a, .int .i64 b]) (.agg #[.int .i64 c, .int .i64 d]) = some (.bool (!(a == c && b == d))) := by
  show cbinS (tE ans eff) .neq 62 x y (.agg #[.int .i64 a, .int .i64 b]) (.agg #[.int .i64 c, .int .i64 d]) H = _
  have h1 : (flat' (.agg #[.int .i64 a, .int .i64 b]) && flat' (.agg #[.int .i64 c, .int .i64 d])) = true := rfl
  rw [cbinS, h1, cond_true]
  have hg : pureRun (tE ans eff).P (eqGuard .neq 62 x y (.agg #[.int .i64 a, .int .i64 b]) (.agg #[.int .i64 c, .int .i64 d])) = some () := by kernel_rfl
  have hP : (tE ans eff).P = Tryz.prog := by kernel_rfl
  have hbo : binOp .neq 62 (.agg #[.int .i64 a, .int .i64 b]) (.agg #[.int .i64 c, .int .i64 d]) = (Op.equal 62 (.agg #[.int .i64 a, .int .i64 b]) (.agg #[.int .i64 c, .int .i64 d]) >>= fun r => pure (.bool (!r))) := rfl
  have hb : pureRun (tE ans eff).P (binOp .neq 62 (.agg #[.int .i64 a, .int .i64 b]) (.agg #[.int .i64 c, .int .i64 d])) = some (.bool (!(a == c && b == d))) := by
    rw [hP, hbo, pureRun_bind, pr_eq62]; rfl
  rw [pureV, pureRun_bind, hg, Option.bind_some, hb]; rfl
/-! ### sets in memory -/
def flatP (l : List (Int × Int)) : List Value := (l.map pairC).flatten
theorem flatP_cons {p : Int × Int} {l : List (Int × Int)} : flatP (p :: l) = .int .i64 p.1 :: .int .i64 p.2 :: flatP l := rfl
theorem flatP_len : ∀ {l : List (Int × Int)}, (flatP l).length = l.length * 2
  | [] => rfl
  | p :: l => by rw [flatP_cons, List.length_cons, List.length_cons, flatP_len (l := l), List.length_cons]; omega
theorem flatP_drop : ∀ {l : List (Int × Int)} {i : Nat}, (flatP l).drop (i * 2) = flatP (l.drop i)
  | l, 0 => rfl
  | [], i + 1 => by simp [flatP]
  | p :: l, i + 1 => by rw [flatP_cons, Nat.succ_mul]; exact flatP_drop (l := l) (i := i)
theorem flatP_append {l m : List (Int × Int)} : flatP (l ++ m) = flatP l ++ flatP m := by simp [flatP]
/-- a slice whose elements are the pairs of a list -/
def StA (H : Hp) (v : Value) (l : List (Int × Int)) : Prop := ∃ a c, v = .slice a l.length c ∧ l.length ≤ 9223372036854775807 ∧ (l = [] ∨ ∃ b ty es fl rest, a = some ⟨b, 0, none⟩ ∧ b < H.n ∧ H.get b = some (.cells (flatP l ++ rest) ty es fl))
theorem StA.mono {H H' : Hp} (k : Keep H H') {v : Value} {l : List (Int × Int)} (h : StA H v l) : StA H' v l := by
  obtain ⟨a, c, h1, h2, h3⟩ := h
  refine ⟨a, c, h1, h2, h3.imp id ?_⟩
  rintro ⟨b, ty, es, fl, rest, h4, h5, h6⟩
  exact ⟨b, ty, es, fl, rest, h4, Nat.lt_of_lt_of_le h5 k.le, by rw [k.get h5]; exact h6⟩
theorem StA.of {H : Hp} {v : Value} {l : List (Int × Int)} (h : SlAt 2 anyP H v (l.map pairC)) : StA H v l := by
  rcases h with ⟨h0, h⟩ | ⟨_, b, ty, h1, h2, h3, h4, _⟩
  · have : l = [] := by simpa using h0
    subst this
    rcases h with rfl | ⟨b, off, rfl⟩
    · exact ⟨_, _, rfl, by decide, .inl rfl⟩
    · exact ⟨_, _, rfl, by decide, .inl rfl⟩
  · rw [List.length_map] at h1 h4
    exact ⟨_, _, h1, h4, .inr ⟨b, ty, _, _, [], rfl, h2, by rw [List.append_nil]; exact h3⟩⟩
theorem _root_.Go.PE.SlAt.lenP {H : Hp} {v : Value} {l : List (Int × Int)} (h : SlAt 2 anyP H v (l.map pairC)) : ∃ a, v = .slice a l.length l.length ∧ l.length ≤ 9223372036854775807 := by
  have := h.len
  rw [List.length_map] at this; exact this
theorem RX.shape {H : Hp} {x : RexT} {e0 e1 e2 : Value} (h : RX H x [e0, e1, e2]) : ∃ a n b m, e0 = .int .i64 x.op ∧ e1 = .slice a n n ∧ e2 = .slice b m m := by
  cases x with
  | node op set subs =>
    unfold RX at h
    obtain ⟨sv, bv, els, h1, h2, h3, _⟩ := h
    cases h1
    obtain ⟨a, rfl, _⟩ := h2.len
    obtain ⟨b, rfl, _⟩ := h3.len
    exact ⟨_, _, _, _, rfl, rfl, rfl⟩
theorem StA.elem {H : Hp} {a : Option Addr} {n c : Nat} {l : List (Int × Int)} {i : Nat} {p : Int × Int} (h : StA H (.slice a n c) l) (hi : l[i]? = some p) : ∃ b cs ty es fl r, a = some ⟨b, 0, none⟩ ∧ b < H.n ∧ H.get b = some (.cells cs ty es fl) ∧ cs.drop (i * 2) = .int .i64 p.1 :: .int .i64 p.2 :: r := by
  obtain ⟨a', c', h1, h2, rfl | ⟨b, ty, es, fl, rest, h4, h5, h6⟩⟩ := h
  · simp at hi
  · cases h1
    have hlt := (List.getElem?_eq_some_iff.1 hi).1
    have hd : l.drop i = p :: l.drop (i + 1) := by
      rw [List.drop_eq_getElem_cons hlt, (List.getElem?_eq_some_iff.1 hi).2]
    refine ⟨b, _, ty, es, fl, flatP (l.drop (i + 1)) ++ rest, h4, h5, h6, ?_⟩
    rw [List.drop_append_of_le_length (by rw [flatP_len]; omega), flatP_drop, hd, flatP_cons]; rfl
theorem drop_at {α : Type} {l : List α} {i : Nat} (h : i < l.length) : ∃ p, l[i]? = some p ∧ l.drop i = p :: l.drop (i + 1) := ⟨l[i], List.getElem?_eq_getElem h, List.drop_eq_getElem_cons h⟩
set_option maxRecDepth 100000 in
set_option maxHeartbeats 8000000 in
theorem has_same32 (hn : (tE ans eff).ans.get 32 = none ∧ (tE ans eff).eff.get 32 = none) {H : Hp} {v w : Value} {l m : List (Int × Int)} (hv : StA H v l) (hw : StA H w m) : Has (tE ans eff) 32 [v, w] H fun r H' => r = .bool (decide (l = m)) ∧ Keep H H' := by
  obtain ⟨a, c, rfl, hl, _⟩ := id hv
  obtain ⟨a', c', rfl, hm, _⟩ := id hw
  refine Has.of hn ft32 rfl (Nat.le_of_ble_eq_true rfl) ?_
  by_cases hlm : (l.length : Int) = (m.length : Int)
  · simp (config := { maxSteps := 1000000 }) (disch := first | omega | ((repeat (first | rw [n_new] | rw [n_put])) <;> omega) | fail) only [Tryz.f32, tt22, decide_eq_true hlm, G_skip, G_seq, G_cond, GIf_false, G_block, G_region, G_onil, G_op, GG_true, GX_val, GP_some, put_lt, wantedG_none, eq_self, Nat.zero_add, tget_set, tget_of2, nbeq, evalO_tmp, evalO_int, evalO_bool, oval_eq, cx_move, cx_assign, cx_bin, cx_builtin, cbin_neq, bi_len, tyAt0, xlen_sl, List.toList_toArray, List.map_cons, List.map_nil, List.length_cons, List.length_nil, List.getElem?_cons_zero, List.getElem?_cons_succ, cond_true, Bool.not_true, decide_true, if_true, if_false, Nat.reduceAdd, Nat.reduceEqDiff]
    refine G_loop_ind (fun k s => ∃ tm H2 i, s = ⟨tm, [], H2⟩ ∧ k + i = l.length ∧ tget tm 0 = .slice a l.length c ∧ tget tm 1 = .slice a' m.length c' ∧ tget tm 5 = .int .i64 ((i : Nat) : Int) ∧ Keep H H2 ∧ decide (l.drop i = m.drop i) = decide (l = m)) ?_ l.length _ ?_
    · rintro k ih2 s ⟨tm, H2, i, rfl, hk, h0, h1, h5, k2, hd⟩
      by_cases hi : (i : Int) < (l.length : Int)
      · obtain ⟨p, hp, hpd⟩ := drop_at (l := l) (i := i) (by omega)
        obtain ⟨q, hq, hqd⟩ := drop_at (l := m) (i := i) (by omega)
        obtain ⟨b, cs, ty, es, fl, r, rfl, hb, hg, hdr⟩ := (hv.mono k2).elem hp
        obtain ⟨b', cs', ty', es', fl', r', rfl, hb', hg', hdr'⟩ := (hw.mono k2).elem hq
        simp (config := { maxSteps := 1000000 }) (disch := first | omega | ((repeat (first | rw [n_new] | rw [n_put])) <;> omega) | fail) only [tt22, h0, h5, decide_eq_true hi, G_skip, G_seq, G_cond, GIf_true, G_block, G_region, G_onil, G_op, GG_true, GX_val, GP_some, put_lt, wantedG_none, eq_self, tget_set, nbeq, evalO_tmp, oval_eq, cx_move, cx_bin, cx_builtin, cbin_lss, bi_len, tyAt0, xlen_sl, List.map_cons, List.map_nil, cond_true, decide_true, if_true, if_false, Nat.reduceEqDiff]
        rw [G_draw (by kernel_rfl)]
        have hne : (p.1 == q.1 && p.2 == q.2) = decide (p = q) := by
          obtain ⟨p1, p2⟩ := p; obtain ⟨q1, q2⟩ := q
          by_cases h : p1 = q1 <;> by_cases h' : p2 = q2 <;> simp [h, h']
        by_cases hpq : p = q
        · simp (config := { maxSteps := 1000000 }) (disch := first | omega | ((repeat (first | rw [n_new] | rw [n_put])) <;> omega) | fail) only [tt22, tt62, h0, h1, h5, hg, hg', hdr, hdr', cbin_neq62, hne, decide_eq_true hpq, G_skip, G_cond, GIf_false, G_again, G_region, G_blkN, G_onil, G_op, GG_true, GX_val, GP_some, put_lt, wantedG_none, eq_self, Nat.zero_add, tget_set, nbeq, evalO_tmp, evalO_int, oval_eq, cx_move, cx_assign, cx_load, cx_bin, cx_indexAddr, loadAt_some, loadIn_cells, xindexAddr_some, natOf_nat, xidx_sl, cbin_add, wrap_nat_add1, takeN, List.head?_cons, Option.map_some, cond_true, Bool.not_true, decide_true, if_true, if_false, Nat.reduceEqDiff]
          refine ih2 (k - 1) _ (by omega) ⟨_, _, i + 1, rfl, by omega, ?_, ?_, ?_, k2, ?_⟩
          · simp (config := { maxSteps := 1000000 }) (disch := first | omega | ((repeat (first | rw [n_new] | rw [n_put])) <;> omega) | fail) only [h0, eq_self, tget_set, if_false, Nat.reduceEqDiff]
          · simp (config := { maxSteps := 1000000 }) (disch := first | omega | ((repeat (first | rw [n_new] | rw [n_put])) <;> omega) | fail) only [h1, eq_self, tget_set, if_false, Nat.reduceEqDiff]
          · simp (config := { maxSteps := 1000000 }) (disch := first | omega | ((repeat (first | rw [n_new] | rw [n_put])) <;> omega) | fail) only [h5, eq_self, tget_set, if_true, if_false, Nat.reduceEqDiff]
          · rw [← hd, hpd, hqd, hpq]; simp
        · simp (config := { maxSteps := 1000000 }) (disch := first | omega | ((repeat (first | rw [n_new] | rw [n_put])) <;> omega) | fail) only [tt22, tt62, h0, h1, h5, hg, hg', hdr, hdr', cbin_neq62, hne, decide_eq_false hpq, G_nil, G_seq, G_cond, GIf_true, G_ret, G_region, G_codeR, G_lpR, G_blkR, G_onil, G_op, GG_true, GX_val, GP_some, put_lt, wantedG_none, eq_self, Nat.zero_add, tget_set, nbeq, evalO_tmp, evalO_bool, oval_eq, cx_move, cx_assign, cx_load, cx_bin, cx_indexAddr, loadAt_some, loadIn_cells, xindexAddr_some, natOf_nat, xidx_sl, takeN, resAll, resOne, tupV1, Outs_ret, OutR_some, List.head?_cons, Option.map_some, cond_true, Bool.not_false, decide_true, if_true, if_false, Nat.reduceEqDiff]
          refine ⟨trivial, ?_, k2⟩
          rw [← hd, hpd, hqd, decide_eq_false (fun h => hpq (List.cons.inj h).1)]
      · simp (config := { maxSteps := 1000000 }) (disch := first | omega | ((repeat (first | rw [n_new] | rw [n_put])) <;> omega) | fail) only [tt22, h0, h5, decide_eq_false hi, G_nil, G_seq, G_cond, GIf_false, G_exit, G_ret, G_region, G_codeE, G_lpE, G_blkE, G_onil, G_op, GG_true, GX_val, GP_some, put_lt, wantedG_none, eq_self, tget_set, nbeq, evalO_tmp, evalO_bool, oval_eq, cx_move, cx_assign, cx_bin, cx_builtin, cbin_lss, bi_len, tyAt0, xlen_sl, resAll, resOne, tupV1, Outs_ret, OutR_some, List.map_cons, List.map_nil, cond_true, decide_true, if_true, if_false, Nat.reduceEqDiff]
        refine ⟨trivial, ?_, k2⟩
        rw [← hd, List.drop_eq_nil_of_le (by omega), List.drop_eq_nil_of_le (by omega)]; rfl
    · refine ⟨_, _, 0, rfl, rfl, ?_, ?_, ?_, Keep.refl _, rfl⟩
      all_goals (simp (config := { maxSteps := 1000000 }) (disch := first | omega | ((repeat (first | rw [n_new] | rw [n_put])) <;> omega) | fail) only [cast_lit, eq_self, tget_set, tget_of2, List.getElem?_cons_zero, List.getElem?_cons_succ, if_true, if_false, Nat.reduceEqDiff]; done)
  · simp (config := { maxSteps := 1000000 }) (disch := first | omega | ((repeat (first | rw [n_new] | rw [n_put])) <;> omega) | fail) only [Tryz.f32, tt22, decide_eq_false hlm, G_nil, G_seq, G_cond, GIf_true, G_ret, G_region, G_codeR, G_onil, G_op, GG_true, GX_val, GP_some, put_lt, wantedG_none, eq_self, Nat.zero_add, tget_set, tget_of2, nbeq, evalO_tmp, evalO_bool, oval_eq, cx_move, cx_assign, cx_bin, cx_builtin, cbin_neq, bi_len, tyAt0, xlen_sl, resAll, resOne, tupV1, Outs_ret, OutR_some, List.toList_toArray, List.map_cons, List.map_nil, List.length_cons, List.length_nil, List.getElem?_cons_zero, List.getElem?_cons_succ, cond_true, Bool.not_false, decide_true, if_true, if_false, Nat.reduceAdd, Nat.reduceEqDiff]
    refine ⟨trivial, ?_, (by repeat (first | assumption | exact Keep.refl _ | refine Keep.new ?_ _ | refine Keep.put ?_ _ (by first | omega | (simp only [n_new, n_put] <;> omega))))⟩
    rw [decide_eq_false (fun h => hlm (by rw [h]))]
set_option maxRecDepth 100000 in
set_option maxHeartbeats 8000000 in
theorem has_equal30 (hn : (tE ans eff).ans.get 30 = none ∧ (tE ans eff).eff.get 30 = none) {H : Hp} {v w : Value} {l m : List (Int × Int)} (hv : StA H v l) (hw : StA H w m) : Has (tE ans eff) 30 [v, w] H fun r H' => r = .bool (decide (l = m)) ∧ Keep H H' := by
  obtain ⟨a, c, rfl, hl, _⟩ := id hv
  obtain ⟨a', c', rfl, hm, _⟩ := id hw
  refine Has.of hn ft30 rfl (Nat.le_of_ble_eq_true rfl) ?_
  by_cases hlm : (l.length : Int) = (m.length : Int)
  · simp (config := { maxSteps := 1000000 }) (disch := first | omega | ((repeat (first | rw [n_new] | rw [n_put])) <;> omega) | fail) only [Tryz.f30, tt22, decide_eq_true hlm, G_skip, G_seq, G_cond, GIf_false, G_block, G_region, G_onil, G_op, GG_true, GX_val, GP_some, put_lt, wantedG_none, eq_self, Nat.zero_add, tget_set, tget_of2, nbeq, evalO_tmp, evalO_int, evalO_bool, oval_eq, cx_move, cx_assign, cx_bin, cx_builtin, cbin_neq, bi_len, tyAt0, xlen_sl, List.toList_toArray, List.map_cons, List.map_nil, List.length_cons, List.length_nil, List.getElem?_cons_zero, List.getElem?_cons_succ, cond_true, Bool.not_true, decide_true, if_true, if_false, Nat.reduceAdd, Nat.reduceEqDiff]
    refine G_loop_ind (fun k s => ∃ tm H2 i, s = ⟨tm, [], H2⟩ ∧ k + i = l.length ∧ tget tm 0 = .slice a l.length c ∧ tget tm 1 = .slice a' m.length c' ∧ tget tm 13 = .int .i64 ((i : Nat) : Int) ∧ tget tm 12 = .int .i64 ((l.length : Nat) : Int) ∧ Keep H H2 ∧ decide (l.drop i = m.drop i) = decide (l = m)) ?_ l.length _ ?_
    · rintro k ih2 s ⟨tm, H2, i, rfl, hk, h0, h1, h5, h12, k2, hd⟩
      by_cases hi : (i : Int) < (l.length : Int)
      · obtain ⟨p, hp, hpd⟩ := drop_at (l := l) (i := i) (by omega)
        obtain ⟨q, hq, hqd⟩ := drop_at (l := m) (i := i) (by omega)
        obtain ⟨b, cs, ty, es, fl, r, rfl, hb, hg, hdr⟩ := (hv.mono k2).elem hp
        obtain ⟨b', cs', ty', es', fl', r', rfl, hb', hg', hdr'⟩ := (hw.mono k2).elem hq
        simp (config := { maxSteps := 1000000 }) (disch := first | omega | ((repeat (first | rw [n_new] | rw [n_put])) <;> omega) | fail) only [h5, h12, decide_eq_true hi, G_skip, G_seq, G_cond, GIf_true, G_block, G_region, G_onil, G_op, GG_true, GX_val, GP_some, put_lt, wantedG_none, eq_self, tget_set, evalO_tmp, oval_eq, cx_move, cx_assign, cx_bin, cbin_lss, if_true, if_false, Nat.reduceEqDiff]
        rw [G_draw (by kernel_rfl)]
        have hne : (p.1 == q.1 && p.2 == q.2) = decide (p = q) := by
          obtain ⟨p1, p2⟩ := p; obtain ⟨q1, q2⟩ := q
          by_cases h : p1 = q1 <;> by_cases h' : p2 = q2 <;> simp [h, h']
        by_cases hpq : p = q
        · simp (config := { maxSteps := 1000000 }) (disch := first | omega | ((repeat (first | rw [n_new] | rw [n_put])) <;> omega) | fail) only [tt22, tt62, h0, h1, h5, hg, hg', hdr, hdr', cbin_neq62, hne, decide_eq_true hpq, G_skip, G_cond, GIf_false, G_again, G_region, G_blkN, G_onil, G_op, GG_true, GX_val, GP_some, put_lt, wantedG_none, eq_self, Nat.zero_add, tget_set, nbeq, evalO_tmp, evalO_int, oval_eq, cx_move, cx_load, cx_bin, cx_indexAddr, loadAt_some, loadIn_cells, xindexAddr_some, natOf_nat, xidx_sl, cbin_add, wrap_nat_add1, takeN, List.head?_cons, Option.map_some, cond_true, Bool.not_true, decide_true, if_true, if_false, Nat.reduceEqDiff]
          refine ih2 (k - 1) _ (by omega) ⟨_, _, i + 1, rfl, by omega, ?_, ?_, ?_, ?_, k2, ?_⟩
          · simp (config := { maxSteps := 1000000 }) (disch := first | omega | ((repeat (first | rw [n_new] | rw [n_put])) <;> omega) | fail) only [h0, eq_self, tget_set, if_false, Nat.reduceEqDiff]
          · simp (config := { maxSteps := 1000000 }) (disch := first | omega | ((repeat (first | rw [n_new] | rw [n_put])) <;> omega) | fail) only [h1, eq_self, tget_set, if_false, Nat.reduceEqDiff]
          · simp (config := { maxSteps := 1000000 }) (disch := first | omega | ((repeat (first | rw [n_new] | rw [n_put])) <;> omega) | fail) only [h5, eq_self, tget_set, if_true, if_false, Nat.reduceEqDiff]
          · simp (config := { maxSteps := 1000000 }) (disch := first | omega | ((repeat (first | rw [n_new] | rw [n_put])) <;> omega) | fail) only [h12, eq_self, tget_set, if_false, Nat.reduceEqDiff]
          · rw [← hd, hpd, hqd, hpq]; simp
        · simp (config := { maxSteps := 1000000 }) (disch := first | omega | ((repeat (first | rw [n_new] | rw [n_put])) <;> omega) | fail) only [tt22, tt62, h0, h1, hg, hg', hdr, hdr', cbin_neq62, hne, decide_eq_false hpq, G_nil, G_seq, G_cond, GIf_true, G_ret, G_region, G_codeR, G_lpR, G_blkR, G_onil, G_op, GG_true, GX_val, GP_some, put_lt, wantedG_none, eq_self, Nat.zero_add, tget_set, nbeq, evalO_tmp, evalO_bool, oval_eq, cx_move, cx_assign, cx_load, cx_bin, cx_indexAddr, loadAt_some, loadIn_cells, xindexAddr_some, natOf_nat, xidx_sl, takeN, resAll, resOne, tupV1, Outs_ret, OutR_some, List.head?_cons, Option.map_some, cond_true, Bool.not_false, decide_true, if_true, if_false, Nat.reduceEqDiff]
          refine ⟨trivial, ?_, k2⟩
          rw [← hd, hpd, hqd, decide_eq_false (fun h => hpq (List.cons.inj h).1)]
      · simp (config := { maxSteps := 1000000 }) (disch := first | omega | ((repeat (first | rw [n_new] | rw [n_put])) <;> omega) | fail) only [h5, h12, decide_eq_false hi, G_nil, G_seq, G_cond, GIf_false, G_exit, G_ret, G_region, G_codeE, G_lpE, G_blkE, G_onil, G_op, GG_true, GX_val, GP_some, put_lt, wantedG_none, eq_self, tget_set, evalO_tmp, evalO_bool, oval_eq, cx_assign, cx_bin, cbin_lss, resAll, resOne, tupV1, Outs_ret, OutR_some, if_true, if_false, Nat.reduceEqDiff]
        refine ⟨trivial, ?_, k2⟩
        rw [← hd, List.drop_eq_nil_of_le (by omega), List.drop_eq_nil_of_le (by omega)]; rfl
    · refine ⟨_, _, 0, rfl, rfl, ?_, ?_, ?_, ?_, Keep.refl _, rfl⟩
      all_goals (simp (config := { maxSteps := 1000000 }) (disch := first | omega | ((repeat (first | rw [n_new] | rw [n_put])) <;> omega) | fail) only [cast_lit, eq_self, tget_set, tget_of2, List.getElem?_cons_zero, List.getElem?_cons_succ, if_true, if_false, Nat.reduceEqDiff]; done)
  · simp (config := { maxSteps := 1000000 }) (disch := first | omega | ((repeat (first | rw [n_new] | rw [n_put])) <;> omega) | fail) only [Tryz.f30, tt22, decide_eq_false hlm, G_nil, G_seq, G_cond, GIf_true, G_ret, G_region, G_codeR, G_onil, G_op, GG_true, GX_val, GP_some, put_lt, wantedG_none, eq_self, Nat.zero_add, tget_set, tget_of2, nbeq, evalO_tmp, evalO_bool, oval_eq, cx_move, cx_assign, cx_bin, cx_builtin, cbin_neq, bi_len, tyAt0, xlen_sl, resAll, resOne, tupV1, Outs_ret, OutR_some, List.toList_toArray, List.map_cons, List.map_nil, List.length_cons, List.length_nil, List.getElem?_cons_zero, List.getElem?_cons_succ, cond_true, Bool.not_false, decide_true, if_true, if_false, Nat.reduceAdd, Nat.reduceEqDiff]
    refine ⟨trivial, ?_, (by repeat (first | assumption | exact Keep.refl _ | refine Keep.new ?_ _ | refine Keep.put ?_ _ (by first | omega | (simp only [n_new, n_put] <;> omega))))⟩
    rw [decide_eq_false (fun h => hlm (by rw [h]))]
end
end Go.Proofs
