/- Functions of the program under the statement RexPlain, walked: the longest beginning (no statement of the program is proved here). -/
import Derived.Test.YtoanfmlpddlcmaaGreatDoorRH
namespace Go.Proofs
open Go Go.PE
noncomputable section
theorem _root_.Go.PE.Has.name {E : Env} {f : Nat} {args : List Value} {H : Hp} {R : Value → Hp → Prop} (h : ∀ H0, H0 = H → Has E f args H0 R) : Has E f args H R := h H rfl
def longV : Option Nat → Value
  | some P => .tuple #[.int .i64 (P : Int), .bool true]
  | none => .tuple #[.int .i64 0, .bool false]
set_option maxRecDepth 100000 in
theorem has_longest {H : Hp} {x : Value} {cs : List Nat} {S : List UInt8} (hx : XAt H x cs) (hS : S.length ≤ 100000) (hc : cs.length ≤ 100000) :
    Has rE 7 [x, .string (bs S)] H fun v H' => v = longV (walk S cs (some 0)) ∧ Keep H H' := by
  obtain ⟨cells, hcells, hxc⟩ : ∃ cells : List Value, x = .agg cells.toArray ∧ ((∃ c v, cs = [c] ∧ cells = [.int .i64 2, v, .slice none 0 0] ∧ Set1 H v c) ∨ (∃ bb, cells = [.int .i64 3, .slice none 0 0, .slice (some ⟨bb, 0, none⟩) cs.length cs.length] ∧ SubsAt H bb cs)) := by
    rcases hx with ⟨c, v, rfl, rfl, hv⟩ | ⟨h2, v, rfl, hv⟩
    · exact ⟨_, rfl, .inl ⟨c, v, rfl, rfl, hv⟩⟩
    · rcases hv with ⟨rfl, _⟩ | ⟨_, bb, l, rfl, _, hb, hg, hs⟩
      · simp at h2
      · exact ⟨_, rfl, .inr ⟨bb, rfl, hb, l, hg, hs⟩⟩
  subst hcells
  have hfrom : ∀ H1, Keep H H1 → H1.get H.n = some (.cells cells 25 none 0) → H1.get (H.n + 3) = some (.mp []) → H1.get (H.n + 4) = some (.cells [.string (bs S), .map (some (H.n + 3))] 48 none 0) → H1.n = H.n + 5 →
      Has rE 23 [.pointer (some ⟨H.n + 4, 0, none⟩), .pointer (some ⟨H.n, 0, none⟩), .int .i64 ((0 : Nat) : Int)] H1 fun v H2 => BAt H2 v (oh (S.length + 1) (walk S cs (some 0))) ∧ KeepBut (H.n + 3) H1 H2 := by
    intro H1 k1 g0 g3 g4 n1
    have hr : RunP H1 (H.n + 4) (H.n + 3) S := ⟨g4, by omega⟩
    rcases hxc with ⟨c, v, rfl, rfl, hv⟩ | ⟨bb, rfl, hs⟩
    · have hl : LetP H1 H.n 0 c := ⟨by omega, _, _, v, g0, rfl, rfl, rfl, hv.keep k1⟩
      exact (from_letter hr g3 (by omega) hl (fun e he => by cases he) hS (Nat.zero_le _)).mono fun v H2 h => ⟨h.1, h.2.1⟩
    · have hs1 : SubsAt H1 bb cs := by
        obtain ⟨h1, l, h2, h3⟩ := hs
        exact ⟨Nat.lt_of_lt_of_le h1 k1.le, l, by rw [k1.get h1]; exact h2, h3.mono fun _ _ a => a.keep k1⟩
      exact from_cat hr g3 (by omega) ⟨by omega, g0⟩ hs1 hS (Nat.zero_le _) hc
  have hjunk : isJunk (.agg cells.toArray) = false := rfl
  refine Has.ofC (rans_none (by decide) (by decide)) ft7 rfl (Nat.le_of_ble_eq_true rfl) ?_
  simp (config := { maxSteps := 1000000 }) (disch := first | omega | ((repeat (first | rw [n_new] | rw [n_put])) <;> omega) | fail) only [Tryz.f7, tt3, tt4, tt48, ft23, cc23, G_seq, G_region, G_onil, G_op, GG_true, GX_val, GX_enter, GP_some, put_lt, wantedG_none, eq_self, Nat.zero_add, tget_set, tget_of2, nbeq, evalO_tmp, evalO_int, evalO_func, oval_eq, xnew_eq, n_new, cx_move, cx_assign, cx_alloc, cx_box, cx_build, cx_makeMap, cx_call, xcallv_func, xmakeMap_eq, xalloc_some, isJunk, cbuild, partsV, fillC, fieldPl, elemPl, splice, Value.cells, List.toList_toArray, List.map_cons, List.map_nil, List.length_cons, List.length_nil, List.append_nil, List.nil_append, List.getElem?_cons_zero, List.getElem?_cons_succ, Option.map_some, cond_true, cond_false, Bool.and_true, Bool.not_true, Bool.not_false, decide_true, decide_false, if_true, if_false, List.size_toArray, Nat.reduceAdd, Nat.reduceEqDiff]
  refine GCall.of (hfrom _ (by repeat (first | assumption | exact Keep.refl _ | refine Keep.new ?_ _ | refine Keep.put ?_ _ (by first | omega | (simp only [n_new, n_put] <;> omega)))) ?_ ?_ ?_ rfl) ?_
  · simp (config := { maxSteps := 1000000 }) (disch := first | omega | ((repeat (first | rw [n_new] | rw [n_put])) <;> omega) | fail) only [eq_self, get_new_eq, get_new_ne]
  · simp (config := { maxSteps := 1000000 }) (disch := first | omega | ((repeat (first | rw [n_new] | rw [n_put])) <;> omega) | fail) only [eq_self, get_new_eq, get_new_ne]
  · simp (config := { maxSteps := 1000000 }) (disch := first | omega | ((repeat (first | rw [n_new] | rw [n_put])) <;> omega) | fail) only [eq_self, get_new_eq]
  rintro v H1 ⟨hv, k1⟩
  obtain ⟨b, eb, rfl, hb, hg⟩ := hv
  rw [oh_len] at *
  simp (config := { maxSteps := 1000000 }) (disch := first | omega | ((repeat (first | rw [n_new] | rw [n_put])) <;> omega) | fail) only [ft22, cc22, G_op, GG_true, GX_enter, GP_some, put_lt, wantedG_none, eq_self, tget_set, tget_of2, evalO_tmp, evalO_func, cx_call, xcallv_func, List.map_cons, List.map_nil, List.append_nil, List.nil_append, List.getElem?_cons_succ, if_true, if_false, Nat.reduceEqDiff]
  refine GCall.of has_backward ?_
  rintro v H2 ⟨rfl, hH2⟩
  have n1 := k1.le
  simp only [n_new] at n1
  have n2 : H2.n = H1.n + 1 := by rw [hH2]; rfl
  have q2 : ∀ k, k < H1.n → H2.get k = H1.get k := fun k hk => by rw [hH2, get_new_ne (by omega)]
  have g2b : H2.get H1.n = some (.cells [.slice (some ⟨b, 0, none⟩) (S.length + 1) (S.length + 1)] 53 none 0) := by rw [hH2]; exact get_new_eq rfl
  have g2p : H2.get b = some (.cells ((oh (S.length + 1) (walk S cs (some 0))).map .bool) 4 eb 0) := by rw [q2 _ hb]; exact hg
  have g24 : H2.get (H.n + 1) = some (.cells [.int .i64 0] 3 none 0) := by
    rw [q2 _ (by omega), k1.get (by simp only [n_new]; omega) (by omega)]
    simp (config := { maxSteps := 1000000 }) (disch := first | omega | ((repeat (first | rw [n_new] | rw [n_put])) <;> omega) | fail) only [eq_self, get_new_eq, get_new_ne]
  have g25 : H2.get (H.n + 2) = some (.cells [.bool false] 4 none 0) := by
    rw [q2 _ (by omega), k1.get (by simp only [n_new]; omega) (by omega)]
    simp (config := { maxSteps := 1000000 }) (disch := first | omega | ((repeat (first | rw [n_new] | rw [n_put])) <;> omega) | fail) only [eq_self, get_new_eq, get_new_ne]
  have k2 : Keep H H2 := by
    refine ⟨by omega, fun {k} hk => ?_⟩
    rw [q2 _ (by omega), k1.get (by simp only [n_new]; omega) (by omega)]
    simp (config := { maxSteps := 1000000 }) (disch := first | omega | ((repeat (first | rw [n_new] | rw [n_put])) <;> omega) | fail) only [eq_self, get_new_ne]
  simp (config := { maxSteps := 1000000 }) (disch := first | omega | ((repeat (first | rw [n_new] | rw [n_put])) <;> omega) | fail) only [G_block, G_onil, GP_some, put_lt]
  generalize hw : walk S cs (some 0) = o at *
  have hoS : ∀ P, o = some P → P ≤ S.length := by rw [← hw]; exact walk_le fun P h => by cases h; exact Nat.zero_le _
  refine G_range (g := 45) rfl (a := #[]) (b := #[.pointer (some ⟨H1.n, 0, none⟩)]) ?_ (by rw [ft45]; rfl) ?_
  · simp (config := { maxSteps := 1000000 }) (disch := first | omega | ((repeat (first | rw [n_new] | rw [n_put])) <;> omega) | fail) only [eq_self, tget_set, tget_of2, evalO_tmp, List.getElem?_cons_succ, if_true, if_false, Nat.reduceEqDiff]
  dsimp only
  refine Has.name fun H0 hH0 => ?_
  have gl := congrArg (fun K : Hp => K.get (H2.n + 1)) hH0
  have n0 : H0.n = H2.n + 2 := by rw [hH0]; rfl
  have gd : H0.get H2.n = some .defd := by
    rw [hH0, get_new_ne (by rw [n_new]; omega)]; exact get_new_eq rfl
  have q0 : ∀ k, k < H2.n → H0.get k = H2.get k := fun k hk => by rw [hH0, get_new_ne (by rw [n_new]; omega), get_new_ne (by omega)]
  simp (config := { maxSteps := 1000000 }) (disch := first | omega | ((repeat (first | rw [n_new] | rw [n_put])) <;> omega) | fail) only [get_new_eq] at gl
  clear hH0
  have hInv : ∀ K, Keep H0 K → K.get (H2.n + 1) = _ := fun K k => (k.get (by omega)).trans gl
  refine (has_rounds (l := H2.n + 1) (b1 := H1.n) (bp := b) (n := S.length + 1) (ep := eb) (o := o) (Keep H0) (fun P K => (∃ nt tm1 ps a1 bd d, K.get (H2.n + 1) = some (.loop nt tm1 ps a1 bd .done (some .ret) d)) ∧ K.get H2.n = some .defd ∧ K.get (H.n + 1) = some (.cells [.int .i64 (P : Int)] 3 none 0) ∧ K.get (H.n + 2) = some (.cells [.bool true] 4 none 0) ∧ H0.n ≤ K.n ∧ ∀ k, k < H.n → K.get k = H.get k) (Keep.refl _) ?_ ?_ (by omega) ?_ ?_ ?_).mono ?_
  · intro K k; rw [k.get (by omega), q0 _ (by omega)]; exact g2b
  · intro K k; rw [k.get (by omega), q0 _ (by omega)]; exact g2p
  · intro K i k
    refine Round_of (hInv K k) rfl ?_
    simp (config := { maxSteps := 1000000 }) (disch := first | omega | ((repeat (first | rw [n_new] | rw [n_put])) <;> omega) | fail) only [G_nil, G_skip, G_seq, G_cond, GIf_false, G_block, G_region, G_blkN, G_onil, G_op, GG_true, GX_val, GP_some, put_lt, wantedG_none, eq_self, tget_set, tget_of2, evalO_tmp, cx_move, cx_assign, List.getElem?_cons_succ, if_true, if_false, Nat.reduceEqDiff]
    refine ⟨trivial, _, _, _, _, _, _, _, hInv K k, ?_⟩
    refine ⟨_, _, _, _, _, _, _, _, get_put_eq rfl, rfl, ?_, fun {j} hj => ?_⟩
    · have := k.le
      simp only [n_put]; omega
    · by_cases hjl : j = H2.n + 1
      · rw [hjl, get_put_eq rfl]; exact gl.symm
      · rw [get_put_ne hjl, get_put_ne hjl]; exact k.get hj
  · intro K i k
    have kn := k.le
    have g4 : K.get (H.n + 1) = some (.cells [.int .i64 0] 3 none 0) := by rw [k.get (by omega), q0 _ (by omega)]; exact g24
    have g5 : K.get (H.n + 2) = some (.cells [.bool false] 4 none 0) := by rw [k.get (by omega), q0 _ (by omega)]; exact g25
    refine Round_of (hInv K k) rfl ?_
    simp (config := { maxSteps := 1000000 }) (disch := first | omega | ((repeat (first | rw [n_new] | rw [n_put])) <;> omega) | fail) only [G_nil, G_seq, G_cond, GIf_true, G_block, G_region, G_onil, G_op, GG_true, GX_val, GP_some, put_lt, wantedG_none, eq_self, tget_set, tget_of2, evalO_tmp, cx_move, cx_assign, cx_store, isJunk, Value.cells, List.toList_toArray, List.getElem?_cons_succ, cond_false, if_true, if_false, Nat.reduceEqDiff]
    refine ⟨trivial, _, _, _, _, _, _, _, hInv K k, ?_⟩
    simp (config := { maxSteps := 1000000 }) (disch := first | omega | ((repeat (first | rw [n_new] | rw [n_put])) <;> omega) | fail) only [tt3, tt4, g4, g5, G_nil, G_ret, G_blkR, G_onil, G_op, GG_true, GX_skip, GP_some, put_none, wantedG_none, eq_self, Nat.zero_add, tget_set, tget_of2, nbeq, nble, evalO_tmp, evalO_bool, oskip_some, get_put_ne, cx_store, storeAt_some, storeIn_cells, isJunk, oneC, splice, Value.cells, List.toList_toArray, List.all_cons, List.all_nil, List.length_cons, List.length_nil, List.getElem?_cons_succ, Option.map_some, cond_true, cond_false, Bool.and_true, decide_true, if_true, if_false, Nat.reduceEqDiff, Nat.reduceLeDiff]
    refine ⟨_, _, _, _, _, _, _, _, (get_put_ne (by omega)).trans ((get_put_ne (by omega)).trans (get_put_eq rfl)), rfl, ⟨_, _, _, _, _, _, get_put_eq rfl⟩, ?_, ?_, ?_, ?_, ?_⟩
    · rw [get_put_ne (by omega), get_put_ne (by omega), get_put_ne (by omega), get_put_ne (by omega), k.get (by omega)]; exact gd
    · rw [get_put_ne (by omega), get_put_ne (by omega)]; exact get_put_eq rfl
    · rw [get_put_ne (by omega)]; exact get_put_eq rfl
    · simp only [n_put]; omega
    · intro j hj
      rw [get_put_ne (by omega), get_put_ne (by omega), get_put_ne (by omega), get_put_ne (by omega), k.get (by omega), q0 _ (by omega), k2.get hj]
  · intro P hP
    have := hoS P hP; omega
  · rintro v K (⟨P, rfl, ⟨nt, tm1, ps, a1, bd, d, hl⟩, hd, h4, h5, hn, hk⟩ | ⟨rfl, k⟩)
    · refine ⟨_, _, _, _, _, _, _, _, hl, rfl, .inr ⟨rfl, ?_⟩⟩
      simp (config := { maxSteps := 1000000 }) (disch := first | omega | ((repeat (first | rw [n_new] | rw [n_put])) <;> omega) | fail) only [G_nil, G_codeR, G_blkR]
      refine ⟨H2.n, .inr rfl, rfl, ?_, ?_⟩
      · rw [get_put_ne (by omega)]; exact hd
      · have e4 : ((K.put (H2.n + 1) (.loop nt tm1 ps a1 bd .exhausted (some .ret) d)).put H2.n .dead).get (H.n + 1) = some (.cells [.int .i64 (P : Int)] 3 none 0) := by
          rw [get_put_ne (by omega), get_put_ne (by omega)]; exact h4
        have e5 : ((K.put (H2.n + 1) (.loop nt tm1 ps a1 bd .exhausted (some .ret) d)).put H2.n .dead).get (H.n + 2) = some (.cells [.bool true] 4 none 0) := by
          rw [get_put_ne (by omega), get_put_ne (by omega)]; exact h5
        simp (config := { maxSteps := 1000000 }) (disch := first | omega | ((repeat (first | rw [n_new] | rw [n_put])) <;> omega) | fail) only [tt3, tt4, e4, e5, eq_self, tget_set, tget_of2, evalO_tmp, loadAt_some, loadIn_cells, takeN, resAll, resOne, tupV2, OutR_some, List.drop_zero, List.head?_cons, List.getElem?_cons_succ, Option.map_some, cond_false, if_true, if_false, Nat.reduceEqDiff]
        refine ⟨rfl, ⟨by simp only [n_put]; omega, fun {j} hj => ?_⟩⟩
        rw [get_put_ne (by omega), get_put_ne (by omega)]; exact hk j hj
    · have kn := k.le
      have g4 : K.get (H.n + 1) = some (.cells [.int .i64 0] 3 none 0) := by rw [k.get (by omega), q0 _ (by omega)]; exact g24
      have g5 : K.get (H.n + 2) = some (.cells [.bool false] 4 none 0) := by rw [k.get (by omega), q0 _ (by omega)]; exact g25
      refine ⟨_, _, _, _, _, _, _, _, hInv K k, rfl, .inl ⟨rfl, ?_⟩⟩
      simp (config := { maxSteps := 1000000 }) (disch := first | omega | ((repeat (first | rw [n_new] | rw [n_put])) <;> omega) | fail) only [tt3, tt4, g4, g5, G_nil, G_seq, G_ret, G_region, G_blkN, G_onil, G_op, GG_true, GX_skip, GP_some, put_none, wantedG_none, eq_self, Nat.zero_add, tget_set, tget_of2, nbeq, nble, evalO_tmp, evalO_int, evalO_bool, oskip_some, get_put_ne, cx_store, storeAt_some, storeIn_cells, isJunk, oneC, splice, Value.cells, List.toList_toArray, List.all_cons, List.all_nil, List.length_cons, List.length_nil, List.getElem?_cons_succ, Option.map_some, cond_true, cond_false, Bool.and_true, decide_true, if_true, if_false, Nat.reduceEqDiff, Nat.reduceLeDiff]
      refine ⟨H2.n, .inr rfl, rfl, ?_, ?_⟩
      · rw [get_put_ne (by omega), get_put_ne (by omega), get_put_ne (by omega), k.get (by omega)]; exact gd
      · simp (config := { maxSteps := 1000000 }) (disch := first | omega | ((repeat (first | rw [n_new] | rw [n_put])) <;> omega) | fail) only [tt3, tt4, eq_self, tget_set, tget_of2, evalO_tmp, get_put_eq, get_put_ne, loadAt_some, loadIn_cells, takeN, resAll, resOne, tupV2, OutR_some, List.drop_zero, List.head?_cons, List.getElem?_cons_succ, Option.map_some, cond_false, if_true, if_false, Nat.reduceEqDiff]
        refine ⟨rfl, ⟨by simp only [n_put]; omega, fun {j} hj => ?_⟩⟩
        rw [get_put_ne (by omega), get_put_ne (by omega), get_put_ne (by omega), get_put_ne (by omega), k.get (by omega), q0 _ (by omega), k2.get hj]
end
end Go.Proofs
