/- The pieces of a set, gathered; walked (no statement of the program is proved here). -/
import Derived.Test.YtoanfmlpddlcmaaGreatDoorQM
namespace Go.Proofs
open Go Go.PE
noncomputable section
variable {ans : Tr (List Value → Option Value)} {eff : Tr (List Value → Hp → Option (Value × Hp))}
theorem _root_.Go.PE.Has.name {E : Env} {f : Nat} {args : List Value} {H : Hp} {R : Value → Hp → Prop} (h : ∀ H0, H0 = H → Has E f args H0 R) : Has E f args H R := h H rfl
set_option maxRecDepth 100000 in
theorem has_pieces89 (hn : NoA ans eff 89) {H : Hp} {a : Option Addr} {n c : Nat} : Has (tE ans eff) 89 [.slice a n c] H fun r H' => r = .func (.func 102) #[] #[.pointer (some ⟨H.n, 0, none⟩)] ∧ H' = H.new (.cells [.slice a n c] 22 none 0) := by
  refine Has.of hn ft89 rfl (Nat.le_of_ble_eq_true rfl) ?_
  simp (config := { maxSteps := 1000000 }) (disch := first | omega | ((repeat (first | rw [n_new] | rw [n_put])) <;> omega) | fail) only [Tryz.f89, G_nil, G_seq, G_ret, G_region, G_onil, G_op, GG_true, GX_val, GP_some, put_lt, wantedG_none, eq_self, Nat.zero_add, tget_set, tget_of1, evalO_tmp, evalO_nf, xnew_eq, cx_assign, cx_box, cx_makeFunc, xmakeFunc_eq, isJunk, Value.cells, resAll, resOne, tupV1, Outs_ret, OutR_some, List.toList_toArray, List.map_cons, List.map_nil, List.length_cons, List.length_nil, List.getElem?_cons_zero, List.getElem?_cons_succ, cond_false, if_true, if_false, List.map_toArray, Nat.reduceEqDiff]
  exact ⟨trivial, by first | trivial | rfl, by first | trivial | rfl⟩
set_option maxRecDepth 100000 in
set_option maxHeartbeats 16000000 in
theorem has_append105 (hn : NoA ans eff 105) (hn102 : NoA ans eff 102) {H : Hp} {bc : Nat} {a : Option Addr} {c : Nat} {L : List (Int × Int)} (hbc : bc < H.n) (gbc : H.get bc = some (.cells [.slice a L.length c] 22 none 0)) (hv : StA H (.slice a L.length c) L) (hlen : L.length ≤ 200000) :
    Has (tE ans eff) 105 [.slice none 0 0, .func (.func 102) #[] #[.pointer (some ⟨bc, 0, none⟩)]] H fun r H' => (∃ ob, Own H.n H' r (piecesL L) ob) ∧ Keep H H' := by
  refine Has.ofC hn ft105 rfl (Nat.le_of_ble_eq_true rfl) ?_
  simp (config := { maxSteps := 1000000 }) (disch := first | omega | ((repeat (first | rw [n_new] | rw [n_put])) <;> omega) | fail) only [Tryz.f105, G_seq, G_block, G_region, G_onil, G_op, GG_true, GX_val, GP_some, put_lt, wantedG_none, Nat.zero_add, tget_set, tget_of2, evalO_tmp, evalO_nsl, xnew_eq, cx_move, cx_assign, cx_box, isJunk, Value.cells, List.toList_toArray, List.length_cons, List.length_nil, List.getElem?_cons_zero, List.getElem?_cons_succ, cond_false, if_false, Nat.reduceAdd, Nat.reduceEqDiff]
  refine G_range (g := 102) rfl (a := #[]) (b := #[.pointer (some ⟨bc, 0, none⟩)]) ?_ (by rw [ft102]; rfl) ?_
  · simp (config := { maxSteps := 1000000 }) (disch := first | omega | ((repeat (first | rw [n_new] | rw [n_put])) <;> omega) | fail) only [eq_self, tget_set, tget_of2, evalO_tmp, List.getElem?_cons_succ, if_true, if_false, Nat.reduceEqDiff]
  dsimp only
  refine Has.name fun H0 hH0 => ?_
  have gl := congrArg (fun K : Hp => K.get (H.n + 2)) hH0
  have n0 : H0.n = H.n + 3 := by rw [hH0]; rfl
  have gd : H0.get (H.n + 1) = some .defd := by
    rw [hH0]; simp (config := { maxSteps := 1000000 }) (disch := first | omega | ((repeat (first | rw [n_new] | rw [n_put])) <;> omega) | fail) only [eq_self, get_new_eq, get_new_ne, n_new]
  have gb : H0.get H.n = some (.cells [.slice none 0 0] 22 none 0) := by
    rw [hH0]; simp (config := { maxSteps := 1000000 }) (disch := first | omega | ((repeat (first | rw [n_new] | rw [n_put])) <;> omega) | fail) only [eq_self, get_new_eq, get_new_ne, n_new]
  have kk : Keep H H0 := by rw [hH0]; exact (by repeat (first | assumption | exact Keep.refl _ | refine Keep.new ?_ _ | refine Keep.put ?_ _ (by first | omega | (simp only [n_new, n_put] <;> omega))))
  simp (config := { maxSteps := 1000000 }) (disch := first | omega | ((repeat (first | rw [n_new] | rw [n_put])) <;> omega) | fail) only [get_new_eq, n_new] at gl
  clear hH0
  have key : ∃ X, H0.get (H.n + 2) = X := ⟨_, rfl⟩
  obtain ⟨X, hX⟩ := key
  refine (has_pieces102 hn102 (l := H.n + 2) hbc gbc hv hlen (fun out K => Keep H K ∧ H.n + 3 ≤ K.n ∧ K.get (H.n + 1) = some .defd ∧ K.get (H.n + 2) = X ∧ ∃ v ob, K.get H.n = some (.cells [v] 22 none 0) ∧ Own (H.n + 3) K v out ob) ?_ ?_ ?_ ?_).mono ?_
  · rintro out K ⟨h, _⟩; exact h
  · rintro out K K' ⟨h1, h2, h3, h4, v, ob, h5, h6⟩ k
    exact ⟨h1.trans k, by have := k.le; omega, by rw [k.get (by omega)]; exact h3, by rw [k.get (by omega)]; exact h4, v, ob, by rw [k.get (by omega)]; exact h5, h6.keep k⟩
  · rintro out p K ⟨h1, h2, h3, h4, v, ob, h5, h6⟩ hol
    rw [← hX, gl] at h4
    refine Round_of h4 rfl ?_
    have hvs : ∃ a n, v = .slice a n n := by
      rcases h6 with ⟨_, rfl, _⟩ | ⟨_, b, rfl, _⟩
      · exact ⟨_, _, rfl⟩
      · exact ⟨_, _, rfl⟩
    simp (config := { maxSteps := 1000000 }) (disch := first | omega | ((repeat (first | rw [n_new] | rw [n_put])) <;> omega) | fail) only [tt22, tt62, G_nil, G_block, G_region, G_onil, G_op, GG_true, GX_val, GX_skip, GP_some, put_lt, put_none, wantedG_none, eq_self, Nat.zero_add, tget_set, tget_of2, nbeq, nble, evalO_tmp, oskip_some, xnew_eq, get_put_ne, get_new_eq, get_new_ne, cx_alloc, cx_load, cx_store, xalloc_some, loadAt_some, storeAt_some, storeIn_cells, isJunk, oneC, splice, Value.cells, List.toList_toArray, List.all_cons, List.all_nil, List.length_cons, List.length_nil, List.getElem?_cons_succ, Option.map_some, cond_true, cond_false, Bool.and_true, decide_true, if_true, if_false, Nat.reduceAdd, Nat.reduceEqDiff, Nat.reduceLeDiff]
    refine ⟨trivial, _, _, _, _, _, _, _, h4, ?_⟩
    obtain ⟨av, nv, rfl⟩ := hvs
    simp (config := { maxSteps := 1000000 }) (disch := first | omega | ((repeat (first | rw [n_new] | rw [n_put])) <;> omega) | fail) only [tt22, tt62, h5, G_op, GG_true, GX_val, GP_some, put_lt, wantedG_none, eq_self, Nat.zero_add, tget_set, tget_of2, nbeq, nble, evalO_tmp, oval_eq, xnewSl_eq, get_put_eq, get_put_ne, n_put, n_new, cx_buildSlice, cx_load, cx_builtin, loadAt_some, loadIn_cells, isJunk, partsV, fillC, elemPl, splice, takeN, Value.cells, xbuildSlice, rep, limN, List.toList_toArray, List.map_cons, List.map_nil, List.length_cons, List.length_nil, List.append_nil, List.drop_zero, List.head?_cons, List.getElem?_cons_succ, Option.map_some, cond_true, cond_false, Bool.and_true, Bool.not_false, decide_true, if_true, if_false, List.size_toArray, Nat.reduceAdd, Nat.reduceEqDiff, Nat.reduceLeDiff, Nat.reduceMul]
    refine GX_app (p := p) (N := H.n + 3) (l := out) (ob := ob) (h6.frame (by simp only [n_new, n_put]; omega) (fun k hk => ?_)) (by simp only [n_new, n_put]; omega) (by rw [get_new_eq (by simp only [n_new, n_put])]) (by omega) ?_
    · have := h6.lt hk
      simp (config := { maxSteps := 1000000 }) (disch := first | omega | ((repeat (first | rw [n_new] | rw [n_put])) <;> omega) | fail) only [get_new_ne, get_put_ne]
    intro v1 H3 ho1 hn1 hf1
    obtain ⟨b1, rfl, e1, hb1, hb2, hb3⟩ := ho1.snoc
    have hf2 : ∀ k, k < K.n → ob ≠ some k → k ≠ H.n + 2 → H3.get k = K.get k := fun k hk hne hk2 => by
      rw [hf1 k (by simp only [n_new, n_put]; omega) hne]
      simp (config := { maxSteps := 1000000 }) (disch := first | omega | ((repeat (first | rw [n_new] | rw [n_put])) <;> omega) | fail) only [get_new_ne, get_put_ne]
    have gbx : H3.get H.n = some (.cells [.slice av nv nv] 22 none 0) := by
      rw [hf2 _ (by omega) (fun e => by have := h6.lt e; omega) (by omega)]; exact h5
    have glp := hf1 (H.n + 2) (by simp only [n_new, n_put]; omega) (fun e => by have := h6.lt e; omega)
    simp (config := { maxSteps := 1000000 }) (disch := first | omega | ((repeat (first | rw [n_new] | rw [n_put])) <;> omega) | fail) only [get_new_ne, get_put_eq] at glp
    simp only [n_new, n_put] at hn1 e1
    simp (config := { maxSteps := 1000000 }) (disch := first | omega | ((repeat (first | rw [n_new] | rw [n_put])) <;> omega) | fail) only [tt22, gbx, G_nil, G_blkN, G_onil, G_op, GG_true, GX_skip, GP_some, put_lt, put_none, wantedG_none, eq_self, Nat.zero_add, tget_set, tget_of2, nbeq, nble, evalO_tmp, oskip_some, cx_store, storeAt_some, storeIn_cells, isJunk, oneC, splice, Value.cells, List.toList_toArray, List.all_cons, List.all_nil, List.length_cons, List.length_nil, List.getElem?_cons_succ, Option.map_some, cond_true, cond_false, Bool.and_true, decide_true, if_true, if_false, Nat.reduceEqDiff, Nat.reduceLeDiff]
    refine ⟨_, _, _, _, _, _, _, _, (get_put_ne (by omega)).trans glp, rfl, ⟨?_, ?_, ?_, ?_, .slice (some ⟨b1, 0, none⟩) (out.length + 1) (out.length + 1), some b1, ?_, ?_⟩, ?_, ?_⟩
    · refine ⟨by simp only [n_put]; have := h1.le; omega, fun {k} hk => ?_⟩
      rw [get_put_ne (by omega), get_put_ne (by omega), hf2 _ (by have := h1.le; omega) (fun e => by have := h6.lt e; omega) (by omega), h1.get hk]
    · simp only [n_put]; omega
    · rw [get_put_ne (by omega), get_put_ne (by omega), hf2 _ (by omega) (fun e => by have := h6.lt e; omega) (by omega)]; exact h3
    · rw [get_put_eq rfl, ← hX, gl]
    · rw [get_put_ne (by omega), get_put_eq rfl]
    · have ho2 : Own (H.n + 3) H3 (.slice (some ⟨b1, 0, none⟩) (out.length + 1) (out.length + 1)) (out ++ [p]) (some b1) := by
        rw [← e1]; exact ho1
      refine Own.frame ?_ (by simp only [n_put]; omega) (fun k hk => ?_) (H := H3)
      · exact ho2
      · cases hk
        rw [get_put_ne (by omega), get_put_ne (by omega)]
    · simp only [n_put]; omega
    · intro k l' hkn hk
      have q1 : k ≠ H.n + 2 := fun e => by rw [e, h4] at hk; cases hk
      have q2 : k ≠ H.n := fun e => by rw [e, h5] at hk; cases hk
      have q3 : ob ≠ some k := fun e => by
        rcases h6 with ⟨_, _, h⟩ | ⟨_, b, _, h, _, _, h⟩
        · rename_i h; rw [e] at h; cases h
        · rename_i h' _ _; rw [e] at h'; cases h'; rw [hk] at h; cases h
      rw [get_put_ne q1, get_put_ne q2, hf2 _ hkn q3 q1]; exact hk
  · exact ⟨kk, by omega, gd, hX, _, none, gb, .inl ⟨rfl, rfl, rfl⟩⟩
  · rintro v K ⟨h1, h2, h3, h4, v', ob, h5, h6⟩
    rw [← hX, gl] at h4
    refine ⟨_, _, _, _, _, _, _, _, h4, rfl, .inl ⟨rfl, ?_⟩⟩
    simp (config := { maxSteps := 1000000 }) (disch := first | omega | ((repeat (first | rw [n_new] | rw [n_put])) <;> omega) | fail) only [tt22, h5, G_nil, G_seq, G_ret, G_region, G_blkN, G_onil, G_op, GG_true, GX_val, GP_some, put_lt, wantedG_none, eq_self, tget_set, tget_of2, evalO_tmp, oval_eq, get_put_ne, n_new, cx_assign, cx_load, loadAt_some, loadIn_cells, takeN, List.drop_zero, List.head?_cons, List.getElem?_cons_succ, Option.map_some, cond_false, if_true, if_false, Nat.reduceEqDiff]
    have hn3 := h1.le
    refine ⟨H.n + 1, (by first | exact .inl rfl | exact .inr rfl), rfl, ?_, ?_⟩
    · rw [get_put_ne (by omega)]; exact h3
    simp (config := { maxSteps := 1000000 }) (disch := first | omega | ((repeat (first | rw [n_new] | rw [n_put])) <;> omega) | fail) only [eq_self, tget_set, tget_of2, evalO_tmp, resAll, resOne, tupV1, OutR_some, List.getElem?_cons_succ, if_true, if_false, Nat.reduceEqDiff]
    refine ⟨⟨ob, ?_⟩, ?_⟩
    · rcases h6 with h | ⟨h0, b, e1, e2, e3, e4, e5⟩
      · exact .inl h
      · refine .inr ⟨h0, b, e1, e2, by omega, by simp only [n_put]; omega, ?_⟩
        rw [get_put_ne (by omega), get_put_ne (by omega)]; exact e5
    · refine ⟨by simp only [n_put]; omega, fun {k} hk => ?_⟩
      rw [get_put_ne (by omega), get_put_ne (by omega), h1.get hk]
end
end Go.Proofs
