/- Sets of letters in their normal form, in plain words (no statement of the program is proved here). -/
import Derived.Test.YtoanfmlpddlcmaaGreatDoorQG
namespace Go.Proofs
open Go Go.PE
def mnS (h : Int) : Int := if 55295 < h then 55295 else h
def mxS (l : Int) : Int := if 57344 > l then 57344 else l
/-- a range without what are no letters -/
def pieceOf (p : Int × Int) : List (Int × Int) := (if p.1 ≤ mnS p.2 then [(p.1, mnS p.2)] else []) ++ (if mxS p.1 ≤ p.2 then [(mxS p.1, p.2)] else [])
def piecesL (l : List (Int × Int)) : List (Int × Int) := l.flatMap pieceOf
def mergeStep (out : List (Int × Int)) (x : Int × Int) : List (Int × Int) := match out.getLast? with
  | none => [x]
  | some q => if x.1 ≤ q.2 + 1 then out.dropLast ++ [(q.1, if x.2 > q.2 then x.2 else q.2)] else out ++ [x]
def mergeL (l : List (Int × Int)) : List (Int × Int) := l.foldl mergeStep []
def LoS (l : List (Int × Int)) : Prop := l.Pairwise fun p q => p.1 ≤ q.1
def validP (p : Int × Int) : Prop := 0 ≤ p.1 ∧ p.1 ≤ p.2 ∧ p.2 ≤ 1114111
theorem mergeStep_nil {x : Int × Int} : mergeStep [] x = [x] := rfl
theorem mergeStep_in {d : List (Int × Int)} {q x : Int × Int} (h : x.1 ≤ q.2 + 1) : mergeStep (d ++ [q]) x = d ++ [(q.1, if x.2 > q.2 then x.2 else q.2)] := by
  simp only [mergeStep, List.getLast?_append, List.getLast?_singleton, Option.some_or, if_pos h, List.dropLast_concat]
theorem mergeStep_out {d : List (Int × Int)} {q x : Int × Int} (h : ¬ x.1 ≤ q.2 + 1) : mergeStep (d ++ [q]) x = d ++ [q] ++ [x] := by
  simp only [mergeStep, List.getLast?_append, List.getLast?_singleton, Option.some_or, if_neg h]
theorem pieceOf_ok {p : Int × Int} (h : validP p) : ∀ q ∈ pieceOf p, okp q := by
  intro q hq
  obtain ⟨h1, h2, h3⟩ := h
  have e1 : mnS p.2 ≤ 1114111 ∧ mnS p.2 < 55296 := by unfold mnS; split <;> omega
  have e2 : 0 ≤ mxS p.1 ∧ 57343 < mxS p.1 := by unfold mxS; split <;> omega
  unfold pieceOf at hq
  rcases List.mem_append.1 hq with hq | hq
  · split at hq
    · rename_i hl
      rw [List.mem_singleton] at hq
      subst hq
      exact ⟨h1, hl, e1.1, .inl e1.2⟩
    · cases hq
  · split at hq
    · rename_i hl
      rw [List.mem_singleton] at hq
      subst hq
      exact ⟨e2.1, hl, h3, .inr e2.2⟩
    · cases hq
theorem piecesL_ok {l : List (Int × Int)} (h : ∀ p ∈ l, validP p) : ∀ q ∈ piecesL l, okp q := by
  intro q hq
  obtain ⟨p, hp, hq⟩ := List.mem_flatMap.1 hq
  exact pieceOf_ok (h p hp) q hq
theorem pieceOf_id {p : Int × Int} (h : okp p) : pieceOf p = [p] := by
  obtain ⟨h1, h2, h3, h4⟩ := h
  unfold pieceOf mnS mxS
  rcases h4 with h4 | h4
  · rw [if_neg (by omega : ¬ (55295 : Int) < p.2), if_pos h2]
    split
    · rw [if_neg (by omega)]; rfl
    · omega
  · rw [if_pos (by omega : (55295 : Int) < p.2), if_neg (by omega : ¬ p.1 ≤ 55295), if_neg (by omega : ¬ (57344 : Int) > p.1), if_pos h2]; rfl
theorem piecesL_id : ∀ {l : List (Int × Int)}, (∀ p ∈ l, okp p) → piecesL l = l
  | [], _ => rfl
  | p :: l, h => by
    have ih := piecesL_id (l := l) fun p hp => h p (by simp [hp])
    show pieceOf p ++ piecesL l = _
    rw [pieceOf_id (h p (by simp)), ih]; rfl
theorem snoc_cases {α : Type} (l : List α) : l = [] ∨ ∃ d q, l = d ++ [q] := by
  cases h : l.getLast? with
  | none => exact .inl (List.getLast?_eq_none_iff.1 h)
  | some q =>
    obtain ⟨d, hd⟩ := List.getLast?_eq_some_iff.1 h
    exact .inr ⟨d, q, hd⟩
theorem mergeStep_norm {out : List (Int × Int)} {x : Int × Int} (h : NormP out) (hx : okp x) : NormP (mergeStep out x) := by
  rcases snoc_cases out with rfl | ⟨d, q, rfl⟩
  · rw [mergeStep_nil]
    exact ⟨fun p hp => by rw [List.mem_singleton] at hp; rw [hp]; exact hx, List.pairwise_singleton _ _⟩
  · obtain ⟨h1, h2⟩ := h
    rw [List.pairwise_append] at h2
    obtain ⟨hd, _, hdq⟩ := h2
    have hq := h1 q (by simp)
    obtain ⟨q1, q2, q3, q4⟩ := hq
    obtain ⟨x1, x2, x3, x4⟩ := id hx
    by_cases hl : x.1 ≤ q.2 + 1
    · rw [mergeStep_in hl]
      refine ⟨fun p hp => ?_, ?_⟩
      · rcases List.mem_append.1 hp with hp | hp
        · exact h1 p (List.mem_append_left _ hp)
        · rw [List.mem_singleton] at hp
          subst hp
          by_cases hm : x.2 > q.2
          · rw [if_pos hm]; exact ⟨q1, by show q.1 ≤ x.2; omega, x3, by show x.2 < 55296 ∨ 57343 < q.1; omega⟩
          · rw [if_neg hm]; exact ⟨q1, q2, q3, q4⟩
      · rw [List.pairwise_append]
        refine ⟨hd, List.pairwise_singleton _ _, fun a ha b hb => ?_⟩
        rw [List.mem_singleton] at hb
        subst hb
        exact hdq a ha q (by simp)
    · rw [mergeStep_out hl]
      refine ⟨fun p hp => ?_, ?_⟩
      · rcases List.mem_append.1 hp with hp | hp
        · exact h1 p hp
        · rw [List.mem_singleton] at hp; rw [hp]; exact hx
      · rw [List.pairwise_append]
        refine ⟨List.pairwise_append.2 ⟨hd, List.pairwise_singleton _ _, hdq⟩, List.pairwise_singleton _ _, fun a ha b hb => ?_⟩
        rw [List.mem_singleton] at hb
        subst hb
        rcases List.mem_append.1 ha with ha | ha
        · have := hdq a ha q (by simp); omega
        · rw [List.mem_singleton] at ha; subst ha; omega
theorem foldl_norm : ∀ {l out : List (Int × Int)}, NormP out → (∀ p ∈ l, okp p) → NormP (l.foldl mergeStep out)
  | [], _, h, _ => h
  | x :: l, out, h, hl => by
    rw [List.foldl_cons]
    exact foldl_norm (mergeStep_norm h (hl x (by simp))) fun p hp => hl p (by simp [hp])
theorem foldl_id : ∀ {l out : List (Int × Int)}, (out ++ l).Pairwise (fun p q => p.2 + 1 < q.1) → l.foldl mergeStep out = out ++ l
  | [], out, _ => by simp
  | x :: l, out, h => by
    rw [List.foldl_cons]
    have e : mergeStep out x = out ++ [x] := by
      rcases snoc_cases out with rfl | ⟨d, q, rfl⟩
      · rfl
      · rw [List.pairwise_append] at h
        have := h.2.2 q (by simp) x (by simp)
        exact mergeStep_out (by omega)
    rw [e, foldl_id (by simpa using h)]; simp
theorem perm_sorted_eq : ∀ {l s : List (Int × Int)}, s.Perm l → LoS s → l.Pairwise (fun p q => p.1 < q.1) → s = l
  | [], s, h, _, _ => List.Perm.eq_nil h
  | p :: l, s, h, hs, hl => by
    cases s with
    | nil => exact absurd h.symm (by simp)
    | cons q s =>
      have hq : q ∈ p :: l := h.mem_iff.1 (by simp)
      have hp : p ∈ q :: s := h.mem_iff.2 (by simp)
      have e : q = p := by
        rcases List.mem_cons.1 hq with hq | hq
        · exact hq
        · have h1 := (List.pairwise_cons.1 hl).1 q hq
          rcases List.mem_cons.1 hp with hp | hp
          · exact hp.symm
          · have h2 := (List.pairwise_cons.1 hs).1 p hp
            omega
      subst e
      rw [perm_sorted_eq ((List.perm_cons q).1 h) (List.pairwise_cons.1 hs).2 (List.pairwise_cons.1 hl).2]
/-- **a set is its own normal form just if it is of the normal form** -/
theorem norm_fix {l s : List (Int × Int)} (hv : ∀ p ∈ l, validP p) (hp : s.Perm (piecesL l)) (hs : LoS s) : l = mergeL s ↔ NormP l := by
  constructor
  · intro h
    rw [h]
    exact foldl_norm ⟨fun p hp => by simp at hp, List.Pairwise.nil⟩ fun p h' => piecesL_ok hv p (hp.mem_iff.1 h')
  · rintro ⟨h1, h2⟩
    rw [piecesL_id h1] at hp
    have : s = l := perm_sorted_eq hp hs (by
      have : ∀ l : List (Int × Int), (∀ p ∈ l, okp p) → l.Pairwise (fun p q => p.2 + 1 < q.1) → l.Pairwise (fun p q => p.1 < q.1) := by
        intro l h1 h2
        induction l with
        | nil => exact .nil
        | cons p l ih =>
          rw [List.pairwise_cons] at h2 ⊢
          refine ⟨fun q hq => ?_, ih (fun q hq => h1 q (by simp [hq])) h2.2⟩
          have := h2.1 q hq
          have := (h1 p (by simp)).2.1
          omega
      exact this l h1 h2)
    rw [this, mergeL, foldl_id (by simpa using h2)]; rfl
theorem piecesL_take {l : List (Int × Int)} {i : Nat} {p : Int × Int} (h : l[i]? = some p) : piecesL (l.take (i + 1)) = piecesL (l.take i) ++ pieceOf p := by
  rw [List.take_add_one, h]
  simp [piecesL]
theorem pieceOf_len {p : Int × Int} : (pieceOf p).length ≤ 2 := by
  unfold pieceOf; split <;> split <;> simp
theorem piecesL_len : ∀ {l : List (Int × Int)}, (piecesL l).length ≤ 2 * l.length
  | [] => Nat.le_refl _
  | p :: l => by
    have := piecesL_len (l := l)
    have := pieceOf_len (p := p)
    show (pieceOf p ++ piecesL l).length ≤ _
    rw [List.length_append, List.length_cons]; omega
theorem los_insert {A B : List (Int × Int)} {x : Int × Int} (h : LoS (A ++ B)) (hb : ∀ b ∈ B, x.1 ≤ b.1) (ha : A = [] ∨ ∃ d q, A = d ++ [q] ∧ q.1 ≤ x.1) : LoS (A ++ x :: B) := by
  unfold LoS at *
  rw [List.pairwise_append] at h ⊢
  obtain ⟨h1, h2, h3⟩ := h
  refine ⟨h1, List.pairwise_cons.2 ⟨hb, h2⟩, fun a ha' b hb' => ?_⟩
  have hax : a.1 ≤ x.1 := by
    rcases ha with rfl | ⟨d, q, rfl, hq⟩
    · cases ha'
    · rcases List.mem_append.1 ha' with ha' | ha'
      · have := (List.pairwise_append.1 h1).2.2 a ha' q (by simp); omega
      · rw [List.mem_singleton] at ha'; subst ha'; exact hq
  rcases List.mem_cons.1 hb' with rfl | hb'
  · exact hax
  · exact h3 a ha' b hb'
end Go.Proofs
