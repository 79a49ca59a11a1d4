/- The plain law under the statement RexPlain: letters, and the bytes that are theirs (no statement of the program is proved here). -/
import Derived.Test.YtoanfmlpddlcmaaGreatDoorRM
namespace Go.Proofs
open Go Go.PE
/-- what stands at a beginning that is a letter -/
def Enc (N b0 b1 b2 b3 c n : Nat) : Prop :=
  (n = 1 ∧ b0 < 128 ∧ c = b0) ∨
  (n = 2 ∧ b0 / 32 = 6 ∧ 1 < N ∧ b1 / 64 = 2 ∧ c = b0 % 32 * 64 + b1 % 64 ∧ 128 ≤ c) ∨
  (n = 3 ∧ b0 / 16 = 14 ∧ 2 < N ∧ b1 / 64 = 2 ∧ b2 / 64 = 2 ∧ c = b0 % 16 * 4096 + b1 % 64 * 64 + b2 % 64 ∧ 2048 ≤ c ∧ (c < 55296 ∨ 57344 ≤ c)) ∨
  (n = 4 ∧ b0 / 8 = 30 ∧ 3 < N ∧ b1 / 64 = 2 ∧ b2 / 64 = 2 ∧ b3 / 64 = 2 ∧ c = b0 % 8 * 262144 + b1 % 64 * 4096 + b2 % 64 * 64 + b3 % 64 ∧ 65536 ≤ c ∧ c ≤ 1114111)
set_option maxHeartbeats 4000000 in
theorem enc_of {N b0 b1 b2 b3 c n : Nat} (h : Lib.decodeN N b0 b1 b2 b3 = (c, n)) (hc : ¬ (c = 65533 ∧ n ≤ 1)) : Enc N b0 b1 b2 b3 c n := by
  unfold Lib.decodeN at h
  unfold Enc
  repeat' split at h
  all_goals (simp only [Prod.mk.injEq] at h; obtain ⟨rfl, rfl⟩ := h; omega)
set_option maxHeartbeats 4000000 in
theorem dec_of {N b0 b1 b2 b3 c n : Nat} (h : Enc N b0 b1 b2 b3 c n) : Lib.decodeN N b0 b1 b2 b3 = (c, n) ∧ ¬ (c = 65533 ∧ n ≤ 1) := by
  unfold Enc at h
  refine ⟨?_, by omega⟩
  unfold Lib.decodeN
  repeat' split
  all_goals first | (exfalso; omega) | (rw [Prod.mk.injEq]; omega)
theorem enc_inj {N M a0 a1 a2 a3 b0 b1 b2 b3 c n m : Nat} (h : Enc N a0 a1 a2 a3 c n) (k : Enc M b0 b1 b2 b3 c m) : n = m ∧ a0 = b0 ∧ (1 < n → a1 = b1) ∧ (2 < n → a2 = b2) ∧ (3 < n → a3 = b3) := by
  unfold Enc at h k
  rcases h with h | h | h | h <;> rcases k with k | k | k | k <;> refine ⟨by omega, by omega, fun _ => by omega, fun _ => by omega, fun _ => by omega⟩
def by' (l : List UInt8) (i : Nat) : Nat := (l.getD i 0).toNat
theorem letN_enc {l : List UInt8} {c n : Nat} (h : letN l = (c, n)) (hn : n ≠ 0) : Enc l.length (by' l 0) (by' l 1) (by' l 2) (by' l 3) c n ∧ l ≠ [] := by
  have hl : l ≠ [] := by
    rintro rfl
    have : letN [] = (0, 0) := rfl
    rw [this] at h; cases h; exact hn rfl
  unfold letN at h
  split at h
  · cases h; exact absurd rfl hn
  · rename_i hx
    rw [h] at hx
    rw [dec_N hl] at h
    exact ⟨enc_of h hx, hl⟩
theorem letN_of {l : List UInt8} {c n : Nat} (hl : l ≠ []) (h : Enc l.length (by' l 0) (by' l 1) (by' l 2) (by' l 3) c n) : letN l = (c, n) := by
  obtain ⟨h1, h2⟩ := dec_of h
  have : dec l = (c, n) := by rw [dec_N hl]; exact h1
  unfold letN
  rw [this, if_neg h2]
theorem Enc.ok {N b0 b1 b2 b3 c n : Nat} (h : Enc N b0 b1 b2 b3 c n) (hN : N ≠ 0) : Okc c ∧ n ≤ N ∧ n ≤ 4 ∧ 1 ≤ n := by
  unfold Enc at h
  unfold Okc
  omega
theorem by_app {l t : List UInt8} {i : Nat} (h : i < l.length) : by' (l ++ t) i = by' l i := by
  unfold by'
  rw [List.getD_eq_getElem?_getD, List.getD_eq_getElem?_getD, List.getElem?_append_left h]
theorem letN_app {l t : List UInt8} {c n : Nat} (h : letN l = (c, n)) (hn : n ≠ 0) : letN (l ++ t) = (c, n) := by
  obtain ⟨he, hl⟩ := letN_enc h hn
  have h0 : l.length ≠ 0 := fun e => hl (List.eq_nil_of_length_eq_zero e)
  refine letN_of (by simp [hl]) ?_
  rw [List.length_append, by_app (by omega)]
  unfold Enc at he ⊢
  rcases he with h | h | h | h
  · omega
  · rw [by_app (by omega : 1 < l.length)]; omega
  · rw [by_app (by omega : 1 < l.length), by_app (by omega : 2 < l.length)]; omega
  · rw [by_app (by omega : 1 < l.length), by_app (by omega : 2 < l.length), by_app (by omega : 3 < l.length)]; omega
theorem by_eq {a b : List UInt8} {i : Nat} (ha : i < a.length) (hb : i < b.length) (h : by' a i = by' b i) : a[i]? = b[i]? := by
  unfold by' at h
  rw [List.getD_eq_getElem?_getD, List.getD_eq_getElem?_getD, List.getElem?_eq_getElem ha, List.getElem?_eq_getElem hb] at h
  rw [List.getElem?_eq_getElem ha, List.getElem?_eq_getElem hb]
  exact congrArg some (UInt8.toNat_inj.1 h)
theorem letN_inj {a b : List UInt8} {c n m : Nat} (h : letN a = (c, n)) (hn : n ≠ 0) (k : letN b = (c, m)) (hm : m ≠ 0) : n = m ∧ a.take n = b.take n := by
  obtain ⟨he, ha⟩ := letN_enc h hn
  obtain ⟨ke, hb⟩ := letN_enc k hm
  have ha0 : a.length ≠ 0 := fun e => ha (List.eq_nil_of_length_eq_zero e)
  have hb0 : b.length ≠ 0 := fun e => hb (List.eq_nil_of_length_eq_zero e)
  obtain ⟨e, e0, e1, e2, e3⟩ := enc_inj he ke
  subst e
  have o1 := he.ok ha0
  have o2 := ke.ok hb0
  refine ⟨rfl, List.ext_getElem? fun i => ?_⟩
  by_cases hi : i < n
  · rw [List.getElem?_take, List.getElem?_take, if_pos hi, if_pos hi]
    refine by_eq (by omega) (by omega) ?_
    match i with
    | 0 => exact e0
    | 1 => exact e1 hi
    | 2 => exact e2 hi
    | 3 => exact e3 hi
    | i + 4 => omega
  · rw [List.getElem?_take, List.getElem?_take, if_neg hi, if_neg hi]
theorem Spl.okc {l : List UInt8} {p : List (Nat × Nat)} {pos : Nat} (h : Spl l p pos) : ∀ c ∈ p.map Prod.fst, Okc c := by
  induction h with
  | nil => intro c h; cases h
  | @snoc p pos c n _ h1 h2 h3 ih =>
    intro d hd
    rw [List.map_append, List.mem_append] at hd
    rcases hd with hd | hd
    · exact ih d hd
    · simp only [List.map_cons, List.map_nil, List.mem_singleton] at hd
      subst hd
      obtain ⟨he, hl⟩ := letN_enc h2 h3
      exact (he.ok fun e => hl (List.eq_nil_of_length_eq_zero e)).1
theorem walk_app {l t : List UInt8} {p : List (Nat × Nat)} {pos : Nat} (h : Spl l p pos) : walk (l ++ t) (p.map Prod.fst) (some 0) = some pos := by
  induction h with
  | nil => rfl
  | @snoc p pos c n _ h1 h2 h3 ih =>
    rw [List.map_append, List.map_cons, List.map_nil, walk_snoc, ih]
    have : letN ((l ++ t).drop pos) = (c, n) := by
      rw [List.drop_append_of_le_length (by omega)]; exact letN_app h2 h3
    show stepL (l ++ t) c pos = _
    unfold stepL
    rw [if_pos (by rw [List.length_append]; omega), this, if_pos ⟨by dsimp only; omega, rfl⟩]
theorem walk_pre {l t : List UInt8} {p : List (Nat × Nat)} {pos : Nat} (h : Spl l p pos) : ∀ q, walk t (p.map Prod.fst) (some 0) = some q → q = pos ∧ t.take pos = l.take pos ∧ pos ≤ t.length := by
  induction h with
  | nil => intro q hq; cases hq; exact ⟨rfl, rfl, Nat.zero_le _⟩
  | @snoc p pos c n _ h1 h2 h3 ih =>
    intro q hq
    rw [List.map_append, List.map_cons, List.map_nil, walk_snoc] at hq
    cases hw : walk t (p.map Prod.fst) (some 0) with
    | none => rw [hw] at hq; cases hq
    | some q0 =>
      obtain ⟨rfl, ht, hle⟩ := ih q0 hw
      rw [hw] at hq
      have hq : stepL t c q0 = some q := hq
      unfold stepL at hq
      split at hq
      · rename_i hlt
        split at hq
        · rename_i hc
          cases hq
          obtain ⟨hm, hc⟩ := hc
          have hk : letN (t.drop q0) = (c, (letN (t.drop q0)).2) := by rw [hc]
          obtain ⟨e, et⟩ := letN_inj h2 h3 hk (by omega)
          have hle' := letN_le hk
          rw [List.length_drop] at hle'
          rw [← e] at hle' ⊢
          exact ⟨rfl, by rw [List.take_add, List.take_add, ht, et], by omega⟩
        · cases hq
      · cases hq
end Go.Proofs
