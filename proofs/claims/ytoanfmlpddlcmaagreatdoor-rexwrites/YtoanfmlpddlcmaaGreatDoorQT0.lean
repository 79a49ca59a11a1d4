/- Letters' bytes, and small operations on texts (no statement of the program is proved here). -/
import Derived.Test.YtoanfmlpddlcmaaGreatDoorPV
import Derived.Test.YtoanfmlpddlcmaaGreatDoorQP
namespace Go.Proofs
open Go Go.PE
noncomputable section
variable {ans : Tr (List Value → Option Value)} {eff : Tr (List Value → Hp → Option (Value × Hp))} {H : Hp} {x y : Operand}
/-- a letter's bytes -/
def utfB (c : Nat) : List UInt8 := if c < 128 then [UInt8.ofNat c] else if c < 2048 then [UInt8.ofNat (192 + c / 64), UInt8.ofNat (128 + c % 64)] else if c < 65536 then [UInt8.ofNat (224 + c / 4096), UInt8.ofNat (128 + c / 64 % 64), UInt8.ofNat (128 + c % 64)] else [UInt8.ofNat (240 + c / 262144), UInt8.ofNat (128 + c / 4096 % 64), UInt8.ofNat (128 + c / 64 % 64), UInt8.ofNat (128 + c % 64)]
def letterP (c : Nat) : Prop := c ≤ 1114111 ∧ (c < 55296 ∨ 57343 < c)
theorem enc_utf {c : Nat} (h : letterP c) : Utf8.encode (c : Int) = bs (utfB c) := by
  have hv : Utf8.valid (c : Int) = true := by
    unfold Utf8.valid
    obtain ⟨h1, h2⟩ := h
    simp only [Bool.or_eq_true, Bool.and_eq_true, decide_eq_true_eq]
    omega
  unfold Utf8.encode utfB
  simp only [hv, if_true, Int.toNat_natCast]
  split
  · rfl
  · split
    · rfl
    · split <;> rfl
theorem utfB_len (c : Nat) : (utfB c).length ≤ 4 := by
  unfold utfB
  repeat' split
  all_goals (simp)
def spL : List UInt8 := [40, 41, 91, 93, 42, 43, 63, 124, 46, 92, 45, 94]
def specB (c : Nat) : Bool := (spL.map UInt8.toNat).contains c
def shownB (c : Nat) : List UInt8 := if c = 10 then [92, 110] else if c = 9 then [92, 116] else if c = 13 then [92, 114] else if specB c then 92 :: utfB c else utfB c
theorem shownB_len (c : Nat) : (shownB c).length ≤ 5 := by
  have := utfB_len c
  unfold shownB
  repeat' split
  all_goals (simp <;> omega)
theorem idxOf_none {c : Nat} : ∀ {l : List UInt8} {i : Nat}, c ∉ l.map UInt8.toNat → idxOf c i l = -1
  | [], i, _ => rfl
  | a :: l, i, h => by
    rw [List.map_cons, List.mem_cons, not_or] at h
    have : Nat.beq a.toNat c = false := by rw [nbeq]; exact decide_eq_false (fun e => h.1 e.symm)
    rw [idxOf, this, cond_false, idxOf_none h.2]
theorem idxOf_some {c : Nat} : ∀ {l : List UInt8} {i : Nat}, c ∈ l.map UInt8.toNat → 0 ≤ idxOf c i l
  | [], i, h => by simp at h
  | a :: l, i, h => by
    rw [idxOf]
    cases hb : Nat.beq a.toNat c with
    | true => rw [cond_true]; exact Int.natCast_nonneg i
    | false =>
      rw [cond_false]
      rw [List.map_cons, List.mem_cons] at h
      rcases h with h | h
      · rw [h, nbeq, decide_eq_true rfl] at hb; cases hb
      · exact idxOf_some h
theorem idx_spec {c i : Nat} : decide (idxOf c i spL ≥ 0) = specB c := by
  unfold specB
  by_cases h : c ∈ spL.map UInt8.toNat
  · rw [decide_eq_true (idxOf_some h)]
    exact (List.contains_iff_mem.2 h).symm
  · rw [idxOf_none h]
    cases hc : (spL.map UInt8.toNat).contains c with
    | true => exact absurd (List.contains_iff_mem.1 hc) h
    | false => rfl
theorem spec_lt {c : Nat} (h : 128 ≤ c) : c ∉ spL.map UInt8.toNat ∧ specB c = false := by
  have h1 : c ∉ spL.map UInt8.toNat := by
    intro hc
    have : ∀ x ∈ spL.map UInt8.toNat, x < 128 := by decide
    have := this c hc
    omega
  refine ⟨h1, ?_⟩
  unfold specB
  cases hc : (spL.map UInt8.toNat).contains c with
  | true => exact absurd (List.contains_iff_mem.1 hc) h1
  | false => rfl
/-! ### operations -/
theorem bsLit {a : UInt8} {l : List UInt8} : ByteArray.mk (List.toArray (a :: l)) = bs (a :: l) := rfl
theorem wr3 : IntKind.i64.wrap 3 = 3 := wrap_ok (by decide) (by decide)
theorem wr4 : IntKind.i64.wrap 4 = 4 := wrap_ok (by decide) (by decide)
theorem wrap32 {c : Nat} (h : c ≤ 1114111) : IntKind.i32.wrap (c : Int) = (c : Int) := by
  have e1 : (2 : Int) ^ IntKind.i32.bits = 4294967296 := by decide
  have e2 : (2 : Int) ^ (IntKind.i32.bits - 1) = 2147483648 := by decide
  have e3 : IntKind.i32.signed = true := rfl
  simp only [IntKind.wrap, e1, e2, e3, Bool.true_and, decide_eq_true_eq]
  split <;> omega
theorem wrap8 {c : Nat} (h : c < 256) : IntKind.u8.wrap (c : Int) = (c : Int) := by
  have e1 : (2 : Int) ^ IntKind.u8.bits = 256 := by decide
  have e3 : IntKind.u8.signed = false := rfl
  simp only [IntKind.wrap, e1, e3, Bool.false_and]
  rw [if_neg (by decide)]
  omega
theorem tE_P : (tE ans eff).P = Tryz.prog := rfl
theorem xconv_flat {E : Env} {s d : Nat} {k : IntKind} {v : Int} {si di : TI} (hs : si.kind = 10) (hd : di.kind = 10 ∨ di.kind = 1) : xconv E s d H (.int k v) (some si) (some di) = oval H (pureV E.P (convert s d (.int k v))) := by
  obtain ⟨_, _, _, ks, _, _, _, _, _, _⟩ := si
  obtain ⟨_, _, _, kd, _, _, _, _, _, _⟩ := di
  simp only at hs hd
  subst hs
  rcases hd with rfl | rfl <;> rfl
theorem xconv_bytes {E : Env} {s d b n : Nat} {si di : TI} (hs : si.kind = 4) (hd : di.kind = 1) : xconv E s d H (.slice (some ⟨b, 0, none⟩) n n) (some si) (some di) = match E.P.underlying si.elem with
      | some (.int .u8) => match strAt n 0 (H.get b) with
        | some l => xval H (.string ⟨⟨l⟩⟩)
        | none => none
      | _ => none := by
  obtain ⟨_, _, _, ks, _, _, _, _, _, _⟩ := si
  obtain ⟨_, _, _, kd, _, _, _, _, _, _⟩ := di
  simp only at hs hd
  subst hs
  subst hd
  rfl
theorem cv_3_21 {c : Nat} (h : c ≤ 1114111) : xconv (tE ans eff) 3 21 H (.int .i64 (c : Int)) (some ⟨false, 1, [(Value.int IntKind.i64 (0))], 10, 0, 0, 0, [], some (Value.int IntKind.i64 (0)), true⟩) (some ⟨false, 1, [(Value.int IntKind.i32 (0))], 10, 0, 0, 0, [], some (Value.int IntKind.i32 (0)), true⟩) = some (.val (.int .i32 (c : Int)), H) := by
  rw [xconv_flat rfl (by decide), tE_P, pv_3_21, wrap32 h]; rfl
theorem cv_3_5 {c : Nat} (h : c < 256) : xconv (tE ans eff) 3 5 H (.int .i64 (c : Int)) (some ⟨false, 1, [(Value.int IntKind.i64 (0))], 10, 0, 0, 0, [], some (Value.int IntKind.i64 (0)), true⟩) (some ⟨false, 1, [(Value.int IntKind.u8 (0))], 10, 0, 0, 0, [], some (Value.int IntKind.u8 (0)), true⟩) = some (.val (.int .u8 (c : Int)), H) := by
  rw [xconv_flat rfl (by decide), tE_P, pv_3_5, wrap8 h]; rfl
theorem cv_21_5 {c : Nat} (h : c < 256) : xconv (tE ans eff) 21 5 H (.int .i32 (c : Int)) (some ⟨false, 1, [(Value.int IntKind.i32 (0))], 10, 0, 0, 0, [], some (Value.int IntKind.i32 (0)), true⟩) (some ⟨false, 1, [(Value.int IntKind.u8 (0))], 10, 0, 0, 0, [], some (Value.int IntKind.u8 (0)), true⟩) = some (.val (.int .u8 (c : Int)), H) := by
  rw [xconv_flat rfl (by decide), tE_P, pv_21_5, wrap8 h]; rfl
theorem cv_21_9 {c : Nat} (h : letterP c) : xconv (tE ans eff) 21 9 H (.int .i32 (c : Int)) (some ⟨false, 1, [(Value.int IntKind.i32 (0))], 10, 0, 0, 0, [], some (Value.int IntKind.i32 (0)), true⟩) (some ⟨false, 1, [(Value.string ⟨#[]⟩)], 1, 0, 0, 0, [], some (Value.string ⟨#[]⟩), true⟩) = some (.val (.string (bs (utfB c))), H) := by
  rw [xconv_flat rfl (by decide), tE_P, pv_21_9, enc_utf h]; rfl
theorem cq64 {n : Nat} (h : n ≤ 1114111) : cbin (tE ans eff) .quo 3 x y H (.int .i64 (n : Int)) (.int .i64 64) = some (.int .i64 ((n / 64 : Nat) : Int)) := by
  have h1 : ∀ a : Int, cbin (tE ans eff) .quo 3 x y H (.int .i64 a) (.int .i64 64) = some (.int .i64 (IntKind.i64.wrap (a.tdiv 64))) := fun a => by kernel_rfl
  rw [h1, show (n : Int).tdiv 64 = ((n / 64 : Nat) : Int) by rw [Int.tdiv_eq_ediv_of_nonneg (by omega)]; omega, wrap_ok (by omega) (by omega)]
theorem cq4096 {n : Nat} (h : n ≤ 1114111) : cbin (tE ans eff) .quo 3 x y H (.int .i64 (n : Int)) (.int .i64 4096) = some (.int .i64 ((n / 4096 : Nat) : Int)) := by
  have h1 : ∀ a : Int, cbin (tE ans eff) .quo 3 x y H (.int .i64 a) (.int .i64 4096) = some (.int .i64 (IntKind.i64.wrap (a.tdiv 4096))) := fun a => by kernel_rfl
  rw [h1, show (n : Int).tdiv 4096 = ((n / 4096 : Nat) : Int) by rw [Int.tdiv_eq_ediv_of_nonneg (by omega)]; omega, wrap_ok (by omega) (by omega)]
theorem cq262144 {n : Nat} (h : n ≤ 1114111) : cbin (tE ans eff) .quo 3 x y H (.int .i64 (n : Int)) (.int .i64 262144) = some (.int .i64 ((n / 262144 : Nat) : Int)) := by
  have h1 : ∀ a : Int, cbin (tE ans eff) .quo 3 x y H (.int .i64 a) (.int .i64 262144) = some (.int .i64 (IntKind.i64.wrap (a.tdiv 262144))) := fun a => by kernel_rfl
  rw [h1, show (n : Int).tdiv 262144 = ((n / 262144 : Nat) : Int) by rw [Int.tdiv_eq_ediv_of_nonneg (by omega)]; omega, wrap_ok (by omega) (by omega)]
theorem cr64 {n : Nat} (h : n ≤ 1114111) : cbin (tE ans eff) .rem 3 x y H (.int .i64 (n : Int)) (.int .i64 64) = some (.int .i64 ((n % 64 : Nat) : Int)) := by
  have h1 : ∀ a : Int, cbin (tE ans eff) .rem 3 x y H (.int .i64 a) (.int .i64 64) = some (.int .i64 (a.tmod 64)) := fun a => by kernel_rfl
  rw [h1, show (n : Int).tmod 64 = ((n % 64 : Nat) : Int) by rw [Int.tmod_eq_emod_of_nonneg (by omega)]; omega]
theorem add128 {n : Nat} (h : n ≤ 2000000) : IntKind.i64.wrap (128 + (n : Int)) = ((128 + n : Nat) : Int) := by
  rw [wrap_ok (by omega) (by omega)]; omega
theorem add192 {n : Nat} (h : n ≤ 2000000) : IntKind.i64.wrap (192 + (n : Int)) = ((192 + n : Nat) : Int) := by
  rw [wrap_ok (by omega) (by omega)]; omega
theorem add224 {n : Nat} (h : n ≤ 2000000) : IntKind.i64.wrap (224 + (n : Int)) = ((224 + n : Nat) : Int) := by
  rw [wrap_ok (by omega) (by omega)]; omega
theorem add240 {n : Nat} (h : n ≤ 2000000) : IntKind.i64.wrap (240 + (n : Int)) = ((240 + n : Nat) : Int) := by
  rw [wrap_ok (by omega) (by omega)]; omega
theorem byteCell {c : Nat} (h : c < 256) : (Value.int .u8 (((UInt8.ofNat c).toNat : Nat) : Int)) = .int .u8 (c : Int) := by
  rw [UInt8.toNat_ofNat_of_lt' h]
theorem cv_83_9 {b n : Nat} {l : List UInt8} (hn : l.length = n) {ty : Nat} {es : Option Nat} {fl : Nat} (hb : H.get b = some (.cells (l.map fun u => .int .u8 (u.toNat : Int)) ty es fl)) : xconv (tE ans eff) 83 9 H (.slice (some ⟨b, 0, none⟩) n n) (some ⟨false, 1, [(.slice none 0 0)], 4, 5, 0, 0, [], some (.slice none 0 0), true⟩) (some ⟨false, 1, [(Value.string ⟨#[]⟩)], 1, 0, 0, 0, [], some (Value.string ⟨#[]⟩), true⟩) = some (.val (.string (bs l)), H) := by
  subst hn
  have hu : Tryz.prog.underlying 5 = some (.int .u8) := Tryz.underlying5
  have h1 : ∀ l : List UInt8, bytesBack (l.map fun u => .int .u8 (u.toNat : Int)) = some l := by
    intro l
    induction l with
    | nil => rfl
    | cons a l ih =>
      rw [List.map_cons]
      show (bif Nat.blt a.toNat 256 then match bytesBack (l.map fun u => .int .u8 (u.toNat : Int)) with
        | some l => some (UInt8.ofNat a.toNat :: l)
        | none => none
      else none) = _
      have h2 : Nat.blt a.toNat 256 = true := by rw [Nat.blt_eq]; exact a.toNat_lt
      rw [h2, cond_true, ih]
      simp
  have h3 : strAt l.length 0 (H.get b) = some l := by
    rw [hb, strAt, firstIn, List.drop_zero]
    have := takeN_all (l.map fun u => (.int .u8 (u.toNat : Int) : Value))
    rw [List.length_map] at this
    rw [this]
    exact h1 l
  rw [xconv_bytes rfl rfl, tE_P, hu, h3]; rfl
end
end Go.Proofs
