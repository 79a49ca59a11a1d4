/- Expressions that lie in memory, and what they are as data (no statement of the program is proved here). -/
import Derived.Test.YtoanfmlpddlcmaaGreatDoorPV
namespace Go.Proofs
open Go Go.PE
mutual
inductive RexT where
  | node (op : Int) (set : List (Int × Int)) (subs : RexL)
inductive RexL where
  | nil
  | cons (x : RexT) (l : RexL)
end
def RexL.len : RexL → Nat
  | .nil => 0
  | .cons _ l => l.len + 1
def pairC (p : Int × Int) : List Value := [.int .i64 p.1, .int .i64 p.2]
def anyP : Hp → List Value → Prop := fun _ _ => True
mutual
/-- cells that are an expression -/
def RX (H : Hp) : RexT → List Value → Prop
  | .node op set subs, cs => ∃ sv bv els, cs = [.int .i64 op, sv, bv] ∧ SlAt 2 anyP H sv (set.map pairC) ∧ SlAt 3 anyP H bv els ∧ RXL H subs els
def RXL (H : Hp) : RexL → List (List Value) → Prop
  | .nil, els => els = []
  | .cons x l, els => ∃ e r, els = e :: r ∧ RX H x e ∧ RXL H l r
end
theorem anyP_mono : Mono anyP := fun _ _ _ _ _ => trivial
mutual
theorem RX.mono {H H' : Hp} (k : Keep H H') : ∀ (t : RexT) (cs : List Value), RX H t cs → RX H' t cs
  | .node op set subs, cs, h => by
    unfold RX at h ⊢
    obtain ⟨sv, bv, els, h1, h2, h3, h4⟩ := h
    exact ⟨sv, bv, els, h1, h2.mono anyP_mono k, h3.mono anyP_mono k, RXL.mono k subs els h4⟩
theorem RXL.mono {H H' : Hp} (k : Keep H H') : ∀ (l : RexL) (els : List (List Value)), RXL H l els → RXL H' l els
  | .nil, els, h => h
  | .cons x l, els, h => by
    unfold RXL at h ⊢
    obtain ⟨e, r, h1, h2, h3⟩ := h
    exact ⟨e, r, h1, RX.mono k x e h2, RXL.mono k l r h3⟩
end
theorem _root_.Go.PE.SlAt.any {k : Nat} {PE : Hp → List Value → Prop} {H : Hp} {v : Value} {els : List (List Value)} (h : SlAt k PE H v els) : SlAt k anyP H v els := by
  rcases h with h | ⟨h0, b, ty, h1, h2, h3, h4⟩
  · exact .inl h
  · exact .inr ⟨h0, b, ty, h1, h2, h3, h4.1, fun e he => ⟨(h4.2 e he).1, trivial⟩⟩
theorem _root_.Go.PE.SlAt.all {k : Nat} {PE : Hp → List Value → Prop} {H : Hp} {v : Value} {els : List (List Value)} (h : SlAt k PE H v els) : ∀ e ∈ els, PE H e := by
  rcases h with ⟨rfl, _⟩ | ⟨h0, b, ty, h1, h2, h3, h4⟩
  · intro e he; cases he
  · exact fun e he => (h4.2 e he).2
theorem RXL.of {H : Hp} : ∀ (els : List (List Value)), (∀ e ∈ els, ∃ t, RX H t e) → ∃ l, RXL H l els
  | [], _ => ⟨.nil, by unfold RXL; rfl⟩
  | e :: els, h => by
    obtain ⟨t, ht⟩ := h e (by simp)
    obtain ⟨l, hl⟩ := RXL.of els fun e he => h e (by simp [he])
    exact ⟨.cons t l, by unfold RXL; exact ⟨e, els, rfl, ht, hl⟩⟩
theorem pairs_of : ∀ (els : List (List Value)), (∀ e ∈ els, ∃ a b, e = pairC (a, b)) → ∃ l : List (Int × Int), els = l.map pairC
  | [], _ => ⟨[], rfl⟩
  | e :: els, h => by
    obtain ⟨a, b, hab⟩ := h e (by simp)
    obtain ⟨l, hl⟩ := pairs_of els fun e he => h e (by simp [he])
    exact ⟨(a, b) :: l, by rw [List.map_cons, hab, hl]⟩
variable {D : Type} {enc : TypeId × Value → D} {w : World} {held : Bool}
abbrev Rd (enc : TypeId × Value → D) (w : World) (held : Bool) (n : Nat) (t : TypeId) (cs : List Value) : Prop := ∃ x, DataW.trod enc Tryz.prog w 0 (fun _ => true) held n t cs = some x
theorem cells62 : Tryz.prog.cellsOf 62 = 2 := by kernel_rfl
theorem cells25 : Tryz.prog.cellsOf 25 = 3 := by kernel_rfl
theorem cells3 : Tryz.prog.cellsOf 3 = 1 := by kernel_rfl
theorem cells22 : Tryz.prog.cellsOf 22 = 1 := by kernel_rfl
theorem cells23 : Tryz.prog.cellsOf 23 = 1 := by kernel_rfl
theorem rd_int {n : Nat} {cs : List Value} (h : Rd enc w held n 3 cs) : ∃ a, cs = [.int .i64 a] := by
  obtain ⟨x, hx⟩ := h
  obtain ⟨a, h, _⟩ := DataW.trod_int Tryz.underlying3 hx
  exact ⟨a, h⟩
set_option maxRecDepth 100000 in
theorem pic_runes {n : Nat} : Pic Tryz.prog w (fun cs => cs.length = 2 ∧ Rd enc w held n 62 cs) (fun _ cs => ∃ a b, cs = pairC (a, b)) := by
  rintro cs ⟨hl, x, hx⟩ G ρ H W
  obtain ⟨y0, y1, m, _, _, h0, h1⟩ := ChangeShapes.trod_struct2 Tryz.underlying62 hx
  match cs, hl with
  | [c0, c1], _ =>
    simp only [cells3, List.drop_zero, List.take_succ_cons, List.take_zero, List.drop_succ_cons] at h0 h1
    obtain ⟨a, h0⟩ := rd_int ⟨_, h0⟩
    obtain ⟨b, h1⟩ := rd_int ⟨_, h1⟩
    cases h0; cases h1
    exact ⟨H, ρ, _, W, .refl _, .refl _, .cons (.int _ _) (.cons (.int _ _) .nil), a, b, rfl⟩
set_option maxRecDepth 100000 in
theorem pic_rex : ∀ {n : Nat}, Pic Tryz.prog w (fun cs => cs.length = 3 ∧ Rd enc w held n 25 cs) (fun H cs => ∃ t, RX H t cs) := by
  intro n
  induction n using Nat.strongRecOn with
  | _ n ih =>
    rintro cs ⟨hl, x, hx⟩ G ρ H W
    obtain ⟨xs, m, hm, _, _, hlx, hf⟩ := DataW.trod_struct Tryz.underlying25 hx
    subst hm
    have hsz : xs.length = 3 := hlx
    match cs, hl, xs, hsz with
    | [c0, c1, c2], _, [x0, x1, x2], _ =>
      have h0 := hf 0 _ rfl
      have h1 := hf 1 _ rfl
      have h2 := hf 2 _ rfl
      simp only [cells3, cells22, cells23, List.drop_zero, List.take_succ_cons, List.take_zero, List.drop_succ_cons, List.getElem?_cons_zero, List.getElem?_cons_succ] at h0 h1 h2
      obtain ⟨a, h0⟩ := rd_int ⟨_, h0⟩
      cases h0
      cases m with
      | zero => simp [DataW.trod] at h1
      | succ m =>
        obtain ⟨H1, ρ1, p1, W1, l1, k1, v1, sv, els1, rfl, hs1⟩ := pic_slice (enc := enc) (held := held) (n := m) Tryz.underlying22 cells62 (by decide) (fun _ _ _ _ h => h) pic_runes [c1] ⟨_, h1⟩ G ρ H W
        obtain ⟨H2, ρ2, p2, W2, l2, k2, v2, bv, els2, rfl, hs2⟩ := pic_slice (enc := enc) (held := held) (n := m) Tryz.underlying23 cells25 (by decide) (fun H H' cs k h => ⟨h.choose, RX.mono k _ _ h.choose_spec⟩) (ih m (by omega)) [c2] ⟨_, h2⟩ G ρ1 H1 W1
        obtain ⟨subs, hsub⟩ := RXL.of els2 hs2.all
        obtain ⟨set, hset⟩ := pairs_of els1 hs1.all
        subst hset
        refine ⟨H2, ρ2, [.int .i64 a, sv, bv], W2, l1.trans l2, k1.trans k2, ?_, .node a set subs, ?_⟩
        · exact .cons (.int _ _) ((v1.mono l2).append v2)
        · unfold RX
          exact ⟨sv, bv, els2, rfl, hs1.any.mono anyP_mono k2, hs2.any, hsub⟩
end Go.Proofs
