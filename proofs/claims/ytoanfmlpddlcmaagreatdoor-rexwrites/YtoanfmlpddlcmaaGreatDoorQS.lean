/- slices.SortFunc as an answered call, by the library's contract (no statement of the program is proved here). -/
import Derived.Test.YtoanfmlpddlcmaaGreatDoorQO
import Derived.Test.YtoanfmlpddlcmaaGreatDoorQR
import Derived.WalkKit
import Derived.ProofKit
import Derived.OpenShut
namespace Go.Proofs
open Go.RowKit Go.Sort Go.Shelf Go.Lib
set_option maxHeartbeats 1000000 in
/-- the comparison by Lo, in whatever world: two blocks are laid -/
theorem Tryz.closure90 (x y : Int × Int) (W : World) : Calls Tryz.prog 90 #[.agg #[.int .i64 x.1, .int .i64 x.2], .agg #[.int .i64 y.1, .int .i64 y.2]] W fun e w' => e = .returned (.int .i64 (Lib.compareInt x.1 y.1)) ∧ ∃ q os', w' = grow (W.drewN q) os' := by
  have hcon := fun W' => AnyG.cmp_Compare_int Tryz.cmpInt x.1 y.1 W'
  change ∀ W', Calls Tryz.prog 91 _ _ _ at hcon
  generalize Lib.compareInt x.1 y.1 = r at hcon ⊢
  go_enter Tryz.func90, Tryz.ntmps90
  go_wp2_with (go_at_call 91; refine (hcon _).mono ?_; rintro e w' ⟨rfl, rfl⟩)
  go_ret
  exact ⟨rfl, 0, _, by rw [alloc_eq_grow, alloc_eq_grow, grow_grow]; rfl⟩
theorem Tryz.ltLo (x y : Int × Int) : ltOf (fun x y : Int × Int => Lib.compareInt x.1 y.1) x y = decide (x.1 < y.1) := by
  unfold ltOf Lib.compareInt
  by_cases h1 : x.1 < y.1
  · simp [h1]
  · by_cases h2 : y.1 < x.1 <;> simp [h1, h2]
theorem Tryz.swoLo : SWO (ltOf fun x y : Int × Int => Lib.compareInt x.1 y.1) where
  irrefl x := by rw [Tryz.ltLo]; simp
  trans x y z h1 h2 := by rw [Tryz.ltLo] at *; simp at *; omega
  ntrans x y z h1 h2 := by rw [Tryz.ltLo] at *; simp at *; omega
end Go.Proofs
namespace Go.Proofs
open Go Go.PE Go.RowKit
noncomputable section
def sortL (l : List (Int × Int)) : List (Int × Int) := (Sort.pdq (Go.Proofs.ltOf fun x y : Int × Int => Lib.compareInt x.1 y.1) l.toArray 0 l.toArray.size (Lib.bitLen l.toArray.size) true true).toList
theorem sortL_ok (l : List (Int × Int)) : (sortL l).length = l.length ∧ (sortL l).Perm l ∧ LoS (sortL l) := by
  have h := Sort.pdq_sorts (Go.Proofs.ltOf fun x y : Int × Int => Lib.compareInt x.1 y.1) Tryz.swoLo l.toArray 0 l.toArray.size (Lib.bitLen l.toArray.size) true true (Nat.zero_le _) (Nat.le_refl _) (Or.inl rfl)
  obtain ⟨⟨h1, _, h2⟩, h3⟩ := h
  unfold sortL
  generalize Sort.pdq (Go.Proofs.ltOf fun x y : Int × Int => Lib.compareInt x.1 y.1) l.toArray 0 l.toArray.size (Lib.bitLen l.toArray.size) true true = d at *
  have hs : d.toList.length = l.length := by simpa using h1
  refine ⟨hs, ?_, ?_⟩
  · have e1 : d.extract 0 l.toArray.size = d := by rw [← h1]; exact Array.extract_size
    have e2 : l.toArray.extract 0 l.toArray.size = l.toArray := Array.extract_size
    rw [e1, e2] at h2
    exact h2
  · unfold LoS
    rw [List.pairwise_iff_getElem]
    intro i j hi hj hij
    have := h3 i j (Nat.zero_le _) hij (by rw [← h1]; simpa using hj)
    rw [Tryz.ltLo, decide_eq_false_iff_not] at this
    rw [getElem!_pos d j (by simpa using hj), getElem!_pos d i (by simpa using hi)] at this
    simp only [Array.getElem_toList]
    omega
def unP : List Value → Option (List (Int × Int))
  | [] => some []
  | .int .i64 a :: .int .i64 b :: r => match unP r with
    | some l => some ((a, b) :: l)
    | none => none
  | _ => none
theorem unP_flatP : ∀ (l : List (Int × Int)), unP (flatP l) = some l
  | [] => rfl
  | (a, b) :: l => by rw [flatP_cons, unP, unP_flatP l]
theorem flatP_unP {cs : List Value} : ∀ {l : List (Int × Int)}, unP cs = some l → cs = flatP l := by
  fun_induction unP cs with
  | case1 => intro l h; cases h; rfl
  | case2 a b r l' hr ih => intro l h; cases h; rw [flatP_cons, ← ih hr]
  | case3 => intro l h; cases h
  | case4 => intro l h; cases h
def isF90 : Value → Bool
  | .func (.func f) a b => Nat.beq f 90 && (Nat.beq a.size 0 && Nat.beq b.size 0)
  | _ => false
def sortE (H : Hp) : Value → Option (Value × Hp)
  | .slice none 0 0 => some (.tuple #[], H)
  | .slice (some ⟨b, 0, none⟩) n _ => match H.get b with
    | some (.cells cs ty (some 2) 0) => match unP cs with
      | some l => if n = l.length ∧ n < 4611686018427387904 then some (.tuple #[], H.put b (.cells (flatP (sortL l)) ty (some 2) 0)) else none
      | none => none
    | _ => none
  | _ => none
/-- what the sort answers -/
def sortEff (args : List Value) (H : Hp) : Option (Value × Hp) := match args with
  | [s, f] => bif isF90 f then sortE H s else none
  | _ => none
/-! ### the row in the world -/
theorem VL_flatP {ρ : RM} : ∀ {l : List (Int × Int)} {X : List Value}, VL ρ (flatP l) X → X = flatP l
  | [], X, h => h.unnil
  | p :: l, X, h => by
    rw [flatP_cons] at h
    obtain ⟨y, r, rfl, h1, h2⟩ := h.uncons
    obtain ⟨y2, r2, rfl, h3, h4⟩ := h2.uncons
    cases h1; cases h3
    rw [VL_flatP h4, flatP_cons]
theorem VL_flatP_refl {ρ : RM} : ∀ (l : List (Int × Int)), VL ρ (flatP l) (flatP l)
  | [] => .nil
  | p :: l => by rw [flatP_cons]; exact .cons (.int _ _) (.cons (.int _ _) (VL_flatP_refl l))
theorem flatP_get : ∀ (l : List (Int × Int)) (t : Nat), t < l.length * 2 → (flatP l)[t]? = some ((pairC l[t / 2]!)[t % 2]!)
  | [], t, h => by simp at h
  | p :: l, 0, h => by rw [flatP_cons]; rfl
  | p :: l, 1, h => by rw [flatP_cons]; rfl
  | p :: l, t + 2, h => by
    rw [flatP_cons, List.getElem?_cons_succ, List.getElem?_cons_succ, flatP_get l t (by rw [List.length_cons] at h; omega)]
    rw [show (t + 2) / 2 = t / 2 + 1 by omega, show (t + 2) % 2 = t % 2 by omega]
    simp
theorem flatK_list (l : List (Int × Int)) : (Sort.flatK pairC 2 l.toArray).toList = flatP l := by
  apply List.ext_getElem?
  intro t
  by_cases h : t < l.length * 2
  · rw [flatP_get l t h, Array.getElem?_toList]
    have hs : (Sort.flatK pairC 2 l.toArray).size = l.length * 2 := by simp
    rw [getElem?_pos _ t (by omega)]
    have := Sort.get_flatK pairC 2 l.toArray t (by simpa using h)
    rw [getElem!_pos _ t (by omega)] at this
    rw [this]
    simp
  · rw [List.getElem?_eq_none (by simp; omega), List.getElem?_eq_none (by rw [flatP_len]; omega)]
theorem putCells_window {off : Nat} {F rc : Array Value} (h : off + F.size ≤ rc.size) : ((Sort.putCells id off F rc).toList.drop off).take F.size = F.toList := by
  apply List.ext_getElem?
  intro t
  rw [List.getElem?_take]
  by_cases ht : t < F.size
  · rw [if_pos ht, List.getElem?_drop, Array.getElem?_toList, Array.getElem?_toList]
    unfold Sort.putCells
    rw [Array.getElem?_mapIdx, Array.getElem?_eq_getElem (by omega), Option.map_some, if_pos ⟨by omega, by omega⟩, show off + t - off = t by omega, getElem!_pos F t ht, Array.getElem?_eq_getElem ht]
    rfl
  · rw [if_neg ht, Array.getElem?_toList, Array.getElem?_eq_none (by omega)]
theorem func90_of {ρ : RM} {f f' : Value} (hf : isF90 f = true) (h : VR ρ f f') : f' = .func (.func 90) #[] #[] := by
  unfold isF90 at hf
  split at hf
  · rename_i g a b
    simp only [Bool.and_eq_true] at hf
    obtain ⟨h1, h2, h3⟩ := hf
    have h1 := Nat.eq_of_beq_eq_true h1
    have h2 := Nat.eq_of_beq_eq_true h2
    have h3 := Nat.eq_of_beq_eq_true h3
    subst h1
    cases h with
    | func ha hc h1 h2 =>
      rename_i a' c'
      have e1 : a' = #[] := Array.eq_empty_of_size_eq_zero (by omega)
      have e2 : c' = #[] := Array.eq_empty_of_size_eq_zero (by omega)
      rw [e1, e2]
  · cases hf
theorem sort_eff {G : Nat → Option Nat} {N0 : Nat} {w0 : World} {args : List Value} {H H' : Hp} {v : Value} (h : sortEff args H = some (v, H')) {ρ : RM} {args' : Array Value} {w : World} (W : WR G N0 w0 ρ H w) (ha : VL ρ args args'.toList) :
    CallsIn Fence.wide 0 Tryz.prog 101 args' w fun en w' => ∃ ρ' v', en = .returned v' ∧ VR ρ' v v' ∧ WR G N0 w0 ρ' H' w' ∧ Ext ρ H ρ' H' := by
  unfold sortEff at h
  split at h
  case h_2 => cases h
  rename_i s f
  cases hf : isF90 f with
  | false => rw [hf] at h; cases h
  | true =>
  rw [hf, cond_true] at h
  obtain ⟨s', r', e1, h1, h2⟩ := ha.uncons
  obtain ⟨f', r'', rfl, h3, h4⟩ := h2.uncons
  have := h4.unnil; subst this
  have := func90_of hf h3; subst this
  have : args' = #[s', .func (.func 90) #[] #[]] := Array.ext' (by simpa using e1)
  subst this
  clear e1 h2 h4 ha
  unfold sortE at h
  split at h
  · cases h
    cases h1
    refine callsIn_wide.2 ((AnyF.slices_SortFunc_none Tryz.sortRunes none 0 _ w).mono ?_)
    rintro e w' ⟨rfl, rfl⟩
    exact ⟨ρ, _, rfl, .tuple' .nil, W, .refl _ _⟩
  · rename_i b n c
    split at h
    · rename_i cs ty hg
      split at h
      · rename_i l hu
        split at h
        · rename_i hn
          cases h
          obtain ⟨hn, hlt⟩ := hn
          have hcs := flatP_unP hu
          subst hcs
          cases h1 with
          | @sl _ _ _ _ c' m hm hcap =>
            have ob := W.obj b _ m hg (by simp) hm
            cases ob with
            | @cells _ _ _ _ rc fz hb hrs hes hsh hlen hcv hf =>
              have hwin := VL_flatP hcv
              have hfz := hf.1 rfl
              rw [flatP_len] at hlen hwin
              have hH : Sort.HoldsK pairC 2 w m.blk m.sh l.toArray := by
                intro j hj
                have hj' : j < l.length * 2 := by simpa using hj
                have hg1 : rc[m.sh + j]? = (flatP l)[j]? := by
                  rw [← hwin, List.getElem?_take, if_pos hj', List.getElem?_drop, Array.getElem?_toList]
                have hg2 : (flatP l)[j]? = some ((Sort.flatK pairC 2 l.toArray)[j]!) := by
                  rw [← flatK_list, Array.getElem?_toList, getElem?_pos _ j hj, getElem!_pos _ j hj]
                refine ⟨?_, ?_⟩
                · simp only [World.cell?, hb]
                  rw [hg1, hg2]; rfl
                · simp only [World.frozen?, hb, hfz]
                  simp
              have hblk : m.blk < w.heap.size := (Array.getElem?_eq_some_iff.1 hb).1
              have eg : ∀ args w, (callFunc 90 args).run Tryz.prog w = .ok (.enter 90 args) w := enters_of Tryz.func90 (by kernel_rfl) rfl
              have hcon := AnyQ.slices_SortFunc_eq Tryz.sortRunes 2 Tryz.isAgg62 Tryz.sizeOf62 pairC (fun _ => rfl) (fun x v hv => by simp [pairC] at hv; rcases hv with rfl | rfl <;> rfl) (fun x y => Lib.compareInt x.1 y.1) Tryz.swoLo 90 #[] m.blk m.sh c' l.toArray w eg (fun _ _ _ _ x y => Tryz.closure90 x y _) hH hblk (by simp; omega)
              change Calls Tryz.prog 101 _ _ _ at hcon
              rw [hn]
              refine callsIn_wide.2 (Calls.mono hcon ?_)
              rintro e w' ⟨rfl, q, os, rfl⟩
              have hd : Sort.pdq (ltOf fun x y : Int × Int => Lib.compareInt x.1 y.1) l.toArray 0 l.toArray.size (Lib.bitLen l.toArray.size) true true = (sortL l).toArray := by simp [sortL]
              rw [hd]
              unfold sortWorldK Sort.putRowK
              have hsl := (sortL_ok l).1
              have hF : (Sort.flatK pairC 2 (sortL l).toArray).toList = flatP (sortL l) := flatK_list _
              have hFs : (Sort.flatK pairC 2 (sortL l).toArray).size = l.length * 2 := by simp [hsl]
              generalize Sort.flatK pairC 2 (sortL l).toArray = F at hF hFs
              have hFs' : m.sh + F.size ≤ rc.size := by omega
              have hb1 : (Sort.putRow id (Sort.ahead w q) m.blk m.sh F).heap[m.blk]? = some (.cells (Sort.putCells id m.sh F rc) ty fz) := by
                unfold Sort.putRow Sort.mapBlock
                simp only [Array.getElem?_modify, if_true]
                show Option.map _ (w.heap[m.blk]?) = _
                rw [hb]; rfl
              have hot : ∀ k, k ≠ m.blk → (Sort.putRow id (Sort.ahead w q) m.blk m.sh F).heap[k]? = w.heap[k]? := by
                intro k hk
                unfold Sort.putRow Sort.mapBlock
                simp only [Array.getElem?_modify]
                rw [if_neg (fun e => hk e.symm)]; rfl
              have hsz : (Sort.putRow id (Sort.ahead w q) m.blk m.sh F).heap.size = w.heap.size := by rw [Sort.size_putRow]; rfl
              have hcs : (Sort.putCells id m.sh F rc).size = rc.size := by unfold Sort.putCells; simp
              have W1 : WR G N0 w0 ρ (H.put b (.cells (flatP (sortL l)) ty (some 2) 0)) (Sort.putRow id (Sort.ahead w q) m.blk m.sh F) := by
                refine W.upd hg (by simp) (by simp only [roOf]; decide) hm (by simp only [roOf]; decide) rfl rfl rfl hsz hot fun _ => ?_
                refine .cells hb1 (by rw [hcs]; exact hrs) hes hsh (by rw [flatP_len, hsl, hcs]; exact hlen) ?_ hf
                have hw2 := putCells_window hFs'
                rw [hFs] at hw2
                rw [flatP_len, hsl, hw2, hF]
                exact VL_flatP_refl _
              refine ⟨ρ, _, rfl, .tuple' .nil, W1.grow ?_, Ext.put W hm _⟩
              exact ⟨rfl, rfl, rfl, by rw [Sort.size_grow]; omega, fun k hk => Sort.heap_grow_old _ _ hk⟩
        · cases h
      · cases h
    · cases h
  · cases h
end
end Go.Proofs
