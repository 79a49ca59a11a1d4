/- strings.Join of Go's library at this program; what the calls that are answered answer (no statement of the program is proved here). -/
import Derived.Test.YtoanfmlpddlcmaaGreatDoorQS
import Derived.Test.YtoanfmlpddlcmaaGreatDoorQX
import Derived.Shelf.Strings.OnBuilder
namespace Go.Proofs
open Go.Shelf
def Tryz.lays156_ren : Go.Shelf.Ren := ⟨fun | 156 => 35 | 165 => 51 | 166 => 52 | 169 => 53 | 240 => 69 | 241 => 70 | 276 => 80 | 277 => 81 | n => n, fun | 31 => 64 | 9 => 9 | 3 => 3 | 4 => 4 | 0 => 0 | 20 => 20 | 72 => 85 | 76 => 89 | 70 => 82 | 37 => 83 | 75 => 88 | 127 => 101 | 164 => 110 | 5 => 5 | 80 => 78 | n => n, fun | n => n⟩
theorem Tryz.lays156 : Go.Proofs.Lays.n156 Tryz.prog Tryz.lays156_ren := {
  mixed := by kernel_rfl
  f156 := Tryz.func35.trans (congrArg some (by kernel_rfl))
  f165 := Tryz.func51.trans (congrArg some (by kernel_rfl))
  f166 := Tryz.func52.trans (congrArg some (by kernel_rfl))
  f169 := Tryz.func53.trans (congrArg some (by kernel_rfl))
  f240 := Tryz.func69.trans (congrArg some (by kernel_rfl))
  f241 := Tryz.func70.trans (congrArg some (by kernel_rfl))
  f276 := Tryz.func80.trans (congrArg some (by kernel_rfl))
  f277 := Tryz.func81.trans (congrArg some (by kernel_rfl))
  t0 := Tryz.underlying0
  a0 := Tryz.isAgg0
  z0 := Tryz.sizeOf0
  v0 := Tryz.zeroValue0
  t3 := Tryz.underlying3
  a3 := Tryz.isAgg3
  z3 := Tryz.sizeOf3
  v3 := Tryz.zeroValue3
  t4 := Tryz.underlying4
  a4 := Tryz.isAgg4
  z4 := Tryz.sizeOf4
  v4 := Tryz.zeroValue4
  t9 := Tryz.underlying9
  a9 := Tryz.isAgg9
  z9 := Tryz.sizeOf9
  v9 := Tryz.zeroValue9
  t20 := Tryz.underlying20
  a20 := Tryz.isAgg20
  z20 := Tryz.sizeOf20
  v20 := Tryz.zeroValue20
  t31 := Tryz.underlying64
  a31 := Tryz.isAgg64
  z31 := Tryz.sizeOf64
  v31 := Tryz.zeroValue64
  t37 := Tryz.underlying83
  a37 := Tryz.isAgg83
  z37 := Tryz.sizeOf83
  v37 := Tryz.zeroValue83
  t70 := Tryz.underlying82
  a70 := Tryz.isAgg82
  z70 := Tryz.sizeOf82
  v70 := Tryz.zeroValue82
  t72 := Tryz.underlying85
  a72 := Tryz.isAgg85
  z72 := Tryz.sizeOf85
  v72 := Tryz.zeroValue85
  t75 := Tryz.underlying88
  a75 := Tryz.isAgg88
  z75 := Tryz.sizeOf88
  v75 := Tryz.zeroValue88
  t76 := Tryz.underlying89
  a76 := Tryz.isAgg89
  z76 := Tryz.sizeOf89
  v76 := Tryz.zeroValue89
  t127 := Tryz.underlying101
  a127 := Tryz.isAgg101
  z127 := Tryz.sizeOf101
  v127 := Tryz.zeroValue101
  t164 := Tryz.underlying110
  a164 := Tryz.isAgg110
  z164 := Tryz.sizeOf110
  v164 := Tryz.zeroValue110 }
theorem Tryz.extra156 : Builder.Extra Tryz.prog Tryz.lays156_ren := {
  sizeBuilder := by kernel_rfl
  liesBuilder := by kernel_rfl
  t5 := Tryz.underlying5
  a5 := Tryz.isAgg5
  z5 := Tryz.sizeOf5
  v5 := Tryz.zeroValue5
  infoByte := by kernel_rfl
  cellsByte := by kernel_rfl
  sizeByte := by kernel_rfl
  neB5 := by decide }
end Go.Proofs
namespace Go.Proofs
open Go Go.PE Go.RowKit
noncomputable section
def strsOf : List Value → Option (List ByteArray)
  | [] => some []
  | .string s :: r => match strsOf r with
    | some l => some (s :: l)
    | none => none
  | _ => none
theorem strsOf_eq {cs : List Value} : ∀ {l : List ByteArray}, strsOf cs = some l → cs = l.map .string := by
  fun_induction strsOf cs with
  | case1 => intro l h; cases h; rfl
  | case2 s r l' hr ih => intro l h; cases h; rw [List.map_cons, ← ih hr]
  | case3 => intro l h; cases h
  | case4 => intro l h; cases h
theorem strsOf_map : ∀ (l : List ByteArray), strsOf (l.map .string) = some l
  | [] => rfl
  | s :: l => by rw [List.map_cons, strsOf, strsOf_map l]
def joinB (l : List ByteArray) (sep : ByteArray) : List UInt8 := Lib.join (l.map fun s => s.data.toList) sep.data.toList
def joinE (H : Hp) (sep : ByteArray) : Value → Option (Value × Hp)
  | .slice (some ⟨b, 0, none⟩) n c => match H.get b with
    | some (.cells cs _ _ _) => match strsOf cs with
      | some l => if n = l.length ∧ n ≤ c ∧ n ≤ 8000000 ∧ (joinB l sep).length ≤ 16777216 then some (.string (bs (joinB l sep)), H) else none
      | none => none
    | _ => none
  | _ => none
/-- what strings.Join answers -/
def joinEff (args : List Value) (H : Hp) : Option (Value × Hp) := match args with
  | [s, .string sep] => joinE H sep s
  | _ => none
theorem VL_strs {ρ : RM} : ∀ {l : List ByteArray} {X : List Value}, VL ρ (l.map .string) X → X = l.map .string
  | [], X, h => h.unnil
  | s :: l, X, h => by
    rw [List.map_cons] at h
    obtain ⟨y, r, rfl, h1, h2⟩ := h.uncons
    cases h1
    rw [VL_strs h2, List.map_cons]
theorem join_eff {G : Nat → Option Nat} {N0 : Nat} {w0 : World} {args : List Value} {H H' : Hp} {v : Value} (h : joinEff args H = some (v, H')) {ρ : RM} {args' : Array Value} {w : World} (W : WR G N0 w0 ρ H w) (ha : VL ρ args args'.toList) :
    CallsIn Fence.wide 0 Tryz.prog 35 args' w fun en w' => ∃ ρ' v', en = .returned v' ∧ VR ρ' v v' ∧ WR G N0 w0 ρ' H' w' ∧ Ext ρ H ρ' H' := by
  unfold joinEff at h
  split at h
  case h_2 => cases h
  rename_i s sep
  obtain ⟨s', r', e1, h1, h2⟩ := ha.uncons
  obtain ⟨f', r'', rfl, h3, h4⟩ := h2.uncons
  have := h4.unnil; subst this
  cases h3
  have : args' = #[s', .string sep] := Array.ext' (by simpa using e1)
  subst this
  clear e1 h2 h4 ha
  unfold joinE at h
  split at h
  case h_2 => cases h
  rename_i b n c
  split at h
  case h_2 => cases h
  rename_i cs ty es fl hg
  split at h
  case h_2 => cases h
  rename_i l hu
  split at h
  case isFalse => cases h
  rename_i hn
  cases h
  obtain ⟨hn, hnc, hlt, hlj⟩ := hn
  have hcs := strsOf_eq hu
  subst hcs
  cases h1 with
  | @sl _ _ _ _ c' m hm hcap =>
    have ob := W.obj b _ m hg (by simp) hm
    cases ob with
    | @cells _ _ _ _ rc fz hb hrs hes hsh hlen hcv hf =>
      have hwin := VL_strs hcv
      rw [List.length_map] at hlen hwin
      have hcc : c ≤ c' := by
        unfold capOk at hcap
        split at hcap <;> omega
      have hcon := Any.strings_Join Tryz.lays156 Tryz.extra156 m.blk (m.sh + 0) c' l sep w (fun j x hj => by
        have hj' : j < l.length := (List.getElem?_eq_some_iff.1 hj).1
        have hg1 : rc[m.sh + 0 + j]? = (l.map Value.string)[j]? := by
          rw [← hwin, List.getElem?_take, if_pos hj', List.getElem?_drop, Array.getElem?_toList, Nat.add_zero]
        simp only [World.cell?, hb]
        rw [hg1, List.getElem?_map, hj]; rfl) ((Array.getElem?_eq_some_iff.1 hb).1) (by omega) (by omega) (by show (joinB l sep).length ≤ _; omega)
      change Calls Tryz.prog 35 _ _ _ at hcon
      rw [hn]
      refine callsIn_wide.2 (Calls.mono hcon ?_)
      rintro e w' ⟨rfl, hbl⟩
      exact ⟨ρ, _, rfl, .str _, W.grow hbl, .refl _ _⟩
/-! ### the tables of what is answered -/
def ansT : Tr (List Value → Option Value) := (Tr.e).set 6 awAns
def effT : Tr (List Value → Hp → Option (Value × Hp)) := ((Tr.e).set 35 joinEff).set 101 sortEff
theorem ansT_ok (W : World) : AnsOk (tE ansT effT) W.heap.size W := by
  refine ⟨?_, ?_⟩
  · intro f F args v hF hv
    have hF : ansT.get f = some F := hF
    unfold ansT at hF
    rw [Tr.get_set] at hF
    split at hF
    · rename_i e; subst e; cases hF
      unfold awAns at hv
      split at hv
      · cases hv
        refine ⟨rfl, fun ρ args' w _ ha hb => ?_⟩
        have := ha.unnil
        have : args' = #[] := Array.ext' (by simpa using this)
        subst this
        exact callsIn_wide.2 (pe_awake w)
      · cases hv
    · rw [Tr.get_e] at hF; cases hF
  · intro f F args H v H' hF hv ρ args' w WR ha
    have hF : effT.get f = some F := hF
    unfold effT at hF
    rw [Tr.get_set] at hF
    split at hF
    · rename_i e; subst e; cases hF
      exact sort_eff hv WR ha
    · rw [Tr.get_set] at hF
      split at hF
      · rename_i e; subst e; cases hF
        exact join_eff hv WR ha
      · rw [Tr.get_e] at hF; cases hF
theorem no_T {k : Nat} (h6 : k ≠ 6) (h35 : k ≠ 35) (h101 : k ≠ 101) : NoA ansT effT k := by
  refine ⟨?_, ?_⟩
  · show ansT.get k = none
    unfold ansT
    rw [Tr.get_set, if_neg h6, Tr.get_e]
  · show effT.get k = none
    unfold effT
    rw [Tr.get_set, if_neg h101, Tr.get_set, if_neg h35, Tr.get_e]
theorem has_eff {E : Env} {f : Nat} {args : List Value} {H : Hp} {R : Value → Hp → Prop} {F : List Value → Hp → Option (Value × Hp)} {v : Value} {H' : Hp} (ha : E.ans.get f = none) (he : E.eff.get f = some F) (hF : F args H = some (v, H')) (hr : R v H') : Has E f args H R :=
  ⟨v, H', Evs.step ⟨0, fun n _ => by simp only [Go.PE.step, ha, sOrc, he, sEff, hF, effV]⟩, hr⟩
theorem join_T : JoinOk ansT effT := by
  intro H b n l sep hg hl hn hj
  refine has_eff (F := joinEff) (v := .string (bs (Lib.join l sep))) (H' := H) ?_ ?_ ?_ ⟨rfl, Keep.refl _⟩
  · show ansT.get 35 = none
    unfold ansT
    rw [Tr.get_set, if_neg (by decide), Tr.get_e]
  · show effT.get 35 = some joinEff
    unfold effT
    rw [Tr.get_set, if_neg (by decide), Tr.get_set, if_pos rfl]
  · have e1 : l.map strC = (l.map bs).map .string := by rw [List.map_map]; rfl
    have e2 : joinB (l.map bs) (bs sep) = Lib.join l sep := by
      unfold joinB
      rw [List.map_map]
      have : l.map ((fun s : ByteArray => s.data.toList) ∘ bs) = l := by
        rw [show ((fun s : ByteArray => s.data.toList) ∘ bs) = id from rfl, List.map_id]
      rw [this]; rfl
    rw [e1] at hg
    simp only [joinEff, joinE, hg, strsOf_map, e2]
    rw [if_pos]
    exact ⟨by simp [hl], Nat.le_refl _, hn, hj⟩
theorem sort_T : SortOk ansT effT := by
  intro N H v l ob ho hN hl
  have ha : (tE ansT effT).ans.get 101 = none := by
    show ansT.get 101 = none
    unfold ansT
    rw [Tr.get_set, if_neg (by decide), Tr.get_e]
  have he : (tE ansT effT).eff.get 101 = some sortEff := by
    show effT.get 101 = some sortEff
    unfold effT
    rw [Tr.get_set, if_pos rfl]
  rcases ho with ⟨rfl, rfl, rfl⟩ | ⟨h0, b, rfl, rfl, h3, h4, h5⟩
  · exact has_eff ha he (v := .tuple #[]) (H' := H) rfl ⟨⟨[], .refl _, List.Pairwise.nil, .inl ⟨rfl, rfl, rfl⟩⟩, Nat.le_refl _, fun k hk _ => rfl⟩
  · obtain ⟨s1, s2, s3⟩ := sortL_ok l
    refine has_eff ha he (v := .tuple #[]) (H' := H.put b (.cells (flatP (sortL l)) 62 (some 2) 0)) ?_ ⟨⟨sortL l, s2, s3, .inr ⟨?_, b, ?_, rfl, h3, h4, get_put_eq rfl⟩⟩, Nat.le_refl _, fun k hk hne => get_put_ne (fun e => hne (by rw [e]))⟩
    · show sortE H (.slice (some ⟨b, 0, none⟩) l.length l.length) = _
      simp only [sortE, h5, unP_flatP]
      rw [if_pos (by first | exact ⟨rfl, by omega⟩ | exact ⟨trivial, by omega⟩)]
    · intro e
      rw [e] at s1
      exact h0 (List.eq_nil_of_length_eq_zero s1.symm)
    · rw [s1]
theorem asked_T : Asked ansT effT := by
  have n : ∀ k, k ≠ 6 → k ≠ 35 → k ≠ 101 → NoA ansT effT k := fun k a b c => no_T a b c
  refine ⟨?_, ?_, join_T, ?_, ?_, ?_, ?_, ?_, ?_, ?_, ?_, ?_, ?_, ?_, ?_⟩
  · constructor
    all_goals first | exact sort_T | exact n _ (by decide) (by decide) (by decide)
  · constructor
    all_goals exact n _ (by decide) (by decide) (by decide)
  all_goals first | exact n _ (by decide) (by decide) (by decide) | skip
  intro H
  refine Has.ans (F := awAns) (v := .bool true) ?_ rfl ⟨rfl, rfl⟩
  show ansT.get 6 = some awAns
  unfold ansT
  rw [Tr.get_set, if_pos rfl]
end
end Go.Proofs
