/- Proved: the statement RexPlainUptoCardSaid: for every two texts that are together of bulk at most 1048576, bramblelaw03.RexPlain returns true, and its arguments read behind the call as they read before; the two listed variables are tied to the program's text. -/
import Derived.Test.YtoanfmlpddlcmaaGreatDoorRO
import Derived.Shelf.Unicode.In.DecodeAny
import Derived.Lib.LaidU8T
import Derived.PinnedBridge
import Derived.Lay
import Derived.Test.YtoanfmlpddlcmaaGreatDoorCards
import Derived.Test.YtoanfmlpddlcmaaGreatDoorTie
import Derived.WalkKit
import Derived.ProofKit
import Derived.OpenShut
import Derived.Deep.DeepHandedRow
import Derived.Lib.LaidTab
namespace Go.Proofs
open Go.Shelf
def Tryz.lays197_ren : Go.Shelf.Ren := ⟨fun | 197 => 40 | 260 => 56 | n => n, fun | 9 => 9 | 21 => 21 | 3 => 3 | 4 => 4 | 5 => 5 | 105 => 71 | 119 => 102 | 0 => 0 | 46 => 103 | 139 => 106 | 138 => 105 | n => n, fun | 3 => 0 | 4 => 1 | n => n⟩
theorem Tryz.lays197 : Go.Proofs.Lays.n197 Tryz.prog Tryz.lays197_ren := {
  mixed := by kernel_rfl
  f197 := Tryz.func40.trans (congrArg some (by kernel_rfl))
  f260 := Tryz.func56.trans (congrArg some (by kernel_rfl))
  t0 := Tryz.underlying0
  a0 := Tryz.isAgg0
  z0 := Tryz.sizeOf0
  v0 := Tryz.zeroValue0
  t3 := Tryz.underlying3
  a3 := Tryz.isAgg3
  z3 := Tryz.sizeOf3
  v3 := Tryz.zeroValue3
  t4 := Tryz.underlying4
  a4 := Tryz.isAgg4
  z4 := Tryz.sizeOf4
  v4 := Tryz.zeroValue4
  t5 := Tryz.underlying5
  a5 := Tryz.isAgg5
  z5 := Tryz.sizeOf5
  v5 := Tryz.zeroValue5
  t9 := Tryz.underlying9
  a9 := Tryz.isAgg9
  z9 := Tryz.sizeOf9
  v9 := Tryz.zeroValue9
  t21 := Tryz.underlying21
  a21 := Tryz.isAgg21
  z21 := Tryz.sizeOf21
  v21 := Tryz.zeroValue21
  t46 := Tryz.underlying103
  a46 := Tryz.isAgg103
  z46 := Tryz.sizeOf103
  v46 := Tryz.zeroValue103
  t105 := Tryz.underlying71
  a105 := Tryz.isAgg71
  z105 := Tryz.sizeOf71
  v105 := Tryz.zeroValue71
  t119 := Tryz.underlying102
  a119 := Tryz.isAgg102
  z119 := Tryz.sizeOf102
  t138 := Tryz.underlying105
  a138 := Tryz.isAgg105
  z138 := Tryz.sizeOf105
  v138 := Tryz.zeroValue105
  t139 := Tryz.underlying106
  a139 := Tryz.isAgg106
  z139 := Tryz.sizeOf106
  v139 := Tryz.zeroValue106
  g3 := by kernel_rfl
  g4 := by kernel_rfl }
end Go.Proofs
namespace Go.Proofs
open Go Go.PE Go.RowKit
theorem utf8_at {W : World} (hT : Lib.Utf8Tabs 0 1 W) {w : World} (hb : Below W.heap.size W w) : Lib.Utf8Tabs 0 1 w := by
  have hlt : ∀ g c v, W.cell? ⟨g, c, none⟩ = some v → g < W.heap.size := by
    intro g c v h
    cases hg : W.heap[g]? with
    | none => simp [World.cell?, hg] at h
    | some o => exact (Array.getElem?_eq_some_iff.1 hg).1
  have hc : ∀ g c v, W.cell? ⟨g, c, none⟩ = some v → w.cell? ⟨g, c, none⟩ = some v := by
    intro g c v h
    have := hb.block g (hlt g c v h)
    simp only [World.cell?] at h ⊢
    rw [this]; exact h
  exact ⟨fun c h => hc _ _ _ (hT.1 c h), fun i h => ⟨hc _ _ _ (hT.2 i h).1, hc _ _ _ (hT.2 i h).2⟩⟩
theorem r_ans {W : World} (hT : Lib.Utf8Tabs 0 1 W) : AnsOk rE W.heap.size W := by
  intro f F args v hF hv
  have hF : rAns.get f = some F := hF
  unfold rAns at hF
  rw [Tr.get_set] at hF
  split at hF
  · rename_i e; subst e; cases hF
    unfold decAns at hv
    split at hv
    · rename_i s
      cases hv
      refine ⟨rfl, fun ρ args' w _ ha hb => ?_⟩
      obtain ⟨y, r, h1, h2, h3⟩ := ha.uncons
      have := h3.unnil; subst this
      have : args' = #[y] := Array.ext' (by simpa using h1)
      subst this
      cases h2
      exact AnyS.utf8_DecodeRuneInString_in Tryz.lays197 Fence.wide 0 rfl (fun _ _ => trivial) (fun h => by cases h) s w (utf8_at hT hb)
    · cases hv
  · rw [Tr.get_set] at hF
    split at hF
    · rename_i e; subst e; cases hF
      unfold awAns at hv
      split at hv
      · cases hv
        refine ⟨rfl, fun ρ args' w _ ha hb => ?_⟩
        have := ha.unnil
        have : args' = #[] := Array.ext' (by simpa using this)
        subst this
        exact callsIn_wide.2 (pe_awake w)
      · cases hv
    · rw [Tr.get_e] at hF; cases hF
/-- the law's function, in each world that holds the two tables -/
theorem law_calls {W : World} (hT : Lib.Utf8Tabs 0 1 W) (s t : ByteArray) (hs : s.size ≤ 1048576) (ht : t.size ≤ 1048576) : Calls Tryz.prog 3 #[.string s, .string t] W fun e w' => e = .returned (.bool true) ∧ Below W.heap.size W w' := by
  obtain ⟨v, H', ⟨n, hn⟩, hv⟩ := has_law (H := ⟨.e, 0⟩) (s := s.data.toList) (t := t.data.toList) hs ht
  subst hv
  refine calls_true (E := rE) (n0 := 0) r_ok (fun b k h => by cases h) (args := [.string (bs s.data.toList), .string (bs t.data.toList)]) (n := n) ?_ ?_ W (r_ans hT)
  · exact .cons (.str _) (.cons (.str _) .nil)
  · rw [hn n (Nat.le_refl _)]; rfl
end Go.Proofs
namespace Go.Proofs.YtoanfmlpddlcmaaGreatDoor.rexPlain
open Go.ChangeShapes Go.WideShapes Go.ChangeAt Go.RowKit
open Go.ChangeMaps (open_string shut_string)
theorem own : ownKnob Tryz.prog.godebug = none := by kernel_rfl
theorem accept_eq : Rows.laid_unicode_utf8_acceptRanges = Lib.acceptData := by kernel_rfl
theorem first_eq : Rows.laid_unicode_utf8_first = Lib.firstData := Pinned.utf8First_eq
theorem tabs {W : World} (h : laidMetH Tryz.prog Rows.rexPlainUptoRow.laid W) : Lib.Utf8Tabs 0 1 W := by
  rw [MakeChecks.laidMetH_plain _ _ _ (by kernel_rfl)] at h
  exact utf8Tabs_of_readsT (U8Types.of260 (ρ := Tryz.lays197_ren) { Tryz.lays197 with }) ⟨by kernel_rfl, by kernel_rfl, by kernel_rfl, by kernel_rfl, by kernel_rfl, by kernel_rfl, by kernel_rfl⟩ (first_eq ▸ Lib.laidMet.reads h (.tail _ (.head _))) (accept_eq ▸ Lib.laidMet.reads h (.head _))
set_option maxRecDepth 100000 in
theorem contract (H : Type) (enc : TypeId × Value → H) (W : World) (base : Nat) (args : Array Value) (ds gs : List (DataW H)) (before : List MemPlace)
    (hval : ∀ (j : Nat) t v, Tryz.f3.params[j]? = some t → args[j]? = some v → Value.okWide Tryz.prog W .any base t v)
    (hW : DataW.Whole enc Tryz.prog Tryz.f3.params.toList Rows.rexPlainSpec.vars false W args.toList ds gs before) (hL : laidMetH Tryz.prog Rows.rexPlainUptoRow.laid W) (hk : Rows.uptoSmall H (ds ++ gs) = true) :
    Calls Tryz.prog 3 args W fun e W' => ∃ v, e = .returned v ∧ Rows.rexPlainSpec.post enc Tryz.prog Tryz.f3 false true false false W args v W' := by
  have hW' := hW
  obtain ⟨p, q, hA0, hV, rfl, hfz, hnd⟩ := hW
  have hA : DataW.TrodAll enc Tryz.prog W 0 (fun _ => true) true Tryz.f3.params.toList args.toList ds p := hA0
  rw [Tryz.params3] at hA hval
  obtain ⟨v0, v1, d0, d1, p0, p1, rfl, rfl, rfl, h0, h1⟩ := trodAll_two hA
  obtain ⟨rfl, rfl⟩ := trodVars_none hV
  obtain ⟨s, rfl, rfl, rfl, ws⟩ := open_string Tryz.underlying9 (hval 0 9 v0 rfl rfl) h0
  obtain ⟨t, rfl, rfl, rfl, wt⟩ := open_string Tryz.underlying9 (hval 1 9 v1 rfl rfl) h1
  clear hA0
  have hb := of_decide_eq_true hk
  simp only [List.append_nil, Rows.uptoBulkAll, Rows.uptoBulk] at hb
  have e1 : s.data.toList.length = s.size := by simp
  have e2 : t.data.toList.length = t.size := by simp
  rw [e1, e2] at hb
  refine (law_calls (tabs hL) s t (by omega) (by omega)).mono fun e W' ⟨he, hg⟩ => ?_
  subst he
  exact ⟨_, rfl, _, _, _, [], [], [], hW', trodAll_mk1 (shut_bool Tryz.underlying4 _), trodAll_mk2 (shut_string Tryz.underlying9 ws) (shut_string Tryz.underlying9 wt), rfl, hg.frame _, fun h => by cases h⟩
theorem laid_met (os : Os) (args : Array Value) : laidMet Tryz.prog Rows.rexPlainUptoRow.laid ((World.laidAll Tryz.prog os Rows.rexPlainUptoRow.laid).forCall (fun _ _ => 0) ⟨#[], args, []⟩).memory := laidMet_laidAll _ (by kernel_rfl) (by kernel_rfl)
theorem reads (os : Os) {H : Type} (enc : TypeId × Value → H) : ∃ places, DataW.whole enc Tryz.prog ((World.laidAll Tryz.prog os Rows.rexPlainUptoRow.laid).forCall (fun _ _ => 0) ⟨#[], #[.string ⟨#[]⟩, .string ⟨#[]⟩], []⟩).memory Tryz.f3.params.toList Rows.rexPlainSpec.vars false #[Value.string ⟨#[]⟩, .string ⟨#[]⟩].toList 8 = some ([.lit (.string []), .lit (.string [])], [], places) :=
  ⟨[], by kernel_rfl⟩
set_option maxRecDepth 100000 in
theorem liftedUpto (os : Os) (started : os.Started) (H : Type) (enc : TypeId × Value → H) (F : Stop.Interp) :
    ReturnsInHanded {} Tryz.checked os 3 .any ((Rows.OpenSpec.upto Rows.rexPlainSpec).preRow enc Tryz.prog Tryz.f3 Rows.rexPlainUptoRow.domain false Rows.rexPlainUptoRow.laid) (((Rows.OpenSpec.upto Rows.rexPlainSpec).at F).post enc Tryz.prog Tryz.f3 false true false false) := by
  obtain ⟨places, hx⟩ := reads os enc
  refine returnsInHanded_of_row (C := Tryz.checked) (s := Rows.OpenSpec.upto Rows.rexPlainSpec) own started (by kernel_rfl) Tryz.func3
    (witness_row_at (enc := enc) (C := Tryz.checked) false (World.laidAll Tryz.prog os Rows.rexPlainUptoRow.laid) #[.string ⟨#[]⟩, .string ⟨#[]⟩] (World.laidAll_os _ _ _) (by kernel_rfl) (by kernel_rfl) (by kernel_rfl)
      (OpenSpec.preRow_of_cond 8 hx (by kernel_rfl) (fun k hk => by cases hk; kernel_rfl) (by kernel_rfl) (laid_met os _))) ?_
  intro W base args ds gs before hval hW _ hcond _ hL _ _
  exact contract H enc W base args ds gs before hval hW hL (hcond _ rfl)
theorem saidUpto : Rows.RexPlainUptoSaid :=
  OpenClaim.holds_of_cond 3 Tryz.f3 rfl rfl rfl rfl rfl rfl rfl ⟨rfl, rfl, rfl, rfl, rfl⟩ rfl rfl rfl rfl rfl (by kernel_rfl) Tryz.func3 (by kernel_rfl)
    (of_decide_eq_true (by kernel_rfl)) (by unfold Func.isWrapper; first | (rw [if_pos (by decide +kernel)]; kernel_rfl) | (rw [if_neg (by decide +kernel)]; exact ⟨rfl, rfl⟩))
    (fun os started H enc _ F => by rw [OpenClaim.pre_eq_preRow]; exact liftedUpto os started H enc F)
theorem plain (f : FuncId) (fn : Func) (hf : Tryz.pinned.checked.prog.funcNamed "bramble/bramblelaw03.RexPlain" = some f) (hfn : Tryz.pinned.checked.prog.funcs[f]? = some fn) :
    true = Tryz.pinned.checked.prog.looks [] ∧ ∀ (j : Nat) t, fn.params[j]? = some t → Tryz.pinned.checked.prog.wantsStandIn t = false := by
  obtain rfl : f = 3 := Option.some.inj ((show Tryz.prog.funcNamed "bramble/bramblelaw03.RexPlain" = some 3 by kernel_rfl).symm.trans hf) |>.symm
  obtain rfl : fn = Tryz.f3 := (Option.some.inj (Tryz.func3.symm.trans hfn)).symm
  refine ⟨by kernel_rfl, fun j t ht => ?_⟩
  rw [Tryz.params3] at ht
  obtain rfl : t = 9 := by simpa using Array.mem_of_getElem? ht
  exact (show Tryz.prog.wantsStandIn 9 = false by kernel_rfl)
/-- THE SECOND FORM's CARD -/
theorem cardUpto : Rows.RexPlainUptoCardSaid :=
  Claim7.holds_tied_plain_at .later [] _ _ _ _ saidUpto (fun _ h => by cases h) (by kernel_rfl) (fun _ h => by cases h) rexPlainUpto_row_tie rfl ⟨rfl, rfl⟩ (by kernel_rfl) rfl plain (by kernel_rfl)
end Go.Proofs.YtoanfmlpddlcmaaGreatDoor.rexPlain
