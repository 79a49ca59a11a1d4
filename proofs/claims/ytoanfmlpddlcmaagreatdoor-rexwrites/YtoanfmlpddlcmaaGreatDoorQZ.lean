/- Proved: the statement RexWritesCardSaid: for every two expressions, bramblelaw03.RexWrites returns true, and its arguments read behind the call as they read before; the two listed variables are tied to the program's text. -/
import Derived.Test.YtoanfmlpddlcmaaGreatDoorQY
import Derived.PinnedBridge
import Derived.Lay
import Derived.Carry
import Derived.Test.YtoanfmlpddlcmaaGreatDoorCards
import Derived.Test.YtoanfmlpddlcmaaGreatDoorTie
import Derived.WalkKit
import Derived.ProofKit
import Derived.OpenShut
import Derived.Deep.DeepHandedRow
import Derived.Lib.LaidTab
namespace Go.Proofs
open Go Go.PE Go.RowKit
/-- a call that has the answer true, from a picture of its world -/
theorem calls_of_has {E : Env} (ok : EnvOk E) {f : Nat} {args : List Value} {args' : Array Value} {H : Hp} {ρ : RM} {w : World} (ans : AnsOk E w.heap.size w) (W : WR E.G w.heap.size w ρ H w) (ha : VL ρ args args'.toList) (h : Has E f args H fun v _ => v = .bool true) :
    Calls E.P f args' w fun e w' => e = .returned (.bool true) ∧ Below w.heap.size w w' := by
  obtain ⟨v, H', ⟨n, hn⟩, rfl⟩ := h
  have hs := ev_sound (E := E) (N0 := w.heap.size) (w0 := w) ok ans n (.call f args H)
  rw [hn n (Nat.le_refl _)] at hs
  have := callsIn_wide.1 (hs ρ args' w W ha)
  refine Calls.mono this fun e w' hp => ?_
  obtain ⟨ρ', v', rfl, hv, W', _⟩ := hp
  cases hv
  exact ⟨rfl, W'.below⟩
set_option maxRecDepth 100000 in
theorem agg3 {D : Type} {enc : TypeId × Value → D} {W : World} {n : Nat} {v : Value} {y : DataW D × List MemPlace} (h : DataW.trod enc Tryz.prog W 0 (fun _ => true) true n 25 v.cells.toList = some y) : ∃ cs : List Value, v = .agg cs.toArray ∧ cs.length = 3 ∧ DataW.trod enc Tryz.prog W 0 (fun _ => true) true n 25 cs = some y := by
  obtain ⟨_, _, _, _, hl, _, _⟩ := DataW.trod_struct Tryz.underlying25 h
  rw [cells25] at hl
  cases v with
  | agg cs => exact ⟨cs.toList, by simp, hl, h⟩
  | _ => cases hl
/-- the law's function, in each world in which the two arguments can be read -/
theorem law_calls {D : Type} {enc : TypeId × Value → D} {W : World} {v0 v1 : Value} {d0 d1 : DataW D} {p0 p1 : List MemPlace} (h0 : DataW.Trod enc Tryz.prog W 0 (fun _ => true) true 25 v0 d0 p0) (h1 : DataW.Trod enc Tryz.prog W 0 (fun _ => true) true 25 v1 d1 p1) :
    Calls Tryz.prog 4 #[v0, v1] W fun e w' => e = .returned (.bool true) ∧ Below W.heap.size W w' := by
  obtain ⟨n0, h0⟩ := h0
  obtain ⟨n1, h1⟩ := h1
  obtain ⟨c0, rfl, l0, h0⟩ := agg3 h0
  obtain ⟨c1, rfl, l1, h1⟩ := agg3 h1
  have W0 := WR.marks (w := W) (G := fun _ => none) (n := 0) (fun b k h => by cases h)
  obtain ⟨H1, ρ1, q0, W1, le1, k1, vl0, x, hx⟩ := pic_rex (n := n0) c0 ⟨l0, _, h0⟩ _ _ _ W0
  obtain ⟨H2, ρ2, q1, W2, le2, k2, vl1, y, hy⟩ := pic_rex (n := n1) c1 ⟨l1, _, h1⟩ _ _ _ W1
  exact calls_of_has (E := tE ansT effT) t_ok (ansT_ok W) W2 (args := [.agg q0.toArray, .agg q1.toArray]) (.cons (.agg' (vl0.mono le2)) (.cons (.agg' vl1) .nil)) (has_law asked_T (RX.mono k2 _ _ hx) hy)
end Go.Proofs
namespace Go.Proofs.YtoanfmlpddlcmaaGreatDoor.rexWrites
open Go.ChangeShapes Go.WideShapes Go.ChangeAt Go.RowKit
open Go.ChangeMaps (open_string shut_string)
theorem own : ownKnob Tryz.prog.godebug = none := by kernel_rfl
theorem laidOut : laidOutB Tryz.prog = true := by kernel_rfl
set_option maxRecDepth 100000 in
theorem contract (H : Type) (enc : TypeId × Value → H) (W : World) (args : Array Value) (ds gs : List (DataW H)) (before : List MemPlace)
    (hW : DataW.Whole enc Tryz.prog Tryz.f4.params.toList Rows.rexWritesSpec.vars false W args.toList ds gs before) :
    Calls Tryz.prog 4 args W fun e W' => ∃ v, e = .returned v ∧ Rows.rexWritesSpec.post enc Tryz.prog Tryz.f4 false true false false W args v W' := by
  have hW' := hW
  obtain ⟨p, q, hA0, hV, rfl, hfz, hnd⟩ := hW
  have hA : DataW.TrodAll enc Tryz.prog W 0 (fun _ => true) true Tryz.f4.params.toList args.toList ds p := hA0
  rw [Tryz.params4] at hA
  obtain ⟨v0, v1, d0, d1, p0, p1, rfl, rfl, rfl, h0, h1⟩ := trodAll_two hA
  obtain ⟨rfl, rfl⟩ := trodVars_none hV
  have hlt := hW'.lt
  refine (law_calls h0 h1).mono fun e W' ⟨he, hg⟩ => ?_
  subst he
  have a0 := Below.trod laidOut (by kernel_rfl) (of_decide_eq_true (by kernel_rfl)) h0 hg (fun x hx => hlt x (by simp [hx]))
  have a1 := Below.trod laidOut (by kernel_rfl) (of_decide_eq_true (by kernel_rfl)) h1 hg (fun x hx => hlt x (by simp [hx]))
  exact ⟨_, rfl, _, _, _, [], p0 ++ p1, [], hW', trodAll_mk1 (shut_bool Tryz.underlying4 _), trodAll_mk2 a0 a1, rfl, hg.frame _, fun h => by cases h⟩
noncomputable def zrex : Value := .agg #[.int .i64 0, .slice none 0 0, .slice none 0 0]
theorem laid_met (os : Os) (args : Array Value) : laidMet Tryz.prog Rows.rexWritesRow.laid ((World.laidAll Tryz.prog os Rows.rexWritesRow.laid).forCall (fun _ _ => 0) ⟨#[], args, []⟩).memory := laidMet_laidAll _ (by kernel_rfl) (by kernel_rfl)
theorem reads (os : Os) {H : Type} (enc : TypeId × Value → H) : ∃ places, DataW.whole enc Tryz.prog ((World.laidAll Tryz.prog os Rows.rexWritesRow.laid).forCall (fun _ _ => 0) ⟨#[], #[zrex, zrex], []⟩).memory Tryz.f4.params.toList Rows.rexWritesSpec.vars false #[zrex, zrex].toList 8 = some ([.agg [.lit (.int .i64 0), .nil, .nil], .agg [.lit (.int .i64 0), .nil, .nil]], [], places) :=
  ⟨[], by kernel_rfl⟩
set_option maxRecDepth 100000 in
theorem lifted (os : Os) (started : os.Started) (H : Type) (enc : TypeId × Value → H) (F : Stop.Interp) :
    ReturnsInHanded {} Tryz.checked os 4 .any ((OpenSpec.ofChange Rows.rexWritesSpec).preRow enc Tryz.prog Tryz.f4 Rows.rexWritesRow.domain false Rows.rexWritesRow.laid) (((OpenSpec.ofChange Rows.rexWritesSpec).at F).post enc Tryz.prog Tryz.f4 false true false false) := by
  obtain ⟨places, hx⟩ := reads os enc
  refine returnsInHanded_of_row (C := Tryz.checked) (s := OpenSpec.ofChange Rows.rexWritesSpec) own started (by kernel_rfl) Tryz.func4
    (witness_row_at (enc := enc) (C := Tryz.checked) false (World.laidAll Tryz.prog os Rows.rexWritesRow.laid) #[zrex, zrex] (World.laidAll_os _ _ _) (by kernel_rfl) (by kernel_rfl) (by kernel_rfl)
      (OpenSpec.preRow_of_cond 8 hx (by kernel_rfl) (fun k hk => by cases hk) (by kernel_rfl) (laid_met os _))) ?_
  intro W base args ds gs before hval hW _ _ _ _ _ _
  exact contract H enc W args ds gs before hW
theorem said : Rows.RexWritesSaid :=
  OpenClaim.holds_of_cond 4 Tryz.f4 rfl rfl rfl rfl rfl rfl rfl ⟨rfl, rfl, rfl, rfl, rfl⟩ rfl rfl rfl rfl rfl (by kernel_rfl) Tryz.func4 (by kernel_rfl)
    (of_decide_eq_true (by kernel_rfl)) (by unfold Func.isWrapper; first | (rw [if_pos (by decide +kernel)]; kernel_rfl) | (rw [if_neg (by decide +kernel)]; exact ⟨rfl, rfl⟩))
    (fun os started H enc _ F => by rw [OpenClaim.pre_eq_preRow]; exact lifted os started H enc F)
theorem plain (f : FuncId) (fn : Func) (hf : Tryz.pinned.checked.prog.funcNamed "bramble/bramblelaw03.RexWrites" = some f) (hfn : Tryz.pinned.checked.prog.funcs[f]? = some fn) :
    true = Tryz.pinned.checked.prog.looks [] ∧ ∀ (j : Nat) t, fn.params[j]? = some t → Tryz.pinned.checked.prog.wantsStandIn t = false := by
  obtain rfl : f = 4 := Option.some.inj ((show Tryz.prog.funcNamed "bramble/bramblelaw03.RexWrites" = some 4 by kernel_rfl).symm.trans hf) |>.symm
  obtain rfl : fn = Tryz.f4 := (Option.some.inj (Tryz.func4.symm.trans hfn)).symm
  refine ⟨by kernel_rfl, fun j t ht => ?_⟩
  rw [Tryz.params4] at ht
  obtain rfl : t = 25 := by simpa using Array.mem_of_getElem? ht
  exact (show Tryz.prog.wantsStandIn 25 = false by kernel_rfl)
/-- THE CARD -/
theorem card : Rows.RexWritesCardSaid :=
  Claim7.holds_tied_plain_at .later [] _ _ _ _ said (fun _ h => by cases h) (by kernel_rfl) (fun _ h => by cases h) rexWrites_row_tie rfl ⟨rfl, rfl⟩ (by kernel_rfl) rfl plain (by kernel_rfl)
#print axioms card
end Go.Proofs.YtoanfmlpddlcmaaGreatDoor.rexWrites
