/- The chapter's example played, and the program's tables (no statement of the program is proved here). -/
import Derived.Test.YtoanfmlpddlcmaaGreatDoorRows
import Derived.KernelRfl
import Derived.Test.YtoanfmlpddlcmaaGreatDoorPEc
import Derived.Test.YtoanfmlpddlcmaaGreatDoorPS
namespace Go.Proofs
open Go Go.PE
noncomputable def peExt : Tr (Nat × Nat) := (((Tr.e).set 80 (1, 0)).set 81 (2, 5)).set 99 (3, 0)
noncomputable def peE : Env := ⟨Tryz.prog, typeTable Tryz.prog, funcTable Tryz.prog, peExt, 0, fun _ => none, .e⟩
theorem pe_types : (List.range Tryz.prog.types.size).all (tyOk Tryz.prog) = true := by kernel_rfl
theorem pe_funcs : Tryz.prog.funcs.toList.all fnOk = true := by kernel_rfl
theorem pe_mixed : Tryz.prog.follows .mixedOrders = true := by kernel_rfl
noncomputable def peFn (i : Nat) : Func := match Tryz.prog.funcs[i]? with
  | some f => f
  | none => default
theorem pe_fn80 : Tryz.prog.funcs[80]? = some (peFn 80) := by kernel_rfl
theorem pe_fn81 : Tryz.prog.funcs[81]? = some (peFn 81) := by kernel_rfl
theorem pe_fn99 : Tryz.prog.funcs[99]? = some (peFn 99) := by kernel_rfl
theorem pe_name80 : ((peFn 80).name == "runtime.NumGoroutine") = false := by kernel_rfl
theorem pe_name81 : ((peFn 81).name == "runtime.NumGoroutine") = false := by kernel_rfl
theorem pe_name99 : ((peFn 99).name == "runtime.NumGoroutine") = false := by kernel_rfl
theorem pe_body80 : (peFn 80).body.isNone = true := by kernel_rfl
theorem pe_body81 : (peFn 81).body.isNone = true := by kernel_rfl
theorem pe_body99 : (peFn 99).body.isNone = true := by kernel_rfl
theorem pe_next80 : Extern.findNext (peFn 80) = none := by kernel_rfl
theorem pe_next81 : Extern.findNext (peFn 81) = none := by kernel_rfl
theorem pe_next99 : Extern.findNext (peFn 99) = none := by kernel_rfl
theorem pe_find80 : Extern.find (peFn 80) = some Extern.AbiNoEscape.same := by kernel_rfl
theorem pe_find81 : Extern.find (peFn 81) = some (Extern.BytealgMakeNoZero.makeNoZero #[3] #[83]) := by kernel_rfl
theorem pe_find99 : Extern.find (peFn 99) = some Extern.BytealgIndexByte.indexByte := by kernel_rfl
theorem pe_sl : Tryz.prog.underlying 83 = some (.slice 5) := by kernel_rfl
theorem pe_ok : EnvOk peE := by
  refine envOk_of (fun g h => absurd h (Nat.not_lt_zero g)) pe_types pe_funcs pe_mixed ?_
  intro f k ty h
  have h : peExt.get f = some (k, ty) := h
  unfold peExt at h
  rw [Tr.get_set] at h
  split at h
  · rename_i e; subst e; cases h
    exact ⟨83, fun h => (by cases h), fun args w => run_callFunc_extern pe_fn99 pe_name99 pe_body99 pe_next99 pe_find99 args w⟩
  · rw [Tr.get_set] at h
    split at h
    · rename_i e; subst e; cases h
      exact ⟨83, fun _ => pe_sl, fun args w => run_callFunc_extern pe_fn81 pe_name81 pe_body81 pe_next81 pe_find81 args w⟩
    · rw [Tr.get_set] at h
      split at h
      · rename_i e; subst e; cases h
        exact ⟨83, fun h => (by cases h), fun args w => run_callFunc_extern pe_fn80 pe_name80 pe_body80 pe_next80 pe_find80 args w⟩
      · rw [Tr.get_e] at h; cases h
theorem pe_run : okTrue (ev peE 1000000 (.call 6 [] ⟨.e, 0⟩)) = true := by kernel_rfl
/-- THE CHAPTER's EXAMPLE: awake answers true, in every world, and changes nothing. -/
theorem pe_awake (w : World) : Calls Tryz.prog 6 #[] w fun e w' => e = .returned (.bool true) ∧ RowKit.Below w.heap.size w w' := calls_true pe_ok (fun b k h => by cases h) .nil pe_run w (fun f F args v h => by rw [show peE.ans = .e from rfl, Tr.get_e] at h; cases h)
end Go.Proofs
namespace Go.Proofs
open Go Go.PE
noncomputable section
/-- what utf8.DecodeRuneInString answers -/
def decAns : List Value → Option Value
  | [.string s] => some (.tuple #[.int .i32 (((if s.size = 0 then (65533, 0) else Utf8.decode s 0).1 : Nat) : Int), .int .i64 (((if s.size = 0 then (65533, 0) else Utf8.decode s 0).2 : Nat) : Int)])
  | _ => none
def awAns : List Value → Option Value
  | [] => some (.bool true)
  | _ => none
def rAns : Tr (List Value → Option Value) := (Tr.e.set 6 awAns).set 40 decAns
def rE : Env := ⟨Tryz.prog, typeTable Tryz.prog, funcTable Tryz.prog, peExt, 0, fun _ => none, rAns⟩
theorem r_ok : EnvOk rE := ⟨pe_ok.tt, pe_ok.ft, pe_ok.small, pe_ok.mixed, pe_ok.gG, pe_ok.fld, pe_ok.ext⟩
theorem rans_none {f : Nat} (h6 : f ≠ 6) (h40 : f ≠ 40) : rE.ans.get f = none := by
  show ((Tr.e.set 6 awAns).set 40 decAns).get f = none
  rw [Tr.get_set, if_neg h40, Tr.get_set, if_neg h6]; rfl
theorem rans_6 : rE.ans.get 6 = some awAns := by
  show ((Tr.e.set 6 awAns).set 40 decAns).get 6 = _
  rw [Tr.get_set, if_neg (by decide), Tr.get_set, if_pos rfl]
theorem rans_40 : rE.ans.get 40 = some decAns := by
  show ((Tr.e.set 6 awAns).set 40 decAns).get 40 = _
  rw [Tr.get_set, if_pos rfl]
theorem rE_tt : rE.tt = typeTable Tryz.prog := by kernel_rfl
theorem rE_ft : rE.ft = funcTable Tryz.prog := by kernel_rfl
theorem r_size : Tryz.prog.types.size = 167 := Tryz.types_size

theorem tt3 : rE.tt.get 3 = some ⟨false, 1, [(Value.int IntKind.i64 (0))], 10, 0, 0, 0, [], some (Value.int IntKind.i64 (0)), true⟩ := by
  rw [rE_tt, tt_of (P := Tryz.prog) (t := 3) (by rw [r_size]; decide)]
  kernel_rfl
theorem tt4 : rE.tt.get 4 = some ⟨false, 1, [(.bool false)], 11, 0, 0, 0, [], some (.bool false), true⟩ := by
  rw [rE_tt, tt_of (P := Tryz.prog) (t := 4) (by rw [r_size]; decide)]
  kernel_rfl
theorem tt9 : rE.tt.get 9 = some ⟨false, 1, [(Value.string ⟨#[]⟩)], 1, 0, 0, 0, [], some (Value.string ⟨#[]⟩), true⟩ := by
  rw [rE_tt, tt_of (P := Tryz.prog) (t := 9) (by rw [r_size]; decide)]
  kernel_rfl
theorem tt21 : rE.tt.get 21 = some ⟨false, 1, [(Value.int IntKind.i32 (0))], 10, 0, 0, 0, [], some (Value.int IntKind.i32 (0)), true⟩ := by
  rw [rE_tt, tt_of (P := Tryz.prog) (t := 21) (by rw [r_size]; decide)]
  kernel_rfl
theorem tt22 : rE.tt.get 22 = some ⟨false, 1, [(.slice none 0 0)], 4, 62, 0, 0, [], some (.slice none 0 0), true⟩ := by
  rw [rE_tt, tt_of (P := Tryz.prog) (t := 22) (by rw [r_size]; decide)]
  kernel_rfl
theorem tt23 : rE.tt.get 23 = some ⟨false, 1, [(.slice none 0 0)], 4, 25, 0, 0, [], some (.slice none 0 0), true⟩ := by
  rw [rE_tt, tt_of (P := Tryz.prog) (t := 23) (by rw [r_size]; decide)]
  kernel_rfl
theorem tt25 : rE.tt.get 25 = some ⟨true, 3, [(Value.int IntKind.i64 (0)), (.slice none 0 0), (.slice none 0 0)], 6, 0, 0, 0, [(0, 1, false), (1, 1, false), (2, 1, false)], some (.agg #[(Value.int IntKind.i64 (0)), (.slice none 0 0), (.slice none 0 0)]), true⟩ := by
  rw [rE_tt, tt_of (P := Tryz.prog) (t := 25) (by rw [r_size]; decide)]
  kernel_rfl
theorem tt26 : rE.tt.get 26 = some ⟨false, 1, [(Value.int IntKind.i64 (0))], 10, 0, 0, 0, [], some (Value.int IntKind.i64 (0)), true⟩ := by
  rw [rE_tt, tt_of (P := Tryz.prog) (t := 26) (by rw [r_size]; decide)]
  kernel_rfl
theorem tt45 : rE.tt.get 45 = some ⟨false, 1, [(.pointer none)], 2, 48, 0, 0, [], some (.pointer none), true⟩ := by
  rw [rE_tt, tt_of (P := Tryz.prog) (t := 45) (by rw [r_size]; decide)]
  kernel_rfl
theorem tt46 : rE.tt.get 46 = some ⟨false, 1, [(.map none)], 7, 80, 55, 0, [], some (.map none), true⟩ := by
  rw [rE_tt, tt_of (P := Tryz.prog) (t := 46) (by rw [r_size]; decide)]
  kernel_rfl
theorem tt48 : rE.tt.get 48 = some ⟨true, 2, [(Value.string ⟨#[]⟩), (.map none)], 6, 0, 0, 0, [(0, 1, false), (1, 1, false)], some (.agg #[(Value.string ⟨#[]⟩), (.map none)]), true⟩ := by
  rw [rE_tt, tt_of (P := Tryz.prog) (t := 48) (by rw [r_size]; decide)]
  kernel_rfl
theorem tt53 : rE.tt.get 53 = some ⟨false, 1, [(.slice none 0 0)], 4, 4, 0, 0, [], some (.slice none 0 0), true⟩ := by
  rw [rE_tt, tt_of (P := Tryz.prog) (t := 53) (by rw [r_size]; decide)]
  kernel_rfl
theorem tt55 : rE.tt.get 55 = some ⟨false, 1, [(.pointer none)], 2, 25, 0, 0, [], some (.pointer none), true⟩ := by
  rw [rE_tt, tt_of (P := Tryz.prog) (t := 55) (by rw [r_size]; decide)]
  kernel_rfl
theorem tt62 : rE.tt.get 62 = some ⟨true, 2, [(Value.int IntKind.i64 (0)), (Value.int IntKind.i64 (0))], 6, 0, 0, 0, [(0, 1, false), (1, 1, false)], some (.agg #[(Value.int IntKind.i64 (0)), (Value.int IntKind.i64 (0))]), true⟩ := by
  rw [rE_tt, tt_of (P := Tryz.prog) (t := 62) (by rw [r_size]; decide)]
  kernel_rfl
theorem tt80 : rE.tt.get 80 = some ⟨false, 1, [(.slice none 0 0)], 4, 53, 0, 0, [], some (.slice none 0 0), true⟩ := by
  rw [rE_tt, tt_of (P := Tryz.prog) (t := 80) (by rw [r_size]; decide)]
  kernel_rfl
theorem ft3 : rE.ft.get 3 = some Tryz.f3 := by rw [rE_ft]; exact ft_of Tryz.func3
theorem ft5 : rE.ft.get 5 = some Tryz.f5 := by rw [rE_ft]; exact ft_of Tryz.func5
theorem ft6 : rE.ft.get 6 = some Tryz.f6 := by rw [rE_ft]; exact ft_of Tryz.func6
theorem ft7 : rE.ft.get 7 = some Tryz.f7 := by rw [rE_ft]; exact ft_of Tryz.func7
theorem ft8 : rE.ft.get 8 = some Tryz.f8 := by rw [rE_ft]; exact ft_of Tryz.func8
theorem ft17 : rE.ft.get 17 = some Tryz.f17 := by rw [rE_ft]; exact ft_of Tryz.func17
theorem ft18 : rE.ft.get 18 = some Tryz.f18 := by rw [rE_ft]; exact ft_of Tryz.func18
theorem ft19 : rE.ft.get 19 = some Tryz.f19 := by rw [rE_ft]; exact ft_of Tryz.func19
theorem ft20 : rE.ft.get 20 = some Tryz.f20 := by rw [rE_ft]; exact ft_of Tryz.func20
theorem ft22 : rE.ft.get 22 = some Tryz.f22 := by rw [rE_ft]; exact ft_of Tryz.func22
theorem ft23 : rE.ft.get 23 = some Tryz.f23 := by rw [rE_ft]; exact ft_of Tryz.func23
theorem ft24 : rE.ft.get 24 = some Tryz.f24 := by rw [rE_ft]; exact ft_of Tryz.func24
theorem ft25 : rE.ft.get 25 = some Tryz.f25 := by rw [rE_ft]; exact ft_of Tryz.func25
theorem ft26 : rE.ft.get 26 = some Tryz.f26 := by rw [rE_ft]; exact ft_of Tryz.func26
theorem ft27 : rE.ft.get 27 = some Tryz.f27 := by rw [rE_ft]; exact ft_of Tryz.func27
theorem ft32 : rE.ft.get 32 = some Tryz.f32 := by rw [rE_ft]; exact ft_of Tryz.func32
theorem ft40 : rE.ft.get 40 = some Tryz.f40 := by rw [rE_ft]; exact ft_of Tryz.func40
theorem ft45 : rE.ft.get 45 = some Tryz.f45 := by rw [rE_ft]; exact ft_of Tryz.func45
theorem ft46 : rE.ft.get 46 = some Tryz.f46 := by rw [rE_ft]; exact ft_of Tryz.func46
theorem ft47 : rE.ft.get 47 = some Tryz.f47 := by rw [rE_ft]; exact ft_of Tryz.func47
theorem ft48 : rE.ft.get 48 = some Tryz.f48 := by rw [rE_ft]; exact ft_of Tryz.func48
theorem ft60 : rE.ft.get 60 = some Tryz.f60 := by rw [rE_ft]; exact ft_of Tryz.func60
theorem ft61 : rE.ft.get 61 = some Tryz.f61 := by rw [rE_ft]; exact ft_of Tryz.func61
theorem ft62 : rE.ft.get 62 = some Tryz.f62 := by rw [rE_ft]; exact ft_of Tryz.func62
theorem ft63 : rE.ft.get 63 = some Tryz.f63 := by rw [rE_ft]; exact ft_of Tryz.func63
theorem ft64 : rE.ft.get 64 = some Tryz.f64 := by rw [rE_ft]; exact ft_of Tryz.func64
theorem ft66 : rE.ft.get 66 = some Tryz.f66 := by rw [rE_ft]; exact ft_of Tryz.func66
theorem ft75 : rE.ft.get 75 = some Tryz.f75 := by rw [rE_ft]; exact ft_of Tryz.func75
theorem ft76 : rE.ft.get 76 = some Tryz.f76 := by rw [rE_ft]; exact ft_of Tryz.func76
theorem cc3 {args : List Value} {H : Hp} : ccall rE 3 args H (some Tryz.f3) = some (.enter 3 args, H) := by kernel_rfl
theorem cc5 {args : List Value} {H : Hp} : ccall rE 5 args H (some Tryz.f5) = some (.enter 5 args, H) := by kernel_rfl
theorem cc6 {args : List Value} {H : Hp} : ccall rE 6 args H (some Tryz.f6) = some (.enter 6 args, H) := by kernel_rfl
theorem cc7 {args : List Value} {H : Hp} : ccall rE 7 args H (some Tryz.f7) = some (.enter 7 args, H) := by kernel_rfl
theorem cc8 {args : List Value} {H : Hp} : ccall rE 8 args H (some Tryz.f8) = some (.enter 8 args, H) := by kernel_rfl
theorem cc17 {args : List Value} {H : Hp} : ccall rE 17 args H (some Tryz.f17) = some (.enter 17 args, H) := by kernel_rfl
theorem cc18 {args : List Value} {H : Hp} : ccall rE 18 args H (some Tryz.f18) = some (.enter 18 args, H) := by kernel_rfl
theorem cc19 {args : List Value} {H : Hp} : ccall rE 19 args H (some Tryz.f19) = some (.enter 19 args, H) := by kernel_rfl
theorem cc20 {args : List Value} {H : Hp} : ccall rE 20 args H (some Tryz.f20) = some (.enter 20 args, H) := by kernel_rfl
theorem cc22 {args : List Value} {H : Hp} : ccall rE 22 args H (some Tryz.f22) = some (.enter 22 args, H) := by kernel_rfl
theorem cc23 {args : List Value} {H : Hp} : ccall rE 23 args H (some Tryz.f23) = some (.enter 23 args, H) := by kernel_rfl
theorem cc24 {args : List Value} {H : Hp} : ccall rE 24 args H (some Tryz.f24) = some (.enter 24 args, H) := by kernel_rfl
theorem cc25 {args : List Value} {H : Hp} : ccall rE 25 args H (some Tryz.f25) = some (.enter 25 args, H) := by kernel_rfl
theorem cc26 {args : List Value} {H : Hp} : ccall rE 26 args H (some Tryz.f26) = some (.enter 26 args, H) := by kernel_rfl
theorem cc27 {args : List Value} {H : Hp} : ccall rE 27 args H (some Tryz.f27) = some (.enter 27 args, H) := by kernel_rfl
theorem cc32 {args : List Value} {H : Hp} : ccall rE 32 args H (some Tryz.f32) = some (.enter 32 args, H) := by kernel_rfl
theorem cc40 {args : List Value} {H : Hp} : ccall rE 40 args H (some Tryz.f40) = some (.enter 40 args, H) := by kernel_rfl
theorem cc45 {args : List Value} {H : Hp} : ccall rE 45 args H (some Tryz.f45) = some (.enter 45 args, H) := by kernel_rfl
theorem cc46 {args : List Value} {H : Hp} : ccall rE 46 args H (some Tryz.f46) = some (.enter 46 args, H) := by kernel_rfl
theorem cc47 {args : List Value} {H : Hp} : ccall rE 47 args H (some Tryz.f47) = some (.enter 47 args, H) := by kernel_rfl
theorem cc48 {args : List Value} {H : Hp} : ccall rE 48 args H (some Tryz.f48) = some (.enter 48 args, H) := by kernel_rfl
theorem cc60 {args : List Value} {H : Hp} : ccall rE 60 args H (some Tryz.f60) = some (.enter 60 args, H) := by kernel_rfl
theorem cc61 {args : List Value} {H : Hp} : ccall rE 61 args H (some Tryz.f61) = some (.enter 61 args, H) := by kernel_rfl
theorem cc62 {args : List Value} {H : Hp} : ccall rE 62 args H (some Tryz.f62) = some (.enter 62 args, H) := by kernel_rfl
theorem cc63 {args : List Value} {H : Hp} : ccall rE 63 args H (some Tryz.f63) = some (.enter 63 args, H) := by kernel_rfl
theorem cc64 {args : List Value} {H : Hp} : ccall rE 64 args H (some Tryz.f64) = some (.enter 64 args, H) := by kernel_rfl
theorem cc66 {args : List Value} {H : Hp} : ccall rE 66 args H (some Tryz.f66) = some (.enter 66 args, H) := by kernel_rfl
theorem cc75 {args : List Value} {H : Hp} : ccall rE 75 args H (some Tryz.f75) = some (.enter 75 args, H) := by kernel_rfl
theorem cc76 {args : List Value} {H : Hp} : ccall rE 76 args H (some Tryz.f76) = some (.enter 76 args, H) := by kernel_rfl
theorem cv_21_3 {H : Hp} {c : Int} {a b : TI} (ha : rE.tt.get 21 = some a) (hb : rE.tt.get 3 = some b) : xconv rE 21 3 H (.int .i32 c) (some a) (some b) = some (.val (.int .i64 (IntKind.i64.wrap c)), H) := by
  rw [tt21] at ha; rw [tt3] at hb; cases ha; cases hb
  kernel_rfl
theorem eqnil53 {H : Hp} {x y : Operand} : cbin rE .eql 53 x y H (.slice none 0 0) (.slice none 0 0) = some (.bool true) := by kernel_rfl
theorem eqnil80 {H : Hp} {x y : Operand} : cbin rE .eql 80 x y H (.slice none 0 0) (.slice none 0 0) = some (.bool true) := by kernel_rfl
theorem eqnil22 {H : Hp} {x y : Operand} : cbin rE .eql 22 x y H (.slice none 0 0) (.slice none 0 0) = some (.bool true) := by kernel_rfl
theorem eqnil23 {H : Hp} {x y : Operand} : cbin rE .eql 23 x y H (.slice none 0 0) (.slice none 0 0) = some (.bool true) := by kernel_rfl
theorem nenil53 {H : Hp} {x y : Operand} {a : Addr} {n c : Nat} : cbin rE .eql 53 x y H (.slice (some a) n c) (.slice none 0 0) = some (.bool false) := by
  show cbinS rE .eql 53 x y (.slice (some a) n c) (.slice none 0 0) H = _
  have h1 : (flat' (.slice (some a) n c) && flat' (.slice none 0 0)) = false := rfl
  rw [cbinS, h1, cond_false, tt53]; rfl
theorem nenil80 {H : Hp} {x y : Operand} {a : Addr} {n c : Nat} : cbin rE .eql 80 x y H (.slice (some a) n c) (.slice none 0 0) = some (.bool false) := by
  show cbinS rE .eql 80 x y (.slice (some a) n c) (.slice none 0 0) H = _
  have h1 : (flat' (.slice (some a) n c) && flat' (.slice none 0 0)) = false := rfl
  rw [cbinS, h1, cond_false, tt80]; rfl
theorem nenil22 {H : Hp} {x y : Operand} {a : Addr} {n c : Nat} : cbin rE .eql 22 x y H (.slice (some a) n c) (.slice none 0 0) = some (.bool false) := by
  show cbinS rE .eql 22 x y (.slice (some a) n c) (.slice none 0 0) H = _
  have h1 : (flat' (.slice (some a) n c) && flat' (.slice none 0 0)) = false := rfl
  rw [cbinS, h1, cond_false, tt22]; rfl
theorem nenil23 {H : Hp} {x y : Operand} {a : Addr} {n c : Nat} : cbin rE .eql 23 x y H (.slice (some a) n c) (.slice none 0 0) = some (.bool false) := by
  show cbinS rE .eql 23 x y (.slice (some a) n c) (.slice none 0 0) H = _
  have h1 : (flat' (.slice (some a) n c) && flat' (.slice none 0 0)) = false := rfl
  rw [cbinS, h1, cond_false, tt23]; rfl
theorem bytes4 : rE.P.bytesOf 4 = 1 := by kernel_rfl
theorem bytes53 : rE.P.bytesOf 53 = 24 := by kernel_rfl
theorem bytes3 : rE.P.bytesOf 3 = 8 := by kernel_rfl
theorem un_not {b : Bool} : xun rE .not (.bool b) = some (.bool (!b)) := by cases b <;> kernel_rfl
theorem eqB {H : Hp} {x y : Operand} {a b : Bool} : cbin rE .eql 4 x y H (.bool a) (.bool b) = some (.bool (a == b)) := by cases a <;> cases b <;> kernel_rfl
end
end Go.Proofs
