/- The chapter's example played, and the program's tables (no statement of the program is proved here). -/
import Derived.Test.YtoanfmlpddlcmaaGreatDoorRows
import Derived.KernelRfl
import Derived.Test.YtoanfmlpddlcmaaGreatDoorPEc
import Derived.Test.YtoanfmlpddlcmaaGreatDoorPS
namespace Go.Proofs
open Go Go.PE
noncomputable def peExt : Tr (Nat × Nat) := (((Tr.e).set 80 (1, 0)).set 81 (2, 5)).set 99 (3, 0)
noncomputable def peE : Env := ⟨Tryz.prog, typeTable Tryz.prog, funcTable Tryz.prog, peExt, 0, fun _ => none, .e, .e⟩
theorem pe_types : (List.range Tryz.prog.types.size).all (tyOk Tryz.prog) = true := by kernel_rfl
theorem pe_funcs : Tryz.prog.funcs.toList.all fnOk = true := by kernel_rfl
theorem pe_mixed : Tryz.prog.follows .mixedOrders = true := by kernel_rfl
noncomputable def peFn (i : Nat) : Func := match Tryz.prog.funcs[i]? with
  | some f => f
  | none => default
theorem pe_fn80 : Tryz.prog.funcs[80]? = some (peFn 80) := by kernel_rfl
theorem pe_fn81 : Tryz.prog.funcs[81]? = some (peFn 81) := by kernel_rfl
theorem pe_fn99 : Tryz.prog.funcs[99]? = some (peFn 99) := by kernel_rfl
theorem pe_name80 : ((peFn 80).name == "runtime.NumGoroutine") = false := by kernel_rfl
theorem pe_name81 : ((peFn 81).name == "runtime.NumGoroutine") = false := by kernel_rfl
theorem pe_name99 : ((peFn 99).name == "runtime.NumGoroutine") = false := by kernel_rfl
theorem pe_body80 : (peFn 80).body.isNone = true := by kernel_rfl
theorem pe_body81 : (peFn 81).body.isNone = true := by kernel_rfl
theorem pe_body99 : (peFn 99).body.isNone = true := by kernel_rfl
theorem pe_next80 : Extern.findNext (peFn 80) = none := by kernel_rfl
theorem pe_next81 : Extern.findNext (peFn 81) = none := by kernel_rfl
theorem pe_next99 : Extern.findNext (peFn 99) = none := by kernel_rfl
theorem pe_find80 : Extern.find (peFn 80) = some Extern.AbiNoEscape.same := by kernel_rfl
theorem pe_find81 : Extern.find (peFn 81) = some (Extern.BytealgMakeNoZero.makeNoZero #[3] #[83]) := by kernel_rfl
theorem pe_find99 : Extern.find (peFn 99) = some Extern.BytealgIndexByte.indexByte := by kernel_rfl
theorem pe_sl : Tryz.prog.underlying 83 = some (.slice 5) := by kernel_rfl
theorem pe_ok : EnvOk peE := by
  refine envOk_of (fun g h => absurd h (Nat.not_lt_zero g)) pe_types pe_funcs pe_mixed ?_
  intro f k ty h
  have h : peExt.get f = some (k, ty) := h
  unfold peExt at h
  rw [Tr.get_set] at h
  split at h
  · rename_i e; subst e; cases h
    exact ⟨83, fun h => (by cases h), fun args w => run_callFunc_extern pe_fn99 pe_name99 pe_body99 pe_next99 pe_find99 args w⟩
  · rw [Tr.get_set] at h
    split at h
    · rename_i e; subst e; cases h
      exact ⟨83, fun _ => pe_sl, fun args w => run_callFunc_extern pe_fn81 pe_name81 pe_body81 pe_next81 pe_find81 args w⟩
    · rw [Tr.get_set] at h
      split at h
      · rename_i e; subst e; cases h
        exact ⟨83, fun h => (by cases h), fun args w => run_callFunc_extern pe_fn80 pe_name80 pe_body80 pe_next80 pe_find80 args w⟩
      · rw [Tr.get_e] at h; cases h
theorem pe_run : okTrue (ev peE 1000000 (.call 6 [] ⟨.e, 0⟩)) = true := by kernel_rfl
/-- THE CHAPTER's EXAMPLE: awake answers true, in every world, and changes nothing. -/
theorem pe_awake (w : World) : Calls Tryz.prog 6 #[] w fun e w' => e = .returned (.bool true) ∧ RowKit.Below w.heap.size w w' := calls_true pe_ok (fun b k h => by cases h) .nil pe_run w ⟨fun f F args v h => (by rw [show peE.ans = .e from rfl, Tr.get_e] at h; cases h), fun f F args H v H' h => (by rw [show peE.eff = .e from rfl, Tr.get_e] at h; cases h)⟩
end Go.Proofs
namespace Go.Proofs
open Go Go.PE
noncomputable section
def awAns : List Value → Option Value
  | [] => some (.bool true)
  | _ => none
/-- the program's tables, with what is answered -/
def tE (ans : Tr (List Value → Option Value)) (eff : Tr (List Value → Hp → Option (Value × Hp))) : Env := ⟨Tryz.prog, typeTable Tryz.prog, funcTable Tryz.prog, peExt, 0, fun _ => none, ans, eff⟩
theorem t_ok {ans : Tr (List Value → Option Value)} {eff : Tr (List Value → Hp → Option (Value × Hp))} : EnvOk (tE ans eff) := ⟨pe_ok.tt, pe_ok.ft, pe_ok.small, pe_ok.mixed, pe_ok.gG, pe_ok.fld, pe_ok.ext⟩
theorem tE_tt {ans : Tr (List Value → Option Value)} {eff : Tr (List Value → Hp → Option (Value × Hp))} : (tE ans eff).tt = typeTable Tryz.prog := by kernel_rfl
theorem tE_ft {ans : Tr (List Value → Option Value)} {eff : Tr (List Value → Hp → Option (Value × Hp))} : (tE ans eff).ft = funcTable Tryz.prog := by kernel_rfl
theorem t_size : Tryz.prog.types.size = 167 := Tryz.types_size
variable {ans : Tr (List Value → Option Value)} {eff : Tr (List Value → Hp → Option (Value × Hp))}

theorem tt2 : (tE ans eff).tt.get 2 = some ⟨false, 1, [(Value.int IntKind.i64 (0))], 10, 0, 0, 0, [], some (Value.int IntKind.i64 (0)), true⟩ := by
  rw [tE_tt, tt_of (P := Tryz.prog) (t := 2) (by rw [t_size]; decide)]
  kernel_rfl
theorem tt3 : (tE ans eff).tt.get 3 = some ⟨false, 1, [(Value.int IntKind.i64 (0))], 10, 0, 0, 0, [], some (Value.int IntKind.i64 (0)), true⟩ := by
  rw [tE_tt, tt_of (P := Tryz.prog) (t := 3) (by rw [t_size]; decide)]
  kernel_rfl
theorem tt4 : (tE ans eff).tt.get 4 = some ⟨false, 1, [(.bool false)], 11, 0, 0, 0, [], some (.bool false), true⟩ := by
  rw [tE_tt, tt_of (P := Tryz.prog) (t := 4) (by rw [t_size]; decide)]
  kernel_rfl
theorem tt5 : (tE ans eff).tt.get 5 = some ⟨false, 1, [(Value.int IntKind.u8 (0))], 10, 0, 0, 0, [], some (Value.int IntKind.u8 (0)), true⟩ := by
  rw [tE_tt, tt_of (P := Tryz.prog) (t := 5) (by rw [t_size]; decide)]
  kernel_rfl
theorem tt9 : (tE ans eff).tt.get 9 = some ⟨false, 1, [(Value.string ⟨#[]⟩)], 1, 0, 0, 0, [], some (Value.string ⟨#[]⟩), true⟩ := by
  rw [tE_tt, tt_of (P := Tryz.prog) (t := 9) (by rw [t_size]; decide)]
  kernel_rfl
theorem tt21 : (tE ans eff).tt.get 21 = some ⟨false, 1, [(Value.int IntKind.i32 (0))], 10, 0, 0, 0, [], some (Value.int IntKind.i32 (0)), true⟩ := by
  rw [tE_tt, tt_of (P := Tryz.prog) (t := 21) (by rw [t_size]; decide)]
  kernel_rfl
theorem tt22 : (tE ans eff).tt.get 22 = some ⟨false, 1, [(.slice none 0 0)], 4, 62, 0, 0, [], some (.slice none 0 0), true⟩ := by
  rw [tE_tt, tt_of (P := Tryz.prog) (t := 22) (by rw [t_size]; decide)]
  kernel_rfl
theorem tt23 : (tE ans eff).tt.get 23 = some ⟨false, 1, [(.slice none 0 0)], 4, 25, 0, 0, [], some (.slice none 0 0), true⟩ := by
  rw [tE_tt, tt_of (P := Tryz.prog) (t := 23) (by rw [t_size]; decide)]
  kernel_rfl
theorem tt25 : (tE ans eff).tt.get 25 = some ⟨true, 3, [(Value.int IntKind.i64 (0)), (.slice none 0 0), (.slice none 0 0)], 6, 0, 0, 0, [(0, 1, false), (1, 1, false), (2, 1, false)], some (.agg #[(Value.int IntKind.i64 (0)), (.slice none 0 0), (.slice none 0 0)]), true⟩ := by
  rw [tE_tt, tt_of (P := Tryz.prog) (t := 25) (by rw [t_size]; decide)]
  kernel_rfl
theorem tt26 : (tE ans eff).tt.get 26 = some ⟨false, 1, [(Value.int IntKind.i64 (0))], 10, 0, 0, 0, [], some (Value.int IntKind.i64 (0)), true⟩ := by
  rw [tE_tt, tt_of (P := Tryz.prog) (t := 26) (by rw [t_size]; decide)]
  kernel_rfl
theorem tt53 : (tE ans eff).tt.get 53 = some ⟨false, 1, [(.slice none 0 0)], 4, 4, 0, 0, [], some (.slice none 0 0), true⟩ := by
  rw [tE_tt, tt_of (P := Tryz.prog) (t := 53) (by rw [t_size]; decide)]
  kernel_rfl
theorem tt55 : (tE ans eff).tt.get 55 = some ⟨false, 1, [(.pointer none)], 2, 25, 0, 0, [], some (.pointer none), true⟩ := by
  rw [tE_tt, tt_of (P := Tryz.prog) (t := 55) (by rw [t_size]; decide)]
  kernel_rfl
theorem tt62 : (tE ans eff).tt.get 62 = some ⟨true, 2, [(Value.int IntKind.i64 (0)), (Value.int IntKind.i64 (0))], 6, 0, 0, 0, [(0, 1, false), (1, 1, false)], some (.agg #[(Value.int IntKind.i64 (0)), (Value.int IntKind.i64 (0))]), true⟩ := by
  rw [tE_tt, tt_of (P := Tryz.prog) (t := 62) (by rw [t_size]; decide)]
  kernel_rfl
theorem tt80 : (tE ans eff).tt.get 80 = some ⟨false, 1, [(.slice none 0 0)], 4, 53, 0, 0, [], some (.slice none 0 0), true⟩ := by
  rw [tE_tt, tt_of (P := Tryz.prog) (t := 80) (by rw [t_size]; decide)]
  kernel_rfl
theorem tt95 : (tE ans eff).tt.get 95 = some ⟨false, 1, [.nilFunc], 0, 0, 0, 0, [], some .nilFunc, true⟩ := by
  rw [tE_tt, tt_of (P := Tryz.prog) (t := 95) (by rw [t_size]; decide)]
  kernel_rfl
theorem ft3 : (tE ans eff).ft.get 3 = some Tryz.f3 := by rw [tE_ft]; exact ft_of Tryz.func3
theorem ft4 : (tE ans eff).ft.get 4 = some Tryz.f4 := by rw [tE_ft]; exact ft_of Tryz.func4
theorem ft6 : (tE ans eff).ft.get 6 = some Tryz.f6 := by rw [tE_ft]; exact ft_of Tryz.func6
theorem ft8 : (tE ans eff).ft.get 8 = some Tryz.f8 := by rw [tE_ft]; exact ft_of Tryz.func8
theorem ft9 : (tE ans eff).ft.get 9 = some Tryz.f9 := by rw [tE_ft]; exact ft_of Tryz.func9
theorem ft10 : (tE ans eff).ft.get 10 = some Tryz.f10 := by rw [tE_ft]; exact ft_of Tryz.func10
theorem ft11 : (tE ans eff).ft.get 11 = some Tryz.f11 := by rw [tE_ft]; exact ft_of Tryz.func11
theorem ft12 : (tE ans eff).ft.get 12 = some Tryz.f12 := by rw [tE_ft]; exact ft_of Tryz.func12
theorem ft13 : (tE ans eff).ft.get 13 = some Tryz.f13 := by rw [tE_ft]; exact ft_of Tryz.func13
theorem ft14 : (tE ans eff).ft.get 14 = some Tryz.f14 := by rw [tE_ft]; exact ft_of Tryz.func14
theorem ft15 : (tE ans eff).ft.get 15 = some Tryz.f15 := by rw [tE_ft]; exact ft_of Tryz.func15
theorem ft16 : (tE ans eff).ft.get 16 = some Tryz.f16 := by rw [tE_ft]; exact ft_of Tryz.func16
theorem ft24 : (tE ans eff).ft.get 24 = some Tryz.f24 := by rw [tE_ft]; exact ft_of Tryz.func24
theorem ft25 : (tE ans eff).ft.get 25 = some Tryz.f25 := by rw [tE_ft]; exact ft_of Tryz.func25
theorem ft26 : (tE ans eff).ft.get 26 = some Tryz.f26 := by rw [tE_ft]; exact ft_of Tryz.func26
theorem ft27 : (tE ans eff).ft.get 27 = some Tryz.f27 := by rw [tE_ft]; exact ft_of Tryz.func27
theorem ft28 : (tE ans eff).ft.get 28 = some Tryz.f28 := by rw [tE_ft]; exact ft_of Tryz.func28
theorem ft29 : (tE ans eff).ft.get 29 = some Tryz.f29 := by rw [tE_ft]; exact ft_of Tryz.func29
theorem ft30 : (tE ans eff).ft.get 30 = some Tryz.f30 := by rw [tE_ft]; exact ft_of Tryz.func30
theorem ft31 : (tE ans eff).ft.get 31 = some Tryz.f31 := by rw [tE_ft]; exact ft_of Tryz.func31
theorem ft32 : (tE ans eff).ft.get 32 = some Tryz.f32 := by rw [tE_ft]; exact ft_of Tryz.func32
theorem ft33 : (tE ans eff).ft.get 33 = some Tryz.f33 := by rw [tE_ft]; exact ft_of Tryz.func33
theorem ft34 : (tE ans eff).ft.get 34 = some Tryz.f34 := by rw [tE_ft]; exact ft_of Tryz.func34
theorem ft35 : (tE ans eff).ft.get 35 = some Tryz.f35 := by rw [tE_ft]; exact ft_of Tryz.func35
theorem ft36 : (tE ans eff).ft.get 36 = some Tryz.f36 := by rw [tE_ft]; exact ft_of Tryz.func36
theorem ft37 : (tE ans eff).ft.get 37 = some Tryz.f37 := by rw [tE_ft]; exact ft_of Tryz.func37
theorem ft38 : (tE ans eff).ft.get 38 = some Tryz.f38 := by rw [tE_ft]; exact ft_of Tryz.func38
theorem ft39 : (tE ans eff).ft.get 39 = some Tryz.f39 := by rw [tE_ft]; exact ft_of Tryz.func39
theorem ft47 : (tE ans eff).ft.get 47 = some Tryz.f47 := by rw [tE_ft]; exact ft_of Tryz.func47
theorem ft48 : (tE ans eff).ft.get 48 = some Tryz.f48 := by rw [tE_ft]; exact ft_of Tryz.func48
theorem ft49 : (tE ans eff).ft.get 49 = some Tryz.f49 := by rw [tE_ft]; exact ft_of Tryz.func49
theorem ft50 : (tE ans eff).ft.get 50 = some Tryz.f50 := by rw [tE_ft]; exact ft_of Tryz.func50
theorem ft51 : (tE ans eff).ft.get 51 = some Tryz.f51 := by rw [tE_ft]; exact ft_of Tryz.func51
theorem ft52 : (tE ans eff).ft.get 52 = some Tryz.f52 := by rw [tE_ft]; exact ft_of Tryz.func52
theorem ft53 : (tE ans eff).ft.get 53 = some Tryz.f53 := by rw [tE_ft]; exact ft_of Tryz.func53
theorem ft54 : (tE ans eff).ft.get 54 = some Tryz.f54 := by rw [tE_ft]; exact ft_of Tryz.func54
theorem ft55 : (tE ans eff).ft.get 55 = some Tryz.f55 := by rw [tE_ft]; exact ft_of Tryz.func55
theorem ft60 : (tE ans eff).ft.get 60 = some Tryz.f60 := by rw [tE_ft]; exact ft_of Tryz.func60
theorem ft66 : (tE ans eff).ft.get 66 = some Tryz.f66 := by rw [tE_ft]; exact ft_of Tryz.func66
theorem ft67 : (tE ans eff).ft.get 67 = some Tryz.f67 := by rw [tE_ft]; exact ft_of Tryz.func67
theorem ft69 : (tE ans eff).ft.get 69 = some Tryz.f69 := by rw [tE_ft]; exact ft_of Tryz.func69
theorem ft70 : (tE ans eff).ft.get 70 = some Tryz.f70 := by rw [tE_ft]; exact ft_of Tryz.func70
theorem ft75 : (tE ans eff).ft.get 75 = some Tryz.f75 := by rw [tE_ft]; exact ft_of Tryz.func75
theorem ft77 : (tE ans eff).ft.get 77 = some Tryz.f77 := by rw [tE_ft]; exact ft_of Tryz.func77
theorem ft78 : (tE ans eff).ft.get 78 = some Tryz.f78 := by rw [tE_ft]; exact ft_of Tryz.func78
theorem ft88 : (tE ans eff).ft.get 88 = some Tryz.f88 := by rw [tE_ft]; exact ft_of Tryz.func88
theorem ft89 : (tE ans eff).ft.get 89 = some Tryz.f89 := by rw [tE_ft]; exact ft_of Tryz.func89
theorem ft90 : (tE ans eff).ft.get 90 = some Tryz.f90 := by rw [tE_ft]; exact ft_of Tryz.func90
theorem ft91 : (tE ans eff).ft.get 91 = some Tryz.f91 := by rw [tE_ft]; exact ft_of Tryz.func91
theorem ft100 : (tE ans eff).ft.get 100 = some Tryz.f100 := by rw [tE_ft]; exact ft_of Tryz.func100
theorem ft101 : (tE ans eff).ft.get 101 = some Tryz.f101 := by rw [tE_ft]; exact ft_of Tryz.func101
theorem ft102 : (tE ans eff).ft.get 102 = some Tryz.f102 := by rw [tE_ft]; exact ft_of Tryz.func102
theorem ft103 : (tE ans eff).ft.get 103 = some Tryz.f103 := by rw [tE_ft]; exact ft_of Tryz.func103
theorem ft105 : (tE ans eff).ft.get 105 = some Tryz.f105 := by rw [tE_ft]; exact ft_of Tryz.func105
theorem cc3 {args : List Value} {H : Hp} : ccall (tE ans eff) 3 args H (some Tryz.f3) = some (.enter 3 args, H) := by kernel_rfl
theorem cc4 {args : List Value} {H : Hp} : ccall (tE ans eff) 4 args H (some Tryz.f4) = some (.enter 4 args, H) := by kernel_rfl
theorem cc6 {args : List Value} {H : Hp} : ccall (tE ans eff) 6 args H (some Tryz.f6) = some (.enter 6 args, H) := by kernel_rfl
theorem cc8 {args : List Value} {H : Hp} : ccall (tE ans eff) 8 args H (some Tryz.f8) = some (.enter 8 args, H) := by kernel_rfl
theorem cc9 {args : List Value} {H : Hp} : ccall (tE ans eff) 9 args H (some Tryz.f9) = some (.enter 9 args, H) := by kernel_rfl
theorem cc10 {args : List Value} {H : Hp} : ccall (tE ans eff) 10 args H (some Tryz.f10) = some (.enter 10 args, H) := by kernel_rfl
theorem cc11 {args : List Value} {H : Hp} : ccall (tE ans eff) 11 args H (some Tryz.f11) = some (.enter 11 args, H) := by kernel_rfl
theorem cc12 {args : List Value} {H : Hp} : ccall (tE ans eff) 12 args H (some Tryz.f12) = some (.enter 12 args, H) := by kernel_rfl
theorem cc13 {args : List Value} {H : Hp} : ccall (tE ans eff) 13 args H (some Tryz.f13) = some (.enter 13 args, H) := by kernel_rfl
theorem cc14 {args : List Value} {H : Hp} : ccall (tE ans eff) 14 args H (some Tryz.f14) = some (.enter 14 args, H) := by kernel_rfl
theorem cc15 {args : List Value} {H : Hp} : ccall (tE ans eff) 15 args H (some Tryz.f15) = some (.enter 15 args, H) := by kernel_rfl
theorem cc16 {args : List Value} {H : Hp} : ccall (tE ans eff) 16 args H (some Tryz.f16) = some (.enter 16 args, H) := by kernel_rfl
theorem cc24 {args : List Value} {H : Hp} : ccall (tE ans eff) 24 args H (some Tryz.f24) = some (.enter 24 args, H) := by kernel_rfl
theorem cc25 {args : List Value} {H : Hp} : ccall (tE ans eff) 25 args H (some Tryz.f25) = some (.enter 25 args, H) := by kernel_rfl
theorem cc26 {args : List Value} {H : Hp} : ccall (tE ans eff) 26 args H (some Tryz.f26) = some (.enter 26 args, H) := by kernel_rfl
theorem cc27 {args : List Value} {H : Hp} : ccall (tE ans eff) 27 args H (some Tryz.f27) = some (.enter 27 args, H) := by kernel_rfl
theorem cc28 {args : List Value} {H : Hp} : ccall (tE ans eff) 28 args H (some Tryz.f28) = some (.enter 28 args, H) := by kernel_rfl
theorem cc29 {args : List Value} {H : Hp} : ccall (tE ans eff) 29 args H (some Tryz.f29) = some (.enter 29 args, H) := by kernel_rfl
theorem cc30 {args : List Value} {H : Hp} : ccall (tE ans eff) 30 args H (some Tryz.f30) = some (.enter 30 args, H) := by kernel_rfl
theorem cc31 {args : List Value} {H : Hp} : ccall (tE ans eff) 31 args H (some Tryz.f31) = some (.enter 31 args, H) := by kernel_rfl
theorem cc32 {args : List Value} {H : Hp} : ccall (tE ans eff) 32 args H (some Tryz.f32) = some (.enter 32 args, H) := by kernel_rfl
theorem cc33 {args : List Value} {H : Hp} : ccall (tE ans eff) 33 args H (some Tryz.f33) = some (.enter 33 args, H) := by kernel_rfl
theorem cc34 {args : List Value} {H : Hp} : ccall (tE ans eff) 34 args H (some Tryz.f34) = some (.enter 34 args, H) := by kernel_rfl
theorem cc35 {args : List Value} {H : Hp} : ccall (tE ans eff) 35 args H (some Tryz.f35) = some (.enter 35 args, H) := by kernel_rfl
theorem cc36 {args : List Value} {H : Hp} : ccall (tE ans eff) 36 args H (some Tryz.f36) = some (.enter 36 args, H) := by kernel_rfl
theorem cc37 {args : List Value} {H : Hp} : ccall (tE ans eff) 37 args H (some Tryz.f37) = some (.enter 37 args, H) := by kernel_rfl
theorem cc38 {args : List Value} {H : Hp} : ccall (tE ans eff) 38 args H (some Tryz.f38) = some (.enter 38 args, H) := by kernel_rfl
theorem cc39 {args : List Value} {H : Hp} : ccall (tE ans eff) 39 args H (some Tryz.f39) = some (.enter 39 args, H) := by kernel_rfl
theorem cc47 {args : List Value} {H : Hp} : ccall (tE ans eff) 47 args H (some Tryz.f47) = some (.enter 47 args, H) := by kernel_rfl
theorem cc48 {args : List Value} {H : Hp} : ccall (tE ans eff) 48 args H (some Tryz.f48) = some (.enter 48 args, H) := by kernel_rfl
theorem cc49 {args : List Value} {H : Hp} : ccall (tE ans eff) 49 args H (some Tryz.f49) = some (.enter 49 args, H) := by kernel_rfl
theorem cc50 {args : List Value} {H : Hp} : ccall (tE ans eff) 50 args H (some Tryz.f50) = some (.enter 50 args, H) := by kernel_rfl
theorem cc51 {args : List Value} {H : Hp} : ccall (tE ans eff) 51 args H (some Tryz.f51) = some (.enter 51 args, H) := by kernel_rfl
theorem cc52 {args : List Value} {H : Hp} : ccall (tE ans eff) 52 args H (some Tryz.f52) = some (.enter 52 args, H) := by kernel_rfl
theorem cc53 {args : List Value} {H : Hp} : ccall (tE ans eff) 53 args H (some Tryz.f53) = some (.enter 53 args, H) := by kernel_rfl
theorem cc54 {args : List Value} {H : Hp} : ccall (tE ans eff) 54 args H (some Tryz.f54) = some (.enter 54 args, H) := by kernel_rfl
theorem cc55 {args : List Value} {H : Hp} : ccall (tE ans eff) 55 args H (some Tryz.f55) = some (.enter 55 args, H) := by kernel_rfl
theorem cc60 {args : List Value} {H : Hp} : ccall (tE ans eff) 60 args H (some Tryz.f60) = some (.enter 60 args, H) := by kernel_rfl
theorem cc66 {args : List Value} {H : Hp} : ccall (tE ans eff) 66 args H (some Tryz.f66) = some (.enter 66 args, H) := by kernel_rfl
theorem cc67 {args : List Value} {H : Hp} : ccall (tE ans eff) 67 args H (some Tryz.f67) = some (.enter 67 args, H) := by kernel_rfl
theorem cc69 {args : List Value} {H : Hp} : ccall (tE ans eff) 69 args H (some Tryz.f69) = some (.enter 69 args, H) := by kernel_rfl
theorem cc70 {args : List Value} {H : Hp} : ccall (tE ans eff) 70 args H (some Tryz.f70) = some (.enter 70 args, H) := by kernel_rfl
theorem cc75 {args : List Value} {H : Hp} : ccall (tE ans eff) 75 args H (some Tryz.f75) = some (.enter 75 args, H) := by kernel_rfl
theorem cc77 {args : List Value} {H : Hp} : ccall (tE ans eff) 77 args H (some Tryz.f77) = some (.enter 77 args, H) := by kernel_rfl
theorem cc78 {args : List Value} {H : Hp} : ccall (tE ans eff) 78 args H (some Tryz.f78) = some (.enter 78 args, H) := by kernel_rfl
theorem cc88 {args : List Value} {H : Hp} : ccall (tE ans eff) 88 args H (some Tryz.f88) = some (.enter 88 args, H) := by kernel_rfl
theorem cc89 {args : List Value} {H : Hp} : ccall (tE ans eff) 89 args H (some Tryz.f89) = some (.enter 89 args, H) := by kernel_rfl
theorem cc90 {args : List Value} {H : Hp} : ccall (tE ans eff) 90 args H (some Tryz.f90) = some (.enter 90 args, H) := by kernel_rfl
theorem cc91 {args : List Value} {H : Hp} : ccall (tE ans eff) 91 args H (some Tryz.f91) = some (.enter 91 args, H) := by kernel_rfl
theorem cc100 {args : List Value} {H : Hp} : ccall (tE ans eff) 100 args H (some Tryz.f100) = some (.enter 100 args, H) := by kernel_rfl
theorem cc101 {args : List Value} {H : Hp} : ccall (tE ans eff) 101 args H (some Tryz.f101) = some (.enter 101 args, H) := by kernel_rfl
theorem cc102 {args : List Value} {H : Hp} : ccall (tE ans eff) 102 args H (some Tryz.f102) = some (.enter 102 args, H) := by kernel_rfl
theorem cc103 {args : List Value} {H : Hp} : ccall (tE ans eff) 103 args H (some Tryz.f103) = some (.enter 103 args, H) := by kernel_rfl
theorem cc105 {args : List Value} {H : Hp} : ccall (tE ans eff) 105 args H (some Tryz.f105) = some (.enter 105 args, H) := by kernel_rfl
theorem eqnil53 {H : Hp} {x y : Operand} : cbin (tE ans eff) .eql 53 x y H (.slice none 0 0) (.slice none 0 0) = some (.bool true) := by kernel_rfl
theorem eqnil80 {H : Hp} {x y : Operand} : cbin (tE ans eff) .eql 80 x y H (.slice none 0 0) (.slice none 0 0) = some (.bool true) := by kernel_rfl
theorem eqnil22 {H : Hp} {x y : Operand} : cbin (tE ans eff) .eql 22 x y H (.slice none 0 0) (.slice none 0 0) = some (.bool true) := by kernel_rfl
theorem eqnil23 {H : Hp} {x y : Operand} : cbin (tE ans eff) .eql 23 x y H (.slice none 0 0) (.slice none 0 0) = some (.bool true) := by kernel_rfl
theorem nenil53 {H : Hp} {x y : Operand} {a : Addr} {n c : Nat} : cbin (tE ans eff) .eql 53 x y H (.slice (some a) n c) (.slice none 0 0) = some (.bool false) := by
  show cbinS (tE ans eff) .eql 53 x y (.slice (some a) n c) (.slice none 0 0) H = _
  have h1 : (flat' (.slice (some a) n c) && flat' (.slice none 0 0)) = false := rfl
  rw [cbinS, h1, cond_false, tt53]; rfl
theorem nenil80 {H : Hp} {x y : Operand} {a : Addr} {n c : Nat} : cbin (tE ans eff) .eql 80 x y H (.slice (some a) n c) (.slice none 0 0) = some (.bool false) := by
  show cbinS (tE ans eff) .eql 80 x y (.slice (some a) n c) (.slice none 0 0) H = _
  have h1 : (flat' (.slice (some a) n c) && flat' (.slice none 0 0)) = false := rfl
  rw [cbinS, h1, cond_false, tt80]; rfl
theorem nenil22 {H : Hp} {x y : Operand} {a : Addr} {n c : Nat} : cbin (tE ans eff) .eql 22 x y H (.slice (some a) n c) (.slice none 0 0) = some (.bool false) := by
  show cbinS (tE ans eff) .eql 22 x y (.slice (some a) n c) (.slice none 0 0) H = _
  have h1 : (flat' (.slice (some a) n c) && flat' (.slice none 0 0)) = false := rfl
  rw [cbinS, h1, cond_false, tt22]; rfl
theorem nenil23 {H : Hp} {x y : Operand} {a : Addr} {n c : Nat} : cbin (tE ans eff) .eql 23 x y H (.slice (some a) n c) (.slice none 0 0) = some (.bool false) := by
  show cbinS (tE ans eff) .eql 23 x y (.slice (some a) n c) (.slice none 0 0) H = _
  have h1 : (flat' (.slice (some a) n c) && flat' (.slice none 0 0)) = false := rfl
  rw [cbinS, h1, cond_false, tt23]; rfl
theorem bytes4 : (tE ans eff).P.bytesOf 4 = 1 := by kernel_rfl
theorem bytes53 : (tE ans eff).P.bytesOf 53 = 24 := by kernel_rfl
theorem bytes3 : (tE ans eff).P.bytesOf 3 = 8 := by kernel_rfl
theorem bytes62 : (tE ans eff).P.bytesOf 62 = 16 := by kernel_rfl
theorem bytes25 : (tE ans eff).P.bytesOf 25 = 56 := by kernel_rfl
theorem un_not {b : Bool} : xun (tE ans eff) .not (.bool b) = some (.bool (!b)) := by cases b <;> kernel_rfl
theorem eqB {H : Hp} {x y : Operand} {a b : Bool} : cbin (tE ans eff) .eql 4 x y H (.bool a) (.bool b) = some (.bool (a == b)) := by cases a <;> cases b <;> kernel_rfl
theorem neB {H : Hp} {x y : Operand} {a b : Bool} : cbin (tE ans eff) .neq 4 x y H (.bool a) (.bool b) = some (.bool (!(a == b))) := by cases a <;> cases b <;> kernel_rfl
end
end Go.Proofs
namespace Go.Proofs
open Go Go.PE
noncomputable section
variable {ans : Tr (List Value → Option Value)} {eff : Tr (List Value → Hp → Option (Value × Hp))}
theorem tt64 : (tE ans eff).tt.get 64 = some ⟨false, 1, [(.slice none 0 0)], 4, 9, 0, 0, [], some (.slice none 0 0), true⟩ := by
  rw [tE_tt, tt_of (P := Tryz.prog) (t := 64) (by rw [t_size]; decide)]
  kernel_rfl
theorem tt83 : (tE ans eff).tt.get 83 = some ⟨false, 1, [(.slice none 0 0)], 4, 5, 0, 0, [], some (.slice none 0 0), true⟩ := by
  rw [tE_tt, tt_of (P := Tryz.prog) (t := 83) (by rw [t_size]; decide)]
  kernel_rfl
theorem ft68 : (tE ans eff).ft.get 68 = some Tryz.f68 := by rw [tE_ft]; exact ft_of Tryz.func68
theorem ft72 : (tE ans eff).ft.get 72 = some Tryz.f72 := by rw [tE_ft]; exact ft_of Tryz.func72
theorem ft79 : (tE ans eff).ft.get 79 = some Tryz.f79 := by rw [tE_ft]; exact ft_of Tryz.func79
theorem ft86 : (tE ans eff).ft.get 86 = some Tryz.f86 := by rw [tE_ft]; exact ft_of Tryz.func86
theorem ft92 : (tE ans eff).ft.get 92 = some Tryz.f92 := by rw [tE_ft]; exact ft_of Tryz.func92
theorem ft99 : (tE ans eff).ft.get 99 = some Tryz.f99 := by rw [tE_ft]; exact ft_of Tryz.func99
theorem cc68 {args : List Value} {H : Hp} : ccall (tE ans eff) 68 args H (some Tryz.f68) = some (.enter 68 args, H) := by kernel_rfl
theorem cc72 {args : List Value} {H : Hp} : ccall (tE ans eff) 72 args H (some Tryz.f72) = some (.enter 72 args, H) := by kernel_rfl
theorem cc79 {args : List Value} {H : Hp} : ccall (tE ans eff) 79 args H (some Tryz.f79) = some (.enter 79 args, H) := by kernel_rfl
theorem cc86 {args : List Value} {H : Hp} : ccall (tE ans eff) 86 args H (some Tryz.f86) = some (.enter 86 args, H) := by kernel_rfl
theorem cc92 {args : List Value} {H : Hp} : ccall (tE ans eff) 92 args H (some Tryz.f92) = some (.enter 92 args, H) := by kernel_rfl
theorem cc99 {s : List UInt8} {c : Nat} {H : Hp} (hc : c < 256) : ccall (tE ans eff) 99 [.string (bs s), .int .u8 (c : Int)] H (some Tryz.f99) = some (.val (.int .i64 (idxOf c 0 s)), H) := by
  have h1 : ccall (tE ans eff) 99 [.string (bs s), .int .u8 (Int.ofNat c)] H (some Tryz.f99) = bif Nat.blt c 256 then xval H (goInt (idxOf c 0 s)) else none := by kernel_rfl
  have h2 : Nat.blt c 256 = true := by rw [Nat.blt_eq]; exact hc
  rw [h2] at h1
  exact h1
theorem pv_3_21 {c : Int} : pureV Tryz.prog (convert 3 21 (.int .i64 c)) = some (.int .i32 (IntKind.i32.wrap c)) := by kernel_rfl
theorem pv_3_5 {c : Int} : pureV Tryz.prog (convert 3 5 (.int .i64 c)) = some (.int .u8 (IntKind.u8.wrap c)) := by kernel_rfl
theorem pv_21_5 {c : Int} : pureV Tryz.prog (convert 21 5 (.int .i32 c)) = some (.int .u8 (IntKind.u8.wrap c)) := by kernel_rfl
theorem pv_21_9 {c : Int} : pureV Tryz.prog (convert 21 9 (.int .i32 c)) = some (.string (Utf8.encode c)) := by kernel_rfl
end
end Go.Proofs
