/- The evaluator of runs of the model: what its steps do to a world (no statement of the program is proved here). -/
import Derived.Test.YtoanfmlpddlcmaaGreatDoorPEa
import Derived.Laws.IdiomStrings
import Derived.Lib.UnsafeStr
import Derived.Lib.Bytealg
import Derived.Lib.MakeNoZero
import Derived.RangeFuncIn
import Derived.RangeFuncRecord
import Derived.RangeFuncNested
namespace Go.PE
open Go Go.RowKit
section
variable {P : Program} {G : Nat → Option Nat} {N0 : Nat} {w0 w : World} {ρ : RM} {H : Hp}
theorem xcopy_sound {E : Env} (ok : EnvOk E) (W : WR G N0 w0 ρ H w) {ts : Array TypeId} {ty : TypeId} {d d' s s' : Value} (hd : VR ρ d d') (hs : VR ρ s s') {cn : CN} {H' : Hp}
    (h : xcopy E H d s (tyAt E ts 0) = some (cn, H')) : OpR E.P G N0 w0 ρ H w cn H' (vrun E.P (Builtin.copy_ ts ty #[d', s']) w) := by
  unfold xcopy at h
  split at h
  · rename_i ti hti
    obtain ⟨t, ht, hg⟩ := tyAt_some hti
    obtain ⟨_, _, rfl⟩ := ok.tt _ _ hg
    obtain ⟨hk, h⟩ := bif_some h
    obtain ⟨e, hu⟩ := kind_slice (beq_eq hk)
    have hel : (tiOf E.P t).elem = e := by show elemOfD (E.P.underlying t) = e; rw [hu]; rfl
    rw [hel] at h
    split at h
    · rename_i ei ns nd hei hns hnd
      obtain ⟨⟨i, hie⟩, _, rfl⟩ := ok.tt _ _ hei
      have hsz : (tiOf E.P e).size = E.P.cellsOf e := rfl
      rw [hsz] at h
      split at h
      · rename_i cs hcs
        obtain ⟨ys, hfirst, hv⟩ := cfirst_sound (P := E.P) W hcs hs
        have hf := hfirst w.drawn
        have hf : (Builtin.firstCells (E.P.cellsOf e) (Nat.min ns nd) s').run E.P w = .ok ys.toArray w := hf
        have hl := clen_sound (P := E.P) (w := w) hns hs
        have e0 : (#[d', s'] : Array Value)[0]? = some d' := rfl
        have e1 : (#[d', s'] : Array Value)[1]? = some s' := rfl
        cases d with
        | slice a n c =>
          cases hnd
          cases a with
          | none =>
            cases hd
            simp only [xcopyTo] at h
            obtain ⟨rfl, rfl⟩ := xval_some h
            refine .pure W (v' := goInt (Nat.min ns nd)) ?_ (.int _ _)
            unfold Builtin.copy_
            rw [ht, e0, e1]
            dsimp only
            rw [Sem.run_bind, run_underlying hu]; dsimp only [Result.andThen]
            rw [Sem.run_bind, hl]; dsimp only [Result.andThen]
            rw [Sem.run_bind, run_size hie]; dsimp only [Result.andThen]
            rw [Sem.run_bind, hf]; rfl
          | some p =>
            cases hd with
            | esl a0 => simp [xcopyTo] at h
            | @sl b off _ _ c' m hm hc =>
              simp only [xcopyTo] at h
              cases hgb : H.get b with
              | none => rw [hgb] at h; simp [xcopyIn] at h
              | some o =>
                rw [hgb] at h
                cases o with
                | cells old cty es fl =>
                  simp only [xcopyIn] at h
                  obtain ⟨hc, h⟩ := bif_some h
                  simp only [Bool.and_eq_true] at hc
                  have hfl := ble_le hc.1
                  split at h
                  · rename_i new hsp
                    simp only [Option.some.injEq, Prod.mk.injEq] at h
                    obtain ⟨rfl, rfl⟩ := h
                    obtain ⟨rfl, hlen⟩ := splice_eq _ _ _ _ hsp
                    obtain ⟨w', o, hr, htn, ho⟩ := (W.obj b _ m hgb (by simp) hm).stores (P := E.P) hv hc.2 hlen hfl
                    have O := W.cellsUpd hgb (by omega) (by omega) hm htn ho
                    refine .of (w' := w') (v' := goInt (Nat.min ns nd)) ?_ (.int _ _) O.wr O.ext
                    unfold Builtin.copy_
                    rw [ht, e0, e1]
                    dsimp only
                    rw [Sem.run_bind, run_underlying hu]; dsimp only [Result.andThen]
                    rw [Sem.run_bind, hl]; dsimp only [Result.andThen]
                    rw [Sem.run_bind, run_size hie]; dsimp only [Result.andThen]
                    rw [Sem.run_bind, hf]; dsimp only [Result.andThen]
                    rw [Sem.run_bind, hr]; rfl
                  · cases h
                | _ => simp [xcopyIn] at h
        | _ => simp [xcopyTo] at h
      · cases h
    · cases h
  · cases h
theorem ER_len {es : List (Value × Value)} {en : Array MapEntry} (h : VL ρ (es.map (·.1)) (en.toList.map (·.key))) : en.size = es.length := by
  have := h.1; simpa using this.symm
theorem xlen_sound {E : Env} (ok : EnvOk E) (W : WR G N0 w0 ρ H w) {ts : Array TypeId} {ty : TypeId} {x x' : Value} (hx : VR ρ x x') {cn : CN} {H' : Hp}
    (h : xlen E H (tyAt E ts 0) x = some (cn, H')) : OpR E.P G N0 w0 ρ H w cn H' (vrun E.P (Builtin.len_ ts ty #[x']) w) := by
  have main : ∀ (n : Nat), cn = .val (goInt n) → H' = H → (Builtin.len_ ts ty #[x']).run E.P w = .ok (goInt n) w → OpR E.P G N0 w0 ρ H w cn H' (vrun E.P (Builtin.len_ ts ty #[x']) w) := by
    rintro n rfl rfl hr; exact .pure W hr (.int _ _)
  have e0 : (#[x'] : Array Value)[0]? = some x' := rfl
  unfold xlen at h
  split at h
  · rename_i ti a n c hti
    obtain ⟨t, ht, hg⟩ := tyAt_some hti
    obtain ⟨_, _, rfl⟩ := ok.tt _ _ hg
    obtain ⟨hk, h⟩ := bif_some h
    obtain ⟨e, hu⟩ := kind_slice (beq_eq hk)
    obtain ⟨rfl, rfl⟩ := xval_some h
    refine main n rfl rfl ?_
    cases hx <;> (unfold Builtin.len_; rw [ht, e0]; dsimp only; rw [Sem.run_bind, run_underlying hu]; rfl)
  · rename_i ti s hti
    obtain ⟨t, ht, hg⟩ := tyAt_some hti
    obtain ⟨_, _, rfl⟩ := ok.tt _ _ hg
    obtain ⟨hk, h⟩ := bif_some h
    have hu := kind_str (beq_eq hk)
    obtain ⟨rfl, rfl⟩ := xval_some h
    refine main s.size rfl rfl ?_
    cases hx
    unfold Builtin.len_; rw [ht, e0]; dsimp only; rw [Sem.run_bind, run_underlying hu]; rfl
  · rename_i ti r hti
    obtain ⟨t, ht, hg⟩ := tyAt_some hti
    obtain ⟨_, _, rfl⟩ := ok.tt _ _ hg
    obtain ⟨hk, h⟩ := bif_some h
    obtain ⟨kt, e, hu⟩ := kind_map (beq_eq hk)
    split at h
    · rename_i es hes
      have hgm := mapIn_some hes
      obtain ⟨rfl, rfl⟩ := xval_some h
      refine main es.length rfl rfl ?_
      cases hx with
      | @map _ m hm =>
        have ob := W.obj r _ m hgm (by simp) hm
        cases ob with
        | @mp _ en clk hb hk hv =>
          unfold Builtin.len_; rw [ht, e0]; dsimp only; rw [Sem.run_bind, run_underlying hu]; dsimp only [Result.andThen]
          rw [Sem.run_bind, getObj_map hb]; dsimp only [Result.andThen]
          rw [ER_len hk]; rfl
    · cases h
  · rename_i ti hti
    obtain ⟨t, ht, hg⟩ := tyAt_some hti
    obtain ⟨_, _, rfl⟩ := ok.tt _ _ hg
    obtain ⟨hk, h⟩ := bif_some h
    obtain ⟨kt, e, hu⟩ := kind_map (beq_eq hk)
    obtain ⟨rfl, rfl⟩ := xval_some h
    refine main 0 rfl rfl ?_
    cases hx
    unfold Builtin.len_; rw [ht, e0]; dsimp only; rw [Sem.run_bind, run_underlying hu]; rfl
  · rename_i ti hti _ _ _ _
    obtain ⟨t, ht, hg⟩ := tyAt_some hti
    obtain ⟨_, _, rfl⟩ := ok.tt _ _ hg
    obtain ⟨hk, h⟩ := bif_some h
    obtain ⟨n, e, hu⟩ := kind_arr (beq_eq hk)
    have hl : (tiOf E.P t).len = n := by show lenOfD (E.P.underlying t) = n; rw [hu]; rfl
    rw [hl] at h
    obtain ⟨rfl, rfl⟩ := xval_some h
    refine main n rfl rfl ?_
    unfold Builtin.len_; rw [ht, e0]; dsimp only; rw [Sem.run_bind, run_underlying hu]; rfl
  · cases h
theorem xcap_sound {E : Env} (ok : EnvOk E) (W : WR G N0 w0 ρ H w) {ts : Array TypeId} {ty : TypeId} {x x' : Value} (hx : VR ρ x x') {cn : CN} {H' : Hp}
    (h : xcap H (tyAt E ts 0) x = some (cn, H')) : OpR E.P G N0 w0 ρ H w cn H' (vrun E.P (Builtin.cap_ ts ty #[x']) w) := by
  have e0 : (#[x'] : Array Value)[0]? = some x' := rfl
  unfold xcap at h
  split at h
  · rename_i ti n c hti
    obtain ⟨t, ht, hg⟩ := tyAt_some hti
    obtain ⟨_, _, rfl⟩ := ok.tt _ _ hg
    obtain ⟨hk, h⟩ := bif_some h
    obtain ⟨e, hu⟩ := kind_slice (beq_eq hk)
    obtain ⟨rfl, rfl⟩ := xval_some h
    cases hx
    refine .pure W (v' := goInt c) ?_ (.int _ _)
    unfold Builtin.cap_; rw [ht, e0]; dsimp only; rw [Sem.run_bind, run_underlying hu]; rfl
  · rename_i ti a n c hti
    obtain ⟨t, ht, hg⟩ := tyAt_some hti
    obtain ⟨_, _, rfl⟩ := ok.tt _ _ hg
    obtain ⟨hk, h⟩ := bif_some h
    simp only [Bool.and_eq_true] at hk
    obtain ⟨e, hu⟩ := kind_slice (beq_eq hk.1)
    obtain ⟨rfl, rfl⟩ := xval_some h
    cases hx with
    | @sl b off _ _ c' m hm hc =>
      have hes := exact_es W hk.2 hm
      have hcc : c' = c := by unfold capOk at hc; rw [hes] at hc; exact hc
      subst hcc
      refine .pure W (v' := goInt c') ?_ (.int _ _)
      unfold Builtin.cap_; rw [ht, e0]; dsimp only; rw [Sem.run_bind, run_underlying hu]; rfl
  · cases h
theorem flats_eq {l : List Value} {a : Array Value} (h : l.all flat' = true) (r : VL ρ l a.toList) : a = l.toArray := by
  apply Array.ext'
  refine (List.ext_getElem? fun i => ?_).symm
  cases hx : l[i]? with
  | none =>
    have h1 := r.1
    rw [List.getElem?_eq_none_iff] at hx
    rw [List.getElem?_eq_none_iff.2 (by omega)]
  | some x =>
    obtain ⟨y, hy, hr⟩ := r.get hx
    have hf : flat' x = true := List.all_eq_true.1 h x (List.mem_of_getElem? hx)
    simp only [hy, flat'_eq hf hr]
theorem xpanic_sound (W : WR G N0 w0 ρ H w) {x x' : Value} (hx : VR ρ x x') {cn : CN} {H' : Hp} (h : xpanic H x = some (cn, H')) : OpR P G N0 w0 ρ H w cn H' (vrun P (Instr.panic x') w) := by
  unfold xpanic at h
  split at h
  · rename_i t v
    simp only [Option.some.injEq, Prod.mk.injEq] at h
    obtain ⟨rfl, rfl⟩ := h
    cases hx with
    | @iface _ _ v' hv => exact ⟨.iface t v', rfl, .iface hv, rfl⟩
  · cases h
theorem xusd_sound (W : WR G N0 w0 ρ H w) {ts : Array TypeId} {ty : TypeId} {x x' : Value} (hx : VR ρ x x') {cn : CN} {H' : Hp} (h : xusd H x = some (cn, H')) :
    OpR P G N0 w0 ρ H w cn H' (vrun P (Builtin.unsafeSliceData_ ts ty #[x']) w) := by
  unfold xusd at h
  split at h
  · rename_i a n c
    obtain ⟨hc, h⟩ := bif_none h
    obtain ⟨rfl, rfl⟩ := xval_some h
    cases hx with
    | esl a0 => cases hc
    | @sl b off _ _ c' m hm hcap =>
      have hc0 : c ≠ 0 := by intro e; rw [e] at hc; cases hc
      have hc' : c' ≠ 0 := by
        unfold capOk at hcap; split at hcap
        · omega
        · omega
      refine .pure W (v' := .pointer (some ⟨m.blk, m.sh + off, none⟩)) ?_ (.ptr hm)
      cases c' with
      | zero => exact absurd rfl hc'
      | succ k => rfl
  · cases h
end
end Go.PE
namespace Go.PE
open Go Go.RowKit
section
variable {P : Program} {G : Nat → Option Nat} {N0 : Nat} {w0 w : World} {ρ : RM} {H : Hp}
theorem bytesBack_vals : ∀ (l : List Value) (bs : List UInt8), bytesBack l = some bs → l = bs.map fun b => Value.int .u8 (b.toNat : Int)
  | [], bs, h => by simp only [bytesBack, Option.some.injEq] at h; subst h; rfl
  | v :: l, bs, h => by
    unfold bytesBack at h
    split at h
    · rename_i e; cases e
    · rename_i x r e
      cases e
      obtain ⟨hx, h⟩ := bif_some h
      have hx := blt_lt hx
      split at h
      · rename_i r' hr
        cases h
        have := bytesBack_vals _ _ hr
        rw [List.map_cons, ← this]
        congr 1
        simp [Nat.mod_eq_of_lt hx]
      · cases h
    · cases h
theorem strAt_sound (W : WR G N0 w0 ρ H w) {b off n : Nat} {m : BM} {bs : List UInt8} (hm : ρ b = some m) (h : strAt n off (H.get b) = some bs) :
    bs.length = n ∧ (∀ j x, bs[j]? = some x → w.cell? ⟨m.blk, m.sh + off + j, none⟩ = some (.int .u8 (x.toNat : Int))) ∧
      ∃ cs ty es fl, H.get b = some (.cells cs ty es fl) ∧ (off + n ≤ cs.length ∨ n = 0) := by
  unfold strAt at h
  split at h
  · rename_i l hl
    have hv := bytesBack_vals _ _ h
    unfold firstIn at hl
    split at hl
    · rename_i cs ty es fl hg
      obtain ⟨e, hle⟩ := takeN_eq _ _ _ hl
      rw [List.length_drop] at hle
      have hlen : bs.length = n := by
        have : l.length = n := by rw [e, List.length_take, List.length_drop]; omega
        rw [hv] at this; simpa using this
      refine ⟨hlen, ?_, cs, ty, es, fl, hg, by omega⟩
      intro j x hx
      have hj : j < n := by rw [← hlen]; exact (List.getElem?_eq_some_iff.1 hx).1
      have hlj : l[j]? = some (.int .u8 (x.toNat : Int)) := by rw [hv]; simp [hx]
      have hcj : (cs.drop (off + j)).head? = some (.int .u8 (x.toNat : Int)) := by
        rw [List.head?_drop, ← hlj, e, List.getElem?_take, if_pos hj, List.getElem?_drop]
      obtain ⟨y, hy, hr⟩ := (W.obj b _ m hg (by simp) hm).cell hcj
      rw [Nat.add_assoc, hy]
      cases hr; rfl
    · cases hl
  · cases h
theorem same_self (P : Program) (d : Nat) (t : TypeId) : sameLayout P (d + 1) t t = true := by simp [sameLayout]
theorem liesAt_row {e : TypeId} {count off n : Nat} (hs : P.cellsOf e ≠ 0) (hr : off % P.cellsOf e = 0) (hn : off / P.cellsOf e + n ≤ count) : liesAt P P.depth e count off e n = true := by
  have hd : P.depth = (2 * (P.types.size + Made.depth) + 1) + 1 := rfl
  rw [hd]
  simp only [liesAt, Bool.or_eq_true]
  left
  rw [hd]
  simp only [rowAt, if_neg hs, Bool.or_eq_true, Bool.and_eq_true]
  left
  exact ⟨⟨by simp [hr], by simpa using hn⟩, same_self _ _ _⟩
theorem run_variablesAt {b off n : Nat} {rc : Array Value} {ty : TypeId} {fz : Nat × Nat} (hb : w.heap[b]? = some (.cells rc ty fz)) (hs : P.cellsOf ty ≠ 0) (hr : off % P.cellsOf ty = 0) (hn : off / P.cellsOf ty + n ≤ rc.size / P.cellsOf ty) :
    (variablesAt ⟨b, off, none⟩ ty n).run P w = .ok true w := by
  simp [variablesAt, shape, Sem.run_bind, Sem.run, World.shape?, hb, Result.andThen, program, liesAt_row hs hr hn]
theorem freeze_turned {b off n : Nat} {rc : Array Value} {ty : TypeId} {fz : Nat × Nat} (hb : w.heap[b]? = some (.cells rc ty fz)) (hn : n ≠ 0) :
    ∃ fz', (freeze ⟨b, off, none⟩ n).run P w = .ok () (w.freeze ⟨b, off, none⟩ n) ∧ Turned w (w.freeze ⟨b, off, none⟩ n) b (.cells rc ty fz') ∧ (fz = (0, 0) → fz' = (off, off + n)) := by
  obtain ⟨lo, hi⟩ := fz
  refine ⟨if lo == hi then (off, off + n) else (min lo off, max hi (off + n)), rfl, ⟨?_, ?_, ?_, ?_, ?_, ?_⟩, ?_⟩
  · simp [World.freeze, hn]
  · simp [World.freeze, hn]
  · simp [World.freeze, hn]
  · simp [World.freeze, hn]
  · intro k hk
    simp only [World.freeze, if_neg hn, Array.getElem?_modify]
    rw [if_neg (fun e => hk e.symm)]
  · simp only [World.freeze, if_neg hn, Array.getElem?_modify, if_true, hb, Option.map_some]
  · intro h; cases h; simp
theorem xustring_sound {E : Env} (ok : EnvOk E) (W : WR G N0 w0 ρ H w) {ts : Array TypeId} {ty : TypeId} {x x' : Value} {n : Nat} {k : IntKind} (hx : VR ρ x x') {cn : CN} {H' : Hp}
    (h : xustring E H n (tyAt E ts 0) x = some (cn, H')) : OpR E.P G N0 w0 ρ H w cn H' (vrun E.P (Builtin.unsafeString_ ts ty #[x', .int k n]) w) := by
  unfold xustring at h
  split at h
  · rename_i ti b off hti
    obtain ⟨t, ht, hg⟩ := tyAt_some hti
    obtain ⟨_, _, rfl⟩ := ok.tt _ _ hg
    obtain ⟨hk, h⟩ := bif_some h
    obtain ⟨e, hu⟩ := kind_ptr (beq_eq hk)
    have hel : (tiOf E.P t).elem = e := by show elemOfD (E.P.underlying t) = e; rw [hu]; rfl
    rw [hel] at h
    cases hgb : H.get b with
    | none => rw [hgb] at h; simp at h
    | some o =>
      rw [hgb] at h
      cases o with
      | cells cs cty es fl =>
        simp only at h
        obtain ⟨hc, h⟩ := bif_some h
        simp only [Bool.and_eq_true] at hc
        have h1 := beq_eq hc.1
        have h2 := beq_eq hc.2
        split at h
        · rename_i l hl
          obtain ⟨hc2, h⟩ := bif_some h
          simp only [Bool.and_eq_true, Bool.not_eq_true'] at hc2
          obtain ⟨hfl, hn0, hnl⟩ := hc2
          have hfl := ble_le hfl
          have hn0' : n ≠ 0 := by intro e; subst e; cases hn0
          have hnl := ble_le hnl
          simp only [Option.some.injEq, Prod.mk.injEq] at h
          obtain ⟨rfl, rfl⟩ := h
          cases hx with
          | @ptr _ _ m hm =>
            rw [← hgb] at hl
            obtain ⟨g1, g2, cs', ty', es', fl', g3, g4⟩ := strAt_sound W hm hl
            rw [hgb] at g3; cases g3
            have ob := W.obj b _ m hgb (by simp) hm
            cases ob with
            | @cells _ _ _ _ rc fz hb hrs hes hsh hlc hv hf =>
              subst h1
              obtain ⟨fz', hfr, htn, _⟩ := freeze_turned (P := E.P) (off := m.sh + off) (n := n) hb hn0'
              have O := W.cellsUpd (fl' := 2) (es' := es) (cs' := cs) hgb (by omega) (by omega) hm htn (.cells htn.same hrs hes hsh hlc hv ⟨fun h => by omega, fun h => by omega, fun h => by omega⟩)
              refine .of (v' := .string ⟨⟨l⟩⟩) ?_ (.str _) O.wr O.ext
              have hlim : limN = 16777216 := rfl
              have e1 : ¬ ((n : Int) < 0) := by omega
              have e2 : ¬ ((n : Int) > IntKind.i64.max) := by
                have : IntKind.i64.max = 9223372036854775807 := by decide
                rw [this]; omega
              have e3 : ¬ ((n : Int) = 0) := by omega
              have hva := run_variablesAt (P := E.P) (w := w) (b := m.blk) (off := m.sh + off) (n := n) hb (by rw [h2]; decide) (by rw [h2, Nat.mod_one]) (by rw [h2, Nat.div_one, Nat.div_one]; omega)
              have hlb := Lib.run_loadBytes (P := E.P) w l ⟨m.blk, m.sh + off, none⟩ .empty (fun j x hj => by rw [add_none]; exact g2 j x hj)
              rw [g1] at hlb
              have hel' : (elemOf t).run E.P w = .ok cty w := by simp [elemOf, Sem.run_bind, run_underlying hu, Result.andThen]
              have hdef : Builtin.unsafeString_ ts ty #[.pointer (some ⟨m.blk, m.sh + off, none⟩), .int k n] =
                (do
                  let n ← asInt (.int k n)
                  let some pt := ts[0]? | stuck "unsafe.String: no argument types"
                  if n < 0 then runtimePanic (.error "unsafe.String: len out of range")
                  if n > IntKind.i64.max then unsupported (.unsafePointer "String: a length above the largest int")
                  if n = 0 then pure (.string .empty)
                  else if ← variablesAt ⟨m.blk, m.sh + off, none⟩ (← elemOf pt) n.toNat then do
                    let s ← loadBytes ⟨m.blk, m.sh + off, none⟩ .empty n.toNat
                    freeze ⟨m.blk, m.sh + off, none⟩ n.toNat
                    pure (.string s)
                  else unsupported (.unsafePointer "String: not so many bytes at ptr")) := rfl
              rw [hdef, ht]
              simp only [Sem.run_bind, asInt, asIntOf, run_pure, Result.andThen, if_neg e1, if_neg e2, if_neg e3, hel', hva, if_true, Int.toNat_natCast, hlb, hfr]
              have e0 : ByteArray.empty.data = #[] := rfl
              rw [e0]; simp
        · cases h
      | _ => simp at h
  · cases h
theorem idxOf_eq (c : Nat) (hc : c < 256) : ∀ (l : List UInt8) (i : Nat), idxOf c i l = if Lib.indexByte l c.toUInt8 = -1 then -1 else Lib.indexByte l c.toUInt8 + i
  | [], i => by simp [idxOf, Lib.indexByte]
  | x :: r, i => by
    have ih := idxOf_eq c hc r (i + 1)
    have hge := Lib.indexByte_ge r c.toUInt8
    have hun : Lib.indexByte (x :: r) c.toUInt8 = if x == c.toUInt8 then 0 else if Lib.indexByte r c.toUInt8 == -1 then -1 else Lib.indexByte r c.toUInt8 + 1 := rfl
    cases hb : Nat.beq x.toNat c with
    | true =>
      have e := beq_eq hb
      have hx : x = c.toUInt8 := by rw [← e]; simp
      have h0 : Lib.indexByte (x :: r) c.toUInt8 = 0 := by rw [hun, hx]; simp
      simp only [idxOf, hb, h0, cond_true]
      simp
    | false =>
      have hx : (x == c.toUInt8) = false := by
        rw [beq_eq_false_iff_ne]; intro e; subst e
        have : (c.toUInt8).toNat = c := by simp; omega
        rw [this, Nat.beq_refl] at hb; cases hb
      rw [hx] at hun
      simp only [Bool.false_eq_true, if_false] at hun
      simp only [idxOf, hb, cond_false]
      rw [ih]
      by_cases h1 : Lib.indexByte r c.toUInt8 = -1
      · have h0 : Lib.indexByte (x :: r) c.toUInt8 = -1 := by rw [hun]; simp [h1]
        rw [if_pos h1, if_pos h0]
      · have h0 : Lib.indexByte (x :: r) c.toUInt8 = Lib.indexByte r c.toUInt8 + 1 := by
          rw [hun, if_neg]; simpa using h1
        rw [if_neg h1, if_neg (by omega), h0]
        omega
theorem xextern_sound {E : Env} (ok : EnvOk E) (W : WR G N0 w0 ρ H w) {f : FuncId} {args : List Value} {args' : Array Value} (ha : VL ρ args args'.toList) {cn : CN} {H' : Hp} (h : xextern H args (E.ext.get f) = some (cn, H')) :
    OpR E.P G N0 w0 ρ H w cn H' ((callFunc f args').run E.P w) := by
  unfold xextern at h
  split at h
  · rename_i ty hf
    obtain ⟨sl, _, hcf⟩ := ok.ext _ _ _ hf
    rw [hcf]
    split at h
    · rename_i x
      obtain ⟨rfl, rfl⟩ := xval_some h
      obtain ⟨y, r, h1, h2, h3⟩ := ha.uncons
      have := h3.unnil; subst this
      have : args' = #[y] := Array.ext' (by simpa using h1)
      subst this
      exact .pure (s := extSem E.P sl 1 #[y]) W (v' := y) rfl h2
    · cases h
  · rename_i ty hf
    obtain ⟨sl, hsl, hcf⟩ := ok.ext _ _ _ hf
    rw [hcf]
    split at h
    · rename_i n
      obtain ⟨hc, h⟩ := bif_some h
      have hn := ble_le hc
      simp only [Option.some.injEq, Prod.mk.injEq] at h
      obtain ⟨rfl, rfl⟩ := h
      obtain ⟨y, r, h1, h2, h3⟩ := ha.uncons
      have := h3.unnil; subst this
      have : args' = #[y] := Array.ext' (by simpa using h1)
      subst this
      cases h2
      have hlim : limN = 16777216 := rfl
      obtain ⟨cs, hr, h4, _⟩ := Lib.run_makeNoZero (P := E.P) w #[] sl ty (hsl rfl) n (by omega)
      have hrl : (rep n [junk]).length = n := by rw [rep_len]; simp
      obtain ⟨ρ', O, hb⟩ := new_cells (W.drawn (w.drawn + 1 + 1)) (cs := rep n [junk]) (rc := cs) (ty := ty) (es := some 1) (fl := 1) (by omega)
        (by
          refine ⟨by simp; omega, fun i x y hx _ => ?_⟩
          have hi : i < n * [junk].length := by
            have := (List.getElem?_eq_some_iff.1 hx).1
            rw [rep_len] at this; exact this
          rw [rep_get _ _ _ hi] at hx
          have : i % [junk].length = 0 := Nat.mod_one _
          rw [this] at hx
          cases hx; exact .junk _) (by decide)
      refine .of (s := extSem E.P sl 2 #[.int .i64 (Int.ofNat n)]) (v' := .slice (some ⟨w.heap.size, 0, none⟩) n cs.size) hr ?_ O.wr O.ext
      have := VR.sl (ρ := ρ') (off := 0) (n := n) (c := n) (c' := cs.size) hb ⟨h4, by simp⟩
      simpa using this
    · cases h
  · rename_i ty hf
    obtain ⟨sl, _, hcf⟩ := ok.ext _ _ _ hf
    rw [hcf]
    split at h
    · rename_i s c
      obtain ⟨hc, h⟩ := bif_some h
      obtain ⟨rfl, rfl⟩ := xval_some h
      obtain ⟨y, r, h1, h2, h3⟩ := ha.uncons
      obtain ⟨z, r2, h4, h5, h6⟩ := h3.uncons
      have := h6.unnil; subst this; subst h4
      have : args' = #[y, z] := Array.ext' (by simpa using h1)
      subst this
      cases h2
      cases h5
      refine .pure (s := extSem E.P sl 3 #[.string s, .int .u8 (Int.ofNat c)]) W (v' := goInt (idxOf c 0 s.data.toList)) ?_ (.int _ _)
      have := Lib.run_indexByteString (P := E.P) s (Int.ofNat c) w
      refine this.trans ?_
      have hc' : (Int.ofNat c).toNat = c := rfl
      rw [hc', idxOf_eq c (blt_lt hc)]
      congr 1
      show Value.int .i64 _ = Value.int .i64 _
      congr 1
      split
      · assumption
      · simp
    · cases h
  · cases h
end
end Go.PE
namespace Go.PE
open Go Go.RowKit
section
variable {P : Program} {G : Nat → Option Nat} {N0 : Nat} {w0 w : World} {ρ : RM} {H : Hp}
theorem run_seenAt {b off : Nat} {rc : Array Value} {ty : TypeId} {fz : Nat × Nat} (hb : w.heap[b]? = some (.cells rc ty fz)) : (Conv.seenAt ⟨b, off, none⟩).run P w = .ok ⟨b, off, none⟩ w := by
  unfold Conv.seenAt
  rw [Sem.run_bind, run_viewAt hb]
  rfl
theorem run_cellsIn {b : Nat} {rc : Array Value} {ty : TypeId} {fz : Nat × Nat} (hb : w.heap[b]? = some (.cells rc ty fz)) : (cellsIn b).run P w = .ok (some rc.size) w := by
  simp [cellsIn, shape, Sem.run_bind, Sem.run, World.shape?, hb, Result.andThen]
theorem xconv_flat {E : Env} (W : WR G N0 w0 ρ H w) {s d : TypeId} {x x' : Value} (hx : VR ρ x x') {cn : CN} {H' : Hp} (h : (bif flat' x then oval H (pureV E.P (convert s d x)) else none) = some (cn, H')) :
    OpR E.P G N0 w0 ρ H w cn H' (vrun E.P (convert s d x') w) := by
  obtain ⟨hf, h⟩ := bif_some h
  obtain ⟨v, hv, rfl, rfl⟩ := oval_some h
  obtain ⟨hr, hf2⟩ := pureV_some hv
  rw [flat'_eq hf hx]
  exact .pure W (hr w) (flat'_refl ρ hf2)
theorem push_modify (a : Array Obj) (x : Obj) (f : Obj → Obj) : (a.push x).modify a.size f = a.push (f x) := by
  apply Array.ext_getElem?
  intro i
  rw [Array.getElem?_modify, Array.getElem?_push, Array.getElem?_push]
  by_cases h : i = a.size
  · subst h; simp
  · rw [if_neg (fun e => h e.symm), if_neg h, if_neg h]
theorem byteVals_arr (s : ByteArray) : (s.data.map fun b => (Value.int .u8 b.toNat)).toList = byteVals s := by simp [byteVals]
theorem xconv_sound {E : Env} (ok : EnvOk E) (W : WR G N0 w0 ρ H w) {s d : TypeId} {x x' : Value} (hx : VR ρ x x') {cn : CN} {H' : Hp} (h : xconv E s d H x (E.tt.get s) (E.tt.get d) = some (cn, H')) :
    OpR E.P G N0 w0 ρ H w cn H' (vrun E.P (convert s d x') w) := by
  unfold xconv at h
  split at h
  · rename_i si di hsi hdi
    obtain ⟨_, ⟨ds, hds⟩, rfl⟩ := ok.tt _ _ hsi
    obtain ⟨_, ⟨dd, hdd⟩, rfl⟩ := ok.tt _ _ hdi
    split at h
    · rename_i b hk1 hk2
      have hus := kind_str hk1
      obtain ⟨e, hud⟩ := kind_slice hk2
      have hel : (tiOf E.P d).elem = e := by show elemOfD (E.P.underlying d) = e; rw [hud]; rfl
      rw [hel] at h
      split at h
      · rename_i ei hei
        obtain ⟨hc, h⟩ := bif_some h
        simp only [Bool.and_eq_true] at hc
        have hlim : limN = 16777216 := rfl
        have hbs := ble_le hc.2.2
        split at h
        · rename_i hue
          simp only [Option.some.injEq, Prod.mk.injEq] at h
          obtain ⟨rfl, rfl⟩ := h
          cases hx
          have hcap : b.size ≤ (Question.appendCap b.size 0 e).cut (w.tape w.drawn (.appendCap b.size 0 e)) := Nat.le_add_right _ _
          generalize hcp : (Question.appendCap b.size 0 e).cut (w.tape w.drawn (.appendCap b.size 0 e)) = cap at hcap
          obtain ⟨rc, hrc⟩ : ∃ rc : Array Value, rc = (b.data.map fun b => (Value.int .u8 b.toNat)) ++ Array.replicate (cap - b.size) (.int .u8 0) := ⟨_, rfl⟩
          have hrs : rc.size = cap := by rw [hrc]; simp; omega
          have hl : (byteVals b).length = b.size := by simp [byteVals]
          have htk : rc.toList.take (byteVals b).length = byteVals b := by
            rw [hrc, Array.toList_append, byteVals_arr]; exact List.take_left
          have hwv : VL ρ (byteVals b) ((rc.toList.drop 0).take (byteVals b).length) := by
            rw [List.drop_zero, htk]
            exact flatL_refl ρ _ (by simp only [byteVals, List.all_map]; exact List.all_eq_true.2 fun _ _ => rfl)
          have W1 := W.drawn (w.drawn + 1)
          have W2 := W1.new (o := .cells (byteVals b) e (some 1) 1) (x := .cells rc e (rc.size, rc.size + 1)) (m := ⟨w.heap.size, 0, rc.size, some 1⟩) rfl (by simp [roOf])
            (.cells (rc := rc) (fz := (rc.size, rc.size + 1)) (by simp) rfl rfl (fun _ => rfl) (by simp; omega) (hwv.mono (RM.add_le W1 _))
              ⟨fun h => by omega, fun h => by omega, fun _ off ho h => by simp at ho; omega⟩)
          refine .of (v' := .slice (some ⟨w.heap.size, 0, none⟩) b.size cap) ?_ ?_ W2 (Ext.new W1 _ _)
          · simp only [convert, Sem.run_bind, run_underlying hus, run_underlying hud, run_underlying hue, Result.andThen, Conv.stringToBytes]
            rw [show (choose (Question.appendCap b.size 0 e)).run E.P w = .ok cap { w with drawn := w.drawn + 1 } by rw [← hcp]; rfl]
            simp only [run_newRow, ← hrc]
            have hsh : (markStringish ⟨w.heap.size, 0, none⟩).run E.P { w with drawn := w.drawn + 1, heap := w.heap.push (.cells rc e) } = .ok () { w with drawn := w.drawn + 1, heap := w.heap.push (.cells rc e (rc.size, rc.size + 1)) } := by
              simp [markStringish, shape, Sem.run_bind, Sem.run, World.shape?, Result.andThen, freeze, World.freeze, push_modify]
            rw [hsh]
            rfl
          · have := VR.sl (ρ := ρ.add H.n ⟨w.heap.size, 0, rc.size, some 1⟩) (off := 0) (n := b.size) (c := b.size) (c' := cap) (RM.add_same _ _ _) ⟨hcap, by simp; omega⟩
            simpa using this
        · cases h
      · cases h
    · cases h
    · rename_i b off n c hk1 hk2
      obtain ⟨e, hus⟩ := kind_slice hk1
      have hud := kind_str hk2
      have hel : (tiOf E.P s).elem = e := by show elemOfD (E.P.underlying s) = e; rw [hus]; rfl
      rw [hel] at h
      split at h
      · rename_i hue
        split at h
        · rename_i l hl
          obtain ⟨rfl, rfl⟩ := xval_some h
          cases hx with
          | @sl _ _ _ _ c' m hm hc =>
            obtain ⟨g1, g2, _⟩ := strAt_sound W hm hl
            refine .pure W (v' := .string ⟨⟨l⟩⟩) ?_ (.str _)
            have := run_convert_bytes_back (P := E.P) w s d e ⟨m.blk, m.sh + off, none⟩ c' l hus hue hud (fun j hj => by rw [add_none]; exact g2 j _ (List.getElem?_eq_getElem hj))
            rw [g1] at this
            exact this
        · cases h
      · cases h
    · rename_i b off hk1 hk2
      obtain ⟨e, hus⟩ := kind_ptr hk1
      have hud := kind_uptr hk2
      have hel : (tiOf E.P s).elem = e := by show elemOfD (E.P.underlying s) = e; rw [hus]; rfl
      rw [hel] at h
      split at h
      · rename_i ei hei
        obtain ⟨⟨i, hie⟩, _, rfl⟩ := ok.tt _ _ hei
        obtain ⟨h0, h⟩ := bif_none h
        have hs0 : E.P.cellsOf e ≠ 0 := by
          intro e0; have : (tiOf E.P e).size = 0 := e0
          rw [this] at h0; cases h0
        unfold xconvUp at h
        split at h
        · rename_i cs ty es fl hg
          obtain ⟨hlt, h⟩ := bif_some h
          have hlt := blt_lt hlt
          obtain ⟨rfl, rfl⟩ := xval_some h
          cases hx with
          | @ptr _ _ m hm =>
            have ob := W.obj b _ m hg (by simp) hm
            cases ob with
            | @cells _ _ _ _ rc fz hb hrs hes hsh hlc hv hf =>
              refine .pure W (v' := .pointer (some ⟨m.blk, m.sh + off, none⟩)) ?_ (.ptr hm)
              have hnot : ¬ (rc.size ≤ m.sh + off) := by omega
              simp [convert, Sem.run_bind, run_underlying hus, run_underlying hud, Result.andThen, Conv.unsafePointer, run_seenAt hb, run_cellsIn hb, run_size hie, hs0, hnot]
        · cases h
      · cases h
    · rename_i b hk1 hk2
      have hus := kind_uptr hk1
      obtain ⟨e, hud⟩ := kind_ptr hk2
      have hel : (tiOf E.P d).elem = e := by show elemOfD (E.P.underlying d) = e; rw [hud]; rfl
      rw [hel] at h
      split at h
      · rename_i ei hei
        obtain ⟨⟨i, hie⟩, _, rfl⟩ := ok.tt _ _ hei
        have hsz : (tiOf E.P e).size = E.P.cellsOf e := rfl
        rw [hsz] at h
        unfold xconvDown at h
        split at h
        · rename_i cs ty fl hg
          obtain ⟨hc, h⟩ := bif_some h
          simp only [Bool.and_eq_true, Bool.not_eq_true'] at hc
          have hty := beq_eq hc.1
          have hs0 : E.P.cellsOf e ≠ 0 := by intro e0; rw [e0] at hc; cases hc.2.1
          have hle := ble_le hc.2.2
          obtain ⟨rfl, rfl⟩ := xval_some h
          cases hx with
          | @ptr _ _ m hm =>
            have ob := W.obj b _ m hg (by simp) hm
            cases ob with
            | @cells _ _ _ _ rc fz hb hrs hes hsh hlc hv hf =>
              subst hty
              have hs0' := hsh rfl
              refine .pure W (v' := .pointer (some ⟨m.blk, m.sh + 0, none⟩)) ?_ (.ptr hm)
              have hva := run_variablesAt (P := E.P) (w := w) (b := m.blk) (off := m.sh + 0) (n := 1) hb hs0 (by rw [hs0']; simp) (by
                rw [hs0', Nat.zero_div, Nat.zero_add]
                exact (Nat.one_le_div_iff (by omega)).2 (by omega))
              rw [Nat.add_zero] at hva ⊢
              simp [convert, Sem.run_bind, run_underlying hus, run_underlying hud, Result.andThen, Conv.unsafePointer, run_seenAt hb, run_size hie, hs0, hva]
        · cases h
      · cases h
    · exact xconv_flat W hx h
  · cases h
end
end Go.PE
namespace Go.PE
open Go Go.RowKit
section
variable {P : Program} {G : Nat → Option Nat} {N0 : Nat} {w0 w : World} {ρ : RM} {H : Hp}
theorem OpR.oval {s : Sem Value} {x : Option Value} {cn : CN} {H' : Hp} (W : WR G N0 w0 ρ H w) (h : oval H x = some (cn, H')) (k : ∀ v, x = some v → ∃ v', s.run P w = .ok v' w ∧ VR ρ v v') : OpR P G N0 w0 ρ H w cn H' (vrun P s w) := by
  obtain ⟨v, hv, rfl, rfl⟩ := oval_some h
  obtain ⟨v', h1, h2⟩ := k v hv
  exact .pure W h1 h2
theorem args_one {ρc ρr : Operand → Value} (hρ : ∀ x, VR ρ (ρc x) (ρr x)) {a : Array Operand} {x : Value} (h : a.toList.map ρc = [x]) : ∃ y, a.map ρr = #[y] ∧ VR ρ x y := by
  rcases a with ⟨l⟩
  cases l with
  | nil => simp at h
  | cons o r => cases r with
    | nil => simp at h; subst h; exact ⟨ρr o, by simp, hρ o⟩
    | cons _ _ => simp at h
theorem args_two {ρc ρr : Operand → Value} (hρ : ∀ x, VR ρ (ρc x) (ρr x)) {a : Array Operand} {x y : Value} (h : a.toList.map ρc = [x, y]) : ∃ x' y', a.map ρr = #[x', y'] ∧ VR ρ x x' ∧ VR ρ y y' := by
  rcases a with ⟨l⟩
  cases l with
  | nil => simp at h
  | cons o r => cases r with
    | nil => simp at h
    | cons o2 r2 => cases r2 with
      | nil => simp at h; obtain ⟨rfl, rfl⟩ := h; exact ⟨ρr o, ρr o2, by simp, hρ o, hρ o2⟩
      | cons _ _ => simp at h
theorem run_value (s : Sem Value) : (do pure (Next.value (← s)) : Sem Next).run P w = vrun P s w := by
  simp only [Sem.run_bind, vrun]; rfl
theorem run_skip (s : Sem Unit) : (do s; pure Next.skip : Sem Next).run P w = urun P s w := by
  simp only [Sem.run_bind, urun]; rfl
theorem xbuiltin_sound {E : Env} (ok : EnvOk E) (W : WR G N0 w0 ρ H w) {ρc ρr : Operand → Value} (hρ : ∀ x, VR ρ (ρc x) (ρr x)) {ts : Array TypeId} {ty : TypeId} {b : Builtin} {args : Array Operand} {consts : Array Bool} {cn : CN} {H' : Hp}
    (h : xbuiltin E ts H b (args.toList.map ρc) = some (cn, H')) : OpR E.P G N0 w0 ρ H w cn H' ((builtin b ts ty consts (args.map ρr)).run E.P w) := by
  have hall := VL.map hρ args.toList
  have hal : (args.map ρr).toList = args.toList.map ρr := by simp
  unfold xbuiltin at h
  split at h
  · split at h
    · rename_i x hx
      obtain ⟨y, e, hy⟩ := args_one hρ hx
      rw [e]
      exact (run_value (P := E.P) _).symm ▸ xlen_sound ok W hy h
    · cases h
  · split at h
    · rename_i x hx
      obtain ⟨y, e, hy⟩ := args_one hρ hx
      rw [e]
      exact (run_value (P := E.P) _).symm ▸ xcap_sound ok W hy h
    · cases h
  · split at h
    · rename_i x y hx
      obtain ⟨x', y', e, h1, h2⟩ := args_two hρ hx
      rw [e]
      obtain ⟨hi, h⟩ := bif_none h
      exact (run_value (P := E.P) _).symm ▸ cappend_sound ok W h1 h2 hi h
    · cases h
  · split at h
    · rename_i x y hx
      obtain ⟨x', y', e, h1, h2⟩ := args_two hρ hx
      rw [e]
      exact (run_value (P := E.P) _).symm ▸ xcopy_sound ok W h1 h2 h
    · cases h
  · obtain ⟨hf, h⟩ := bif_some h
    have e := flats_eq (a := args.map ρr) hf (by rw [hal]; exact hall)
    rw [e]
    refine (run_value (P := E.P) _).symm ▸ OpR.oval W h fun v hv => ?_
    obtain ⟨h1, h2⟩ := pureV_some hv
    exact ⟨v, h1 w, flat'_refl ρ h2⟩
  · obtain ⟨hf, h⟩ := bif_some h
    have e := flats_eq (a := args.map ρr) hf (by rw [hal]; exact hall)
    rw [e]
    refine (run_value (P := E.P) _).symm ▸ OpR.oval W h fun v hv => ?_
    obtain ⟨h1, h2⟩ := pureV_some hv
    exact ⟨v, h1 w, flat'_refl ρ h2⟩
  · split at h
    · rename_i x hx
      obtain ⟨y, e, hy⟩ := args_one hρ hx
      rw [e]
      exact (run_value (P := E.P) _).symm ▸ xpanic_sound W hy h
    · cases h
  · split at h
    · rename_i x hx
      obtain ⟨y, e, hy⟩ := args_one hρ hx
      rw [e]
      exact (run_value (P := E.P) _).symm ▸ xusd_sound W hy h
    · cases h
  · split at h
    · rename_i x y hx
      obtain ⟨x', y', e, h1, h2⟩ := args_two hρ hx
      rw [e]
      split at h
      · rename_i n hn
        obtain ⟨k, rfl⟩ := natOf_some hn h2
        exact (run_value (P := E.P) _).symm ▸ xustring_sound ok W h1 h
      · cases h
    · cases h
  · cases h
theorem ccall_sound {E : Env} (ok : EnvOk E) (W : WR G N0 w0 ρ H w) {f : FuncId} {args : List Value} {args' : Array Value} (ha : VL ρ args args'.toList) {cn : CN} {H' : Hp} (h : ccall E f args H (E.ft.get f) = some (cn, H')) :
    OpR E.P G N0 w0 ρ H w cn H' ((callFunc f args').run E.P w) := by
  unfold ccall at h
  split at h
  · rename_i fn hfn
    obtain ⟨h1, h2⟩ := ok.ft _ _ hfn
    unfold ccallB at h
    split at h
    · rename_i b hb
      simp only [Option.some.injEq, Prod.mk.injEq] at h
      obtain ⟨rfl, rfl⟩ := h
      have hs : fn.body.isSome = true := by rw [hb]; rfl
      have h3 := h2 hs
      have h4 : fn.body.isNone = false := by rw [hb]; rfl
      refine ⟨args', ?_, ha, rfl⟩
      unfold callFunc
      rw [Sem.run_bind, show (program).run E.P w = .ok E.P w from rfl]
      dsimp only [Result.andThen]
      rw [h1]
      dsimp only
      rw [if_neg (by rw [h3]; decide), if_neg (by rw [h4]; decide)]
      rfl
    · exact xextern_sound ok W ha h
  · cases h
theorem xcallv_sound {E : Env} (ok : EnvOk E) (W : WR G N0 w0 ρ H w) {f f' : Value} {args : List Value} {args' : Array Value} (hf : VR ρ f f') (ha : VL ρ args args'.toList) {cn : CN} {H' : Hp} (h : xcallv E args H f = some (cn, H')) :
    OpR E.P G N0 w0 ρ H w cn H' ((do let d ← Deferred.ofValue f' args'; invoke d.target d.args : Sem Next).run E.P w) := by
  unfold xcallv at h
  split at h
  · rename_i g first caps
    cases hf with
    | @func _ _ a' _ c' hs1 hs2 g1 g2 =>
      have := ccall_sound ok W (args' := a' ++ args' ++ c') (by
        have := ((VL.of_agg hs1 g1).append ha).append (VL.of_agg hs2 g2)
        simpa using this) h
      exact this
  · rename_i l a b
    simp only [Option.some.injEq, Prod.mk.injEq] at h
    obtain ⟨rfl, rfl⟩ := h
    cases hf with
    | @yield _ m hm => exact ⟨#[] ++ args', m, rfl, hm, by simpa using ha, rfl⟩
  · cases h
theorem cexec_sound {E : Env} (ok : EnvOk E) (W : WR G N0 w0 ρ H w) {ρc ρr : Operand → Value} (hρ : ∀ x, VR ρ (ρc x) (ρr x)) {o : Oper} {cn : CN} {H' : Hp} (h : cexec E ρc H o.op = some (cn, H')) :
    OpR E.P G N0 w0 ρ H w cn H' ((execOp ρr o).run E.P w) := by
  have hv : ∀ (s : Sem Value), OpR E.P G N0 w0 ρ H w cn H' (vrun E.P s w) → OpR E.P G N0 w0 ρ H w cn H' ((do pure (Next.value (← s)) : Sem Next).run E.P w) := fun s k => by rw [run_value]; exact k
  have hu : ∀ (s : Sem Unit), OpR E.P G N0 w0 ρ H w cn H' (urun E.P s w) → OpR E.P G N0 w0 ρ H w cn H' ((do s; pure Next.skip : Sem Next).run E.P w) := fun s k => by rw [run_skip]; exact k
  have hval : ∀ (x : Operand) , xval H (ρc x) = some (cn, H') → OpR E.P G N0 w0 ρ H w cn H' ((pure (Next.value (ρr x)) : Sem Next).run E.P w) := fun x h => by
    obtain ⟨rfl, rfl⟩ := xval_some h
    exact ⟨ρr x, w, ρ, rfl, hρ x, W, .refl _ _⟩
  unfold execOp
  cases ho : o.op <;> rw [ho] at h <;> dsimp only [cexec] at h ⊢ <;> try (cases h; done)
  case move x => exact hval x h
  case assign x => exact hval x h
  case pick c a b =>
    have hc := hρ c
    unfold xpick at h
    split at h
    · rename_i e; rw [e] at hc
      obtain ⟨rfl, rfl⟩ := xval_some h
      generalize ρr c = z at hc
      cases hc
      exact ⟨ρr a, w, ρ, by simp [asBool], hρ a, W, .refl _ _⟩
    · rename_i e; rw [e] at hc
      obtain ⟨rfl, rfl⟩ := xval_some h
      generalize ρr c = z at hc
      cases hc
      exact ⟨ρr b, w, ρ, by simp [asBool], hρ b, W, .refl _ _⟩
    · cases h
  case alloc t => exact hv _ ((xalloc_sound ok h).opR W)
  case box t x => exact hv _ ((xbox_sound (hρ x) h).opR W)
  case build t parts => exact hv _ (OpR.oval W h fun v hv => cbuild_sound ok hρ hv)
  case buildSlice t len parts => exact hv _ ((xbuildSlice_sound ok hρ h).opR W)
  case load t a => exact hv _ (OpR.oval W h fun v hv => loadAt_sound ok W hv (hρ a))
  case store t a x => exact hu _ (xstore_sound ok W (hρ a) (hρ x) h)
  case nilCheck x =>
    have hx := hρ x
    unfold xnil at h
    split at h
    · rename_i a e; rw [e] at hx
      obtain ⟨rfl, rfl⟩ := xval_some h
      generalize ρr x = z at hx
      cases hx with
      | ptr hm => exact ⟨_, w, ρ, rfl, .ptr hm, W, .refl _ _⟩
    · rename_i f a b e; rw [e] at hx
      obtain ⟨rfl, rfl⟩ := xval_some h
      generalize ρr x = z at hx
      cases hx with
      | func h1 h2 h3 h4 => exact ⟨_, w, ρ, rfl, .func h1 h2 h3 h4, W, .refl _ _⟩
    · rename_i f a b e; rw [e] at hx
      obtain ⟨rfl, rfl⟩ := xval_some h
      generalize ρr x = z at hx
      cases hx with
      | yield hm => exact ⟨_, w, ρ, rfl, .yield hm, W, .refl _ _⟩
    · cases h
  case binOp op t x y sh => exact hv _ (OpR.oval W h fun v hv => cbin_sound ok W (hρ x) (hρ y) hv)
  case unOp op t x => exact hv _ (xun_sound W (hρ x) h)
  case convert s d x => exact hv _ (xconv_sound ok W (hρ x) h)
  case makeInterface t x => exact hv _ (xiface_sound ok W (hρ x) h)
  case makeFunc f first caps => exact hv _ (xmakeFunc_sound W hρ h)
  case makeMap t r => exact hv _ ((xmakeMap_sound h).opR W)
  case makeSlice t l c => exact hv _ ((xmakeSlice_sound ok (hρ l) (hρ c) h).opR W)
  case slice t x lo hi mx =>
    cases mx with
    | none => exact hv _ (OpR.oval W h fun v hv => cslice_sound ok W hρ hv)
    | some m => cases h
  case fieldAddr s x f => exact hv _ (xfieldAddr_sound ok W (hρ x) h)
  case field s x f => exact hv _ (xfield_sound ok W (hρ x) h)
  case indexAddr t x i => exact hv _ (xindexAddr_sound ok W (hρ x) (hρ i) h)
  case index t x i => exact hv _ (xindex_sound W (hρ x) (hρ i) h)
  case lookup t m k cok => exact hv _ (xlookup_sound ok W (hρ m) (hρ k) h)
  case mapUpdate t m k v => exact hu _ (xmapUpdate_sound ok W (hρ m) (hρ k) (hρ v) h)
  case insert t m k v => exact hu _ (xmapUpdate_sound ok W (hρ m) (hρ k) (hρ v) h)
  case range t x => exact hv _ (xrange_sound ok W (hρ x) h)
  case next it s => exact hv _ (xnext_sound W (hρ it) h)
  case typeAssert x xt t cok => exact hv _ (xassert_sound ok W (hρ x) h)
  case extract x i => exact hv _ (xextract_sound W (hρ x) h)
  case panic x => exact hv _ (xpanic_sound W (hρ x) h)
  case call c =>
    unfold xcall at h
    split at h
    · rename_i b hb
      have := xbuiltin_sound ok W hρ (ty := o.type) (consts := c.args.map fun | .const _ => true | _ => false) h
      simp only [resolve, hb, Sem.run_bind, run_pure, Result.andThen, invoke]
      exact this
    · rename_i f hf
      have := xcallv_sound ok W (args' := c.args.map ρr) (hρ f) (VL.arr hρ c.args |> fun q => by simpa using q) h
      simp only [resolve, hf]
      exact this
    · cases h
  case defer c =>
    unfold xdefer at h
    split at h
    · rename_i f hf
      have hx := hρ f
      unfold xdeferv at h
      split at h
      · rename_i g first caps e; rw [e] at hx
        simp only [Option.some.injEq, Prod.mk.injEq] at h
        obtain ⟨rfl, rfl⟩ := h
        simp only [resolve, hf]
        generalize ρr f = z at hx
        cases hx with
        | @func _ _ a' _ c' hs1 hs2 g1 g2 =>
          refine ⟨{ target := .fn (.func g) c', args := a' ++ c.args.map ρr }, rfl, ⟨c', rfl, ?_⟩, rfl⟩
          have := ((VL.of_agg hs1 g1).append (VL.arr hρ c.args)).append (VL.of_agg hs2 g2)
          simpa using this
      · cases h
    · cases h
end
end Go.PE
namespace Go.PE
open Go Go.RowKit
inductive DL (ρ : RM) : List CD → List Deferred → Prop
  | nil : DL ρ [] []
  | cons {c : CD} {d : Deferred} {cs : List CD} {ds : List Deferred} (h : DR ρ c d) (t : DL ρ cs ds) : DL ρ (c :: cs) (d :: ds)
theorem DR.mono {ρ ρ' : RM} (h : ρ.Le ρ') {c : CD} {d : Deferred} (r : DR ρ c d) : DR ρ' c d := by
  cases c with
  | call f args => obtain ⟨cap, h1, h2⟩ := r; exact ⟨cap, h1, h2.mono h⟩
  | coll b => obtain ⟨m, h1, h2⟩ := r; exact ⟨m, h _ _ h1, h2⟩
theorem DL.mono {ρ ρ' : RM} (h : ρ.Le ρ') {cs : List CD} {ds : List Deferred} (r : DL ρ cs ds) : DL ρ' cs ds := by
  induction r with
  | nil => exact .nil
  | cons a _ ih => exact .cons (a.mono h) ih
structure SR (G : Nat → Option Nat) (N0 : Nat) (w0 : World) (C : Ctx) (s : St) (ρ : RM) (a : Act) (w : World) : Prop where
  wr : WR G N0 w0 ρ s.H w
  nt : a.tmps.size = C.nt
  tm : TmR ρ s.tm a.tmps
  df : DL ρ s.df a.defers
def FW (r : Option Nat) : Fence := { fn := fun _ => True, depth := none, alive := false, round := r }
theorem callsIn_FW {r : Option Nat} {n : Nat} {P : Program} {f : FuncId} {args : Array Value} {w : World} {R : Ending → World → Prop} (h : CallsIn Fence.wide n P f args w R) : CallsIn (FW r) n P f args w R := h
theorem roundIn_FW {r : Option Nat} {n : Nat} {P : Program} {l : Nat} {f : FuncId} {t : Array Value} {x y : Code} {w : World} {R : Ending → World → Prop} (h : RoundIn Fence.wide n P l f t x y w R) : RoundIn (FW r) n P l f t x y w R := h
inductive ExR (ρ : RM) : Ex → Exit → Prop
  | normal : ExR ρ .normal .normal
  | exit (id : Nat) : ExR ρ (.exit id) (.exit id)
  | goto (l : Nat) : ExR ρ (.goto l) (.goto l)
  | ret : ExR ρ .ret .ret
  | panic {v v' : Value} (h : VR ρ v v') : ExR ρ (.panic v) (.panic [{ v := v', recovered := false }])
/-- what a piece of code comes to -/
def CPost (G : Nat → Option Nat) (N0 : Nat) (w0 : World) (C : Ctx) (ρ : RM) (H : Hp) (e : Ex) (s' : St) (x : Exit) (a' : Act) (w' : World) : Prop :=
  ∃ ρ', ExR ρ' e x ∧ SR G N0 w0 C s' ρ' a' w' ∧ Ext ρ H ρ' s'.H
/-- what a call comes to -/
def KPost (G : Nat → Option Nat) (N0 : Nat) (w0 : World) (ρ : RM) (H : Hp) (r : Res) (en : Ending) (w' : World) : Prop := match r with
  | .out v H' => ∃ ρ' v', en = .returned v' ∧ VR ρ' v v' ∧ WR G N0 w0 ρ' H' w' ∧ Ext ρ H ρ' H'
  | .pan v H' => ∃ ρ' v', en = .panicked [{ v := v', recovered := false }] ∧ VR ρ' v v' ∧ WR G N0 w0 ρ' H' w' ∧ Ext ρ H ρ' H'
  | _ => False
def RdR (ρ : RM) : Option Nat → Option Nat → Prop
  | none, r => r = none
  | some l, r => ∃ m, ρ l = some m ∧ r = some m.blk
theorem RdR.mono {ρ ρ' : RM} (h : ρ.Le ρ') {x r : Option Nat} (k : RdR ρ x r) : RdR ρ' x r := by
  cases x with
  | none => exact k
  | some l => obtain ⟨m, h1, h2⟩ := k; exact ⟨m, h _ _ h1, h2⟩
def modeOf : Option Value → FrameMode
  | none => .returning
  | some v => .panicking [{ v := v, recovered := false }]
def OR (ρ : RM) : Option Value → Option Value → Prop
  | none, v => v = none
  | some v, x => ∃ v', x = some v' ∧ VR ρ v v'
/-- what a task's answer says -/
def Sound (E : Env) (N0 : Nat) (w0 : World) (t : Task) (r : Res) : Prop := match t, r with
  | _, .fail => True
  | .code C c s, .code e s' => ∀ ρ rr a w, SR E.G N0 w0 C s ρ a w → RdR ρ C.rd rr → c.wpIn (FW rr) 0 E.P (CPost E.G N0 w0 C ρ s.H e s') a w
  | .code _ _ _, _ => False
  | .call f args H, r => ∀ ρ args' w, WR E.G N0 w0 ρ H w → VL ρ args args'.toList → CallsIn Fence.wide 0 E.P f args' w (KPost E.G N0 w0 ρ H r)
  | .leave fn tm df pan H, r => ∀ ρ tmps ds pan' w, WR E.G N0 w0 ρ H w → TmR ρ tm tmps → DL ρ df ds → OR ρ pan pan' → LeavesInM Fence.wide 0 E.P fn tmps (KPost E.G N0 w0 ρ H r) ds (modeOf pan') w
  | .round l args H, r => ∀ ρ args' w m, WR E.G N0 w0 ρ H w → ρ l = some m → VL ρ args args'.toList → ∃ f t as bd, (Instr.yield m.blk args').run E.P w = .ok (.round m.blk f t as bd) w ∧ RoundIn Fence.wide 0 E.P m.blk f t as bd w (KPost E.G N0 w0 ρ H r)
def SoundRec (E : Env) (N0 : Nat) (w0 : World) (rec : Rec) : Prop := ∀ t, Sound E N0 w0 t (rec t)

theorem getD_opt (a : Array Value) (d : Nat) : a.getD d undef = (a[d]?).getD undef := by
  unfold Array.getD
  split
  · rename_i h; rw [Array.getElem?_eq_getElem h]; rfl
  · rename_i h; rw [Array.getElem?_eq_none (by omega)]; rfl
def yb (want : Bool) : Value → Bool
  | .bool b => b == want
  | _ => false
theorem isB_rel {ρ : RM} {want r : Bool} {o : Option Value} {y : Value} (hr : VR ρ (match o with | some v => v | none => undefV) y) (h : isB want o = some r) : r = yb want y := by
  unfold isB at h
  split at h
  · rename_i b
    cases h
    cases hr
    cases b <;> cases want <;> rfl
  · cases h
  · rename_i h1 h2
    cases h
    cases o with
    | none => cases hr; rfl
    | some v => cases hr <;> first | rfl | (exact absurd rfl (h2 _ _ _)) | (exact absurd rfl (h1 _))
section
variable {E : Env} {N0 : Nat} {w0 w : World} {ρ : RM} {C : Ctx} {s : St} {a : Act}
theorem evalO_rel {G : Nat → Option Nat} {tm : Tr Value} {H : Hp} (hG : ∀ g, g < E.gl → G g = some g) (W : WR G N0 w0 ρ H w) (ht : TmR ρ tm a.tmps) (x : Operand) : VR ρ (evalO E tm x) (a.eval x) := by
  cases x with
  | tmp t =>
    have := ht t
    exact this
  | const v =>
    show VR ρ (bif flat' v then v else junk) v
    cases h : flat' v with
    | true => exact flat'_refl ρ h
    | false => exact .junk v
  | global g =>
    show VR ρ (bif Nat.blt g E.gl then .pointer (some ⟨g, 0, none⟩) else junk) (.pointer (some ⟨g, 0, none⟩))
    cases h : Nat.blt g E.gl with
    | true =>
      obtain ⟨m, h1, h2, h3⟩ := W.gl g g (hG g (blt_lt h))
      have := VR.ptr (off := 0) h1
      rw [h2, h3] at this
      exact this
    | false => exact .junk _
  | func f => exact .func rfl rfl (fun i x y h => by simp at h) (fun i x y h => by simp at h)
theorem TmR.put {tm tm' : Tr Value} {nt : Nat} {v v' : Value} {dst : Option Nat} (h : put nt v tm dst = some tm') (hn : a.tmps.size = nt) (ht : TmR ρ tm a.tmps) (hv : VR ρ v v') :
    TmR ρ tm' (a.put dst v').tmps ∧ (a.put dst v').tmps.size = nt ∧ (a.put dst v').defers = a.defers := by
  unfold PE.put at h
  split at h
  · cases h; exact ⟨ht, hn, rfl⟩
  · rename_i d
    obtain ⟨hd, h⟩ := bif_some h
    have hd := blt_lt hd
    cases h
    refine ⟨fun t => ?_, by simp [Act.put, hn], rfl⟩
    show VR ρ (match (tm.set d v).get t with | some v => v | none => undefV) ((a.tmps.setIfInBounds d v').getD t undef)
    rw [Tr.get_set]
    by_cases e : t = d
    · subst e
      rw [if_pos rfl]
      have : (a.tmps.setIfInBounds t v').getD t undef = v' := by simp [Array.getD, hn, hd]
      rw [this]; exact hv
    · rw [if_neg e]
      have : (a.tmps.setIfInBounds d v').getD t undef = a.tmps.getD t undef := by
        simp only [getD_opt]
        rw [Array.getElem?_setIfInBounds_ne (fun h => e h.symm)]
      rw [this]; exact ht t
theorem wanted_rel {arr : Array Oper} {tm : Tr Value} {o : Oper} {r : Bool} (h : wantedG arr tm o.guard = some r) (ht : TmR ρ tm a.tmps) : Region.wanted o (yielded arr a.tmps) = r := by
  unfold wantedG at h
  unfold Region.wanted
  cases hg : o.guard with
  | none => rw [hg] at h; cases h; rfl
  | some q =>
    obtain ⟨j, want⟩ := q
    rw [hg] at h
    dsimp only at h ⊢
    unfold gdst at h
    unfold yielded
    cases ho : arr[j]? with
    | none => rw [ho] at h; cases h; rfl
    | some p =>
      rw [ho] at h
      dsimp only at h
      simp only [Option.bind_some]
      cases hd : p.dst with
      | none => rw [hd] at h; cases h; rfl
      | some d =>
        rw [hd] at h
        simp only [Option.bind_some] at h ⊢
        have hr := ht d
        rw [getD_opt] at hr
        have e := isB_rel hr h
        rw [e]
        generalize a.tmps[d]? = x
        cases x with
        | none => rfl
        | some y => cases y <;> first | rfl | (rename_i b; cases b <;> cases want <;> rfl)
end
end Go.PE
namespace Go.PE
open Go Go.RowKit
section
variable {E : Env} {N0 : Nat} {w0 w : World} {ρ : RM} {C : Ctx} {s : St} {a : Act} {rec : Rec}
theorem SR.put {G : Nat → Option Nat} (S : SR G N0 w0 C s ρ a w) {ρ1 : RM} {H1 : Hp} {w1 : World} (W : WR G N0 w0 ρ1 H1 w1) (hle : ρ.Le ρ1) {v v' : Value} {dst : Option Nat} {tm' : Tr Value} (h : put C.nt v s.tm dst = some tm') (hv : VR ρ1 v v') :
    SR G N0 w0 C ⟨tm', s.df, H1⟩ ρ1 (a.put dst v') w1 := by
  obtain ⟨h1, h2, h3⟩ := TmR.put h S.nt (S.tm.mono hle) hv
  exact ⟨W, h2, h1, by rw [h3]; exact S.df.mono hle⟩
theorem oPut_code {k : St → Res} {df : List CD} {H : Hp} {o : Option (Tr Value)} {e : Ex} {s' : St} (h : oPut k df H o = .code e s') : ∃ tm, o = some tm ∧ k ⟨tm, df, H⟩ = .code e s' := by
  cases o with
  | none => simp [oPut] at h
  | some tm => exact ⟨tm, rfl, h⟩
theorem call_sound (hrec : SoundRec E N0 w0 rec) {f : FuncId} {args : List Value} {args' : Array Value} {H : Hp} (W : WR E.G N0 w0 ρ H w) (ha : VL ρ args args'.toList) (hf : rec (.call f args H) ≠ .fail) :
    CallsIn Fence.wide 0 E.P f args' w (KPost E.G N0 w0 ρ H (rec (.call f args H))) := by
  have := hrec (.call f args H)
  generalize rec (.call f args H) = r at this hf
  cases r <;> first | exact absurd rfl hf | exact this ρ args' w W ha
theorem round_sound (hrec : SoundRec E N0 w0 rec) {l : Nat} {args : List Value} {args' : Array Value} {H : Hp} {m : BM} (W : WR E.G N0 w0 ρ H w) (hm : ρ l = some m) (ha : VL ρ args args'.toList) (hf : rec (.round l args H) ≠ .fail) :
    ∃ f t as bd, (Instr.yield m.blk args').run E.P w = .ok (.round m.blk f t as bd) w ∧ RoundIn Fence.wide 0 E.P m.blk f t as bd w (KPost E.G N0 w0 ρ H (rec (.round l args H))) := by
  have := hrec (.round l args H)
  generalize rec (.round l args H) = r at this hf
  cases r <;> first | exact absurd rfl hf | exact this ρ args' w m W hm ha
theorem cexec_defer {H H' : Hp} {ρc : Operand → Value} {c : Call} {cn : CN} (h : cexec E ρc H (.defer c) = some (cn, H')) : ∃ d, cn = .defer d := by
  simp only [cexec, xdefer] at h
  split at h
  · unfold xdeferv at h
    split at h
    · simp only [Option.some.injEq, Prod.mk.injEq] at h; exact ⟨_, h.1.symm⟩
    · cases h
  · cases h
/-- a call or a round within a row -/
theorem out_sound {G : Nat → Option Nat} (S : SR G N0 w0 C s ρ a w) {r : Res} {H : Hp} {k : St → Res} {dst : Option Nat} {e : Ex} {s' : St} (hx : Ext ρ s.H ρ H) (h : oOut k C dst s r = .code e s') {next : Act → World → Prop} {Q : Exit → Act → World → Prop}
    (hk : ∀ s1, k s1 = .code e s' → ∀ ρ1 a1 w1, SR G N0 w0 C s1 ρ1 a1 w1 → Ext ρ s.H ρ1 s1.H → next a1 w1)
    (hQ : ∀ v v' ρ1 w1, e = .panic v → VR ρ1 v v' → SR G N0 w0 C s' ρ1 a w1 → Ext ρ s.H ρ1 s'.H → Q (.panic [{ v := v', recovered := false }]) a w1)
    (en : Ending) (w' : World) (hp : KPost G N0 w0 ρ H r en w') : (match en with
      | .returned v => next (a.put dst v) w'
      | .panicked chain => Q (.panic chain) a w'
      | .outgrown => LetsOut Q) := by
  cases r with
  | fail => simp [oOut] at h
  | code e s => simp [oOut] at h
  | out v H' =>
    obtain ⟨ρ', v', rfl, hv, W, X⟩ := hp
    obtain ⟨tm, ht, h2⟩ := oPut_code h
    exact hk _ h2 ρ' _ w' (S.put W X.keep ht hv) (hx.trans X)
  | pan v H' =>
    obtain ⟨ρ', v', rfl, hv, W, X⟩ := hp
    simp only [oOut, Res.code.injEq] at h
    obtain ⟨rfl, rfl⟩ := h
    exact hQ v v' ρ' w' rfl hv ⟨W, S.nt, S.tm.mono X.keep, S.df.mono X.keep⟩ (hx.trans X)
theorem oNext_sound (hrec : SoundRec E N0 w0 rec) (S : SR E.G N0 w0 C s ρ a w) {rr : Option Nat} (hrd : RdR ρ C.rd rr) {o : Oper} {cn : CN} {H' : Hp} {r : Result Next} (hr : OpR E.P E.G N0 w0 ρ s.H w cn H' r) {k : St → Res} {e : Ex} {s' : St}
    (h : oNext rec k C o.dst s H' cn = .code e s') {next : Act → World → Prop} {Q : Exit → Act → World → Prop}
    (hk : ∀ s1, k s1 = .code e s' → ∀ ρ1 a1 w1, SR E.G N0 w0 C s1 ρ1 a1 w1 → Ext ρ s.H ρ1 s1.H → next a1 w1)
    (hQ : ∀ v v' ρ1 w1, e = .panic v → VR ρ1 v v' → SR E.G N0 w0 C s' ρ1 a w1 → Ext ρ s.H ρ1 s'.H → Q (.panic [{ v := v', recovered := false }]) a w1) : o.uponIn (FW rr) 0 E.P a next Q r := by
  cases cn with
  | val v =>
    obtain ⟨v', w', ρ', rfl, hv, O⟩ := hr
    obtain ⟨tm, ht, h2⟩ := oPut_code h
    exact hk _ h2 ρ' _ w' (S.put O.wr O.ext.keep ht hv) O.ext
  | skip =>
    obtain ⟨w', ρ', rfl, O⟩ := hr
    obtain ⟨tm, ht, h2⟩ := oPut_code h
    exact hk _ h2 ρ' _ w' (S.put O.wr O.ext.keep ht .undef) O.ext
  | enter f args =>
    obtain ⟨args', rfl, ha, rfl⟩ := hr
    refine ⟨fun h => (by cases h), callsIn_FW (CallsIn.mono (call_sound hrec S.wr ha ?_) ?_)⟩
    · intro hf; simp [oNext, hf, oOut] at h
    · intro en w' hp
      have := out_sound S (.refl _ _) h hk hQ en w' hp
      cases en <;> exact this
  | round l args =>
    obtain ⟨args', m, rfl, hm, ha, rfl⟩ := hr
    obtain ⟨f, t, as, bd, h1, h2⟩ := round_sound hrec S.wr hm ha (by intro hf; simp [oNext, hf, oOut] at h)
    rw [h1]
    refine ⟨fun h => (by cases h), roundIn_FW (RoundIn.mono h2 ?_)⟩
    intro en w' hp
    have := out_sound S (.refl _ _) h hk hQ en w' hp
    cases en <;> exact this
  | defer d =>
    obtain ⟨d', rfl, hd, rfl⟩ := hr
    simp only [oNext] at h
    split at h
    · obtain ⟨tm, ht, h2⟩ := oPut_code h
      have S' : SR E.G N0 w0 C { s with df := d :: s.df } ρ { a with defers := d' :: a.defers } w := ⟨S.wr, S.nt, S.tm, .cons hd S.df⟩
      exact hk _ h2 ρ _ w (S'.put S.wr (.refl _) ht .undef) (.refl _ _)
    · cases h
  | panic v =>
    obtain ⟨v', rfl, hv, rfl⟩ := hr
    simp only [oNext, Res.code.injEq] at h
    obtain ⟨rfl, rfl⟩ := h
    exact hQ v v' ρ w rfl hv S (.refl _ _)
theorem oRes_sound (ok : EnvOk E) (hrec : SoundRec E N0 w0 rec) (S : SR E.G N0 w0 C s ρ a w) {rr : Option Nat} (hrd : RdR ρ C.rd rr) {o : Oper} {k : St → Res} {e : Ex} {s' : St}
    (h : oRes rec k C o.dst s (cexec E (evalO E s.tm) s.H o.op) = .code e s') {next : Act → World → Prop} {Q : Exit → Act → World → Prop}
    (hk : ∀ s1, k s1 = .code e s' → ∀ ρ1 a1 w1, SR E.G N0 w0 C s1 ρ1 a1 w1 → Ext ρ s.H ρ1 s1.H → next a1 w1)
    (hQ : ∀ v v' ρ1 w1, e = .panic v → VR ρ1 v v' → SR E.G N0 w0 C s' ρ1 a w1 → Ext ρ s.H ρ1 s'.H → Q (.panic [{ v := v', recovered := false }]) a w1) : o.wpIn (FW rr) 0 E.P a w next Q := by
  cases hc : cexec E (evalO E s.tm) s.H o.op with
  | none => rw [hc] at h; simp [oRes] at h
  | some x =>
    obtain ⟨cn, H'⟩ := x
    rw [hc] at h
    have hop := cexec_sound ok S.wr (evalO_rel ok.gG S.wr S.tm) (o := o) hc
    refine ⟨fun _ _ => trivial, ?_⟩
    have hsem : o.semAt (FW rr).round a.eval = execOp a.eval o := by
      cases rr with
      | none => rfl
      | some l =>
        refine Oper.semAt_eq _ _ _ fun c hd => ?_
        rw [hd] at hc
        obtain ⟨d, rfl⟩ := cexec_defer hc
        simp only [oRes, oNext] at h
        cases hC : C.rd with
        | none => rw [hC] at hrd; cases hrd
        | some l' => rw [hC] at h; simp at h
    rw [hsem]
    exact oNext_sound hrec S hrd hop h hk hQ
theorem oCons_sound (ok : EnvOk E) (hrec : SoundRec E N0 w0 rec) (S : SR E.G N0 w0 C s ρ a w) {rr : Option Nat} (hrd : RdR ρ C.rd rr) {o : Oper} {arr : Array Oper} {k : St → Res} {e : Ex} {s' : St}
    (h : oCons E rec k C s o (wantedG arr s.tm o.guard) = .code e s') {next : Act → World → Prop} {Q : Exit → Act → World → Prop}
    (hk : ∀ s1, k s1 = .code e s' → ∀ ρ1 a1 w1, SR E.G N0 w0 C s1 ρ1 a1 w1 → Ext ρ s.H ρ1 s1.H → next a1 w1)
    (hQ : ∀ v v' ρ1 w1, e = .panic v → VR ρ1 v v' → SR E.G N0 w0 C s' ρ1 a w1 → Ext ρ s.H ρ1 s'.H → Q (.panic [{ v := v', recovered := false }]) a w1) :
    if Region.wanted o (yielded arr a.tmps) = true then o.wpIn (FW rr) 0 E.P a w next Q else (∀ f, o.about E.P w a.eval = some f → (FW rr).fn f) ∧ next (a.put o.dst undef) w := by
  cases hw : wantedG arr s.tm o.guard with
  | none => rw [hw] at h; simp [oCons] at h
  | some b =>
    rw [hw] at h
    rw [wanted_rel hw S.tm]
    cases b with
    | true => rw [if_pos rfl]; exact oRes_sound ok hrec S hrd h hk hQ
    | false =>
      rw [if_neg (by decide)]
      obtain ⟨tm, ht, h2⟩ := oPut_code h
      exact ⟨fun _ _ => trivial, hk _ h2 ρ _ w (S.put S.wr (.refl _) ht .undef) (.refl _ _)⟩
theorem runOps_sound (ok : EnvOk E) (hrec : SoundRec E N0 w0 rec) {arr : Array Oper} {ρ0 : RM} {H0 : Hp} {rr : Option Nat} {e : Ex} {s' : St} : ∀ (n i : Nat) (s : St) (ρ : RM) (a : Act) (w : World), i + n = arr.size → SR E.G N0 w0 C s ρ a w → RdR ρ C.rd rr → Ext ρ0 H0 ρ s.H →
    runOps E rec C arr (arr.toList.drop i) s = .code e s' → wpOpsIn (FW rr) 0 E.P arr (CPost E.G N0 w0 C ρ0 H0 e s') (List.range' i n) a w := by
  intro n
  induction n with
  | zero =>
    intro i s ρ a w hi S hrd X h
    have : arr.toList.drop i = [] := List.drop_eq_nil_of_le (by simp; omega)
    rw [this] at h
    simp only [runOps, Res.code.injEq] at h
    obtain ⟨rfl, rfl⟩ := h
    exact ⟨ρ, .normal, S, X⟩
  | succ n ih =>
    intro i s ρ a w hi S hrd X h
    have hlt : i < arr.size := by omega
    have hd : arr.toList.drop i = arr[i] :: arr.toList.drop (i + 1) := by
      rw [List.drop_eq_getElem_cons (by simpa using hlt)]; simp
    rw [hd] at h
    have h : oCons E rec (runOps E rec C arr (arr.toList.drop (i + 1))) C s arr[i] (wantedG arr s.tm arr[i].guard) = .code e s' := h
    have ho : arr[i]? = some arr[i] := Array.getElem?_eq_getElem hlt
    simp only [List.range'_succ, wpOpsIn, ho]
    refine oCons_sound ok hrec S hrd h ?_ ?_
    · intro s1 h1 ρ1 a1 w1 S1 X1
      exact ih (i + 1) s1 ρ1 a1 w1 (by omega) S1 (hrd.mono X1.keep) (X.trans X1) h1
    · intro v v' ρ1 w1 he hv S1 X1
      subst he
      exact ⟨ρ1, .panic hv, S1, X.trans X1⟩
theorem region_sound (ok : EnvOk E) (hrec : SoundRec E N0 w0 rec) {arr : Array Oper} {rr : Option Nat} {e : Ex} {s' : St} {id : Nat} (S : SR E.G N0 w0 C s ρ a w) (hrd : RdR ρ C.rd rr) (h : runOps E rec C arr arr.toList s = .code e s') :
    (Code.region id arr false).wpIn (FW rr) 0 E.P (CPost E.G N0 w0 C ρ s.H e s') a w := by
  refine wpIn_region ?_
  have := runOps_sound ok hrec (rr := rr) (arr := arr) (C := C) (e := e) (s' := s') (ρ0 := ρ) (H0 := s.H) arr.size 0 s ρ a w (by omega) S hrd (.refl _ _) (by rw [List.drop_zero]; exact h)
  rwa [List.range_eq_range']
end
end Go.PE
namespace Go.PE
open Go Go.RowKit
/-! ### scopes, loops -/
def NoGoto (Q : Exit → Act → World → Prop) : Exit → Act → World → Prop
  | .goto _, _, _ => False
  | e, a, w => Q e a w
section
variable {F : Fence} {n : Nat} {P : Program} {Q : Exit → Act → World → Prop} {a : Act} {w : World} {b : Frame} {k : List Item} {cs : List Frame}
theorem stepR_scope {c : Code} : Go.step P (lone (b.atR a (.code (.scope c) :: k)) cs w) = .next (lone (b.atR a (.code c :: .inScope c :: k)) cs w) :=
  step_lone_go (by simp [stepG, stepG.exec, Frame.atR])
theorem stepR_inScope {c : Code} : Go.step P (lone (b.atR a (.inScope c :: k)) cs w) = .next (lone (b.atR a k) cs w) :=
  step_lone_go (by simp [stepG, stepG.exec, Frame.atR])
theorem wpIn_scope {c : Code} (h : c.wpIn F n P (NoGoto Q) a w) : (Code.scope c).wpIn F n P Q a w := by
  intro b k cs hro hb hr
  have h0 : (lone (b.atR a (.code (.scope c) :: k)) cs w).fenced P F := fenced_calm hb hr rfl
  obtain ⟨e, a₁, w₁, hq, harr⟩ := h b (.inScope c :: k) cs hro hb hr
  cases e with
  | normal => exact ⟨.normal, a₁, w₁, hq, .head h0 stepR_scope (StepsIn.trans harr (.one (fenced_calm hb hr rfl) stepR_inScope))⟩
  | exit id =>
    have hx : exitTo id (.inScope c :: k) = exitTo id k := by simp [exitTo]
    exact ⟨.exit id, a₁, w₁, hq, fun k' hk => .head h0 stepR_scope (harr.1 k' (by rw [hx]; exact hk)),
      fun hr' hk => let ⟨k₁, h1, h2⟩ := harr.2 hr' (by rw [hx]; exact hk); ⟨k₁, h1, .head h0 stepR_scope h2⟩⟩
  | goto l => exact hq.elim
  | ret => exact ⟨_, a₁, w₁, hq, .of_steps (.one h0 stepR_scope) harr⟩
  | panic ch => exact ⟨_, a₁, w₁, hq, .of_steps (.one h0 stepR_scope) harr⟩
  | outgrown => exact ⟨_, a₁, w₁, hq, .of_steps (.one h0 stepR_scope) harr⟩
theorem least (p : Nat → Prop) (h : ∃ n, p n) : ∃ n, p n ∧ ∀ m, p m → n ≤ m := by
  obtain ⟨n, hn⟩ := h
  induction n using Nat.strongRecOn with
  | _ n ih =>
    by_cases hx : ∃ m, m < n ∧ p m
    · obtain ⟨m, h1, h2⟩ := hx; exact ih m h1 h2
    · exact ⟨n, hn, fun m hm => Nat.le_of_not_lt fun hlt => hx ⟨m, hlt, hm⟩⟩
open Classical in
theorem wpIn_loop_down {c : Code} (J : Nat → Act → World → Prop) (m : Nat) (h0 : J m a w)
    (round : ∀ m a w, J m a w → c.wpIn F n P (Exit.then (fun a' w' => ∃ k, k < m ∧ J k a' w') Q) a w) : (Code.loop c).wpIn F n P Q a w := by
  let μ : Act → World → Nat := fun a w => if h : ∃ n, J n a w then Classical.choose (least (fun n => J n a w) h) else 0
  have hμ : ∀ a w, (∃ n, J n a w) → J (μ a w) a w ∧ ∀ m, J m a w → μ a w ≤ m := by
    intro a w h
    have e : μ a w = Classical.choose (least (fun n => J n a w) h) := dif_pos h
    rw [e]; exact Classical.choose_spec (least (fun n => J n a w) h)
  refine wpIn_loop (I := fun a w => ∃ n, J n a w) (μ := μ) ⟨m, h0⟩ fun a w hI => ?_
  obtain ⟨h1, _⟩ := hμ a w hI
  refine wpIn_mono (round _ a w h1) fun e a' w' hq => ?_
  cases e with
  | normal =>
    obtain ⟨k, hk, hj⟩ := hq
    exact ⟨⟨k, hj⟩, Nat.lt_of_le_of_lt ((hμ a' w' ⟨k, hj⟩).2 k hj) hk⟩
  | _ => exact hq
end

section
variable {E : Env} {N0 : Nat} {w0 w : World} {ρ : RM} {C : Ctx} {s : St} {a : Act} {rec : Rec}
/-- the sound answer for code -/
def CodeOk (E : Env) (N0 : Nat) (w0 : World) (C : Ctx) (c : Code) (s : St) (e : Ex) (s' : St) : Prop :=
  ∀ ρ rr a w, SR E.G N0 w0 C s ρ a w → RdR ρ C.rd rr → c.wpIn (FW rr) 0 E.P (CPost E.G N0 w0 C ρ s.H e s') a w
theorem code_of (hrec : SoundRec E N0 w0 rec) {c : Code} {e : Ex} {s' : St} (h : rec (.code C c s) = .code e s') : CodeOk E N0 w0 C c s e s' := by
  have := hrec (.code C c s)
  rw [h] at this
  exact this
theorem not_code (hrec : SoundRec E N0 w0 rec) {c : Code} {r : Res} (h : rec (.code C c s) = r) : r = .fail ∨ ∃ e s', r = .code e s' := by
  have := hrec (.code C c s)
  rw [h] at this
  cases r with
  | fail => exact .inl rfl
  | code e s' => exact .inr ⟨e, s', rfl⟩
  | out _ _ => exact this.elim
  | pan _ _ => exact this.elim
theorem CPost.trans {ρ1 : RM} {H H1 : Hp} {e : Ex} {s' : St} {x : Exit} {a' : Act} {w' : World} (X : Ext ρ H ρ1 H1) (h : CPost E.G N0 w0 C ρ1 H1 e s' x a' w') : CPost E.G N0 w0 C ρ H e s' x a' w' := by
  obtain ⟨ρ', h1, h2, h3⟩ := h; exact ⟨ρ', h1, h2, X.trans h3⟩
theorem then_of {K : Act → World → Prop} {Q : Exit → Act → World → Prop} {x : Exit} {a : Act} {w : World} (hx : x ≠ .normal) (h : Q x a w) : Exit.then K Q x a w := by
  cases x <;> first | exact absurd rfl hx | exact h
theorem seq_ok {x y : Code} {e1 : Ex} {s1 : St} (hx : CodeOk E N0 w0 C x s e1 s1) {e : Ex} {s' : St} (hn : e1 = .normal → CodeOk E N0 w0 C y s1 e s') (hne : e1 ≠ .normal → e = e1 ∧ s' = s1) : CodeOk E N0 w0 C (.seq x y) s e s' := by
  intro ρ rr a w S hrd
  refine wpIn_seq (wpIn_mono (hx ρ rr a w S hrd) ?_)
  intro ex a1 w1 hp
  obtain ⟨ρ1, h1, h2, h3⟩ := hp
  cases h1 with
  | normal => exact wpIn_mono (hn rfl ρ1 rr a1 w1 h2 (hrd.mono h3.keep)) fun _ _ _ h => h.trans h3
  | exit id => obtain ⟨rfl, rfl⟩ := hne (by simp); exact ⟨ρ1, .exit id, h2, h3⟩
  | goto l => obtain ⟨rfl, rfl⟩ := hne (by simp); exact ⟨ρ1, .goto l, h2, h3⟩
  | ret => obtain ⟨rfl, rfl⟩ := hne (by simp); exact ⟨ρ1, .ret, h2, h3⟩
  | panic hv => obtain ⟨rfl, rfl⟩ := hne (by simp); exact ⟨ρ1, .panic hv, h2, h3⟩
theorem block_ok {c : Code} {id : Nat} {e1 : Ex} {s1 : St} (hx : CodeOk E N0 w0 C c s e1 s1) {e : Ex} (hn : e1 = .exit id → e = .normal) (hne : e1 ≠ .exit id → e = e1) : CodeOk E N0 w0 C (.block id c) s e s1 := by
  intro ρ rr a w S hrd
  refine wpIn_block (wpIn_mono (hx ρ rr a w S hrd) ?_)
  intro ex a1 w1 hp
  obtain ⟨ρ1, h1, h2, h3⟩ := hp
  cases h1 with
  | normal => obtain rfl := hne (by simp); exact ⟨ρ1, .normal, h2, h3⟩
  | exit j =>
    simp only [Exit.inBlock]
    by_cases hj : j = id
    · rw [if_pos hj]; obtain rfl := hn (by rw [hj]); exact ⟨ρ1, .normal, h2, h3⟩
    · rw [if_neg hj]; obtain rfl := hne (by simpa using hj); exact ⟨ρ1, .exit j, h2, h3⟩
  | goto l => obtain rfl := hne (by simp); exact ⟨ρ1, .goto l, h2, h3⟩
  | ret => obtain rfl := hne (by simp); exact ⟨ρ1, .ret, h2, h3⟩
  | panic hv => obtain rfl := hne (by simp); exact ⟨ρ1, .panic hv, h2, h3⟩
theorem scope_ok {c : Code} {e : Ex} {s1 : St} (hx : CodeOk E N0 w0 C c s e s1) (hn : ∀ l, e ≠ .goto l) : CodeOk E N0 w0 C (.scope c) s e s1 := by
  intro ρ rr a w S hrd
  refine wpIn_scope (wpIn_mono (hx ρ rr a w S hrd) ?_)
  intro ex a1 w1 hp
  obtain ⟨ρ1, h1, h2, h3⟩ := hp
  cases h1 with
  | normal => exact ⟨ρ1, .normal, h2, h3⟩
  | exit j => exact ⟨ρ1, .exit j, h2, h3⟩
  | goto l => exact absurd rfl (hn l)
  | ret => exact ⟨ρ1, .ret, h2, h3⟩
  | panic hv => exact ⟨ρ1, .panic hv, h2, h3⟩
theorem cond_ok (ok : EnvOk E) {c : Operand} {x y : Code} {b : Bool} {e : Ex} {s' : St} (hc : evalO E s.tm c = .bool b) (h : CodeOk E N0 w0 C (if b then x else y) s e s') : CodeOk E N0 w0 C (.cond c x y) s e s' := by
  intro ρ rr a w S hrd
  have hr := evalO_rel (E := E) ok.gG S.wr S.tm c
  rw [hc] at hr
  have : a.eval c = .bool b := by generalize a.eval c = z at hr; cases hr; rfl
  exact wpIn_cond this (h ρ rr a w S hrd)
/-- one loop, by its turns -/
theorem loop_ok {c : Code} {e : Ex} {s' : St} (N : Nat) (hlow : ∀ k, k < N → SoundRec E N0 w0 (ev E k)) (s : St) (h : ev E N (.code C (.loop c) s) = .code e s') : CodeOk E N0 w0 C (.loop c) s e s' := by
  intro ρ rr a w S hrd
  refine wpIn_loop_down (J := fun m a w => m ≤ N ∧ ∃ s1 ρ1, SR E.G N0 w0 C s1 ρ1 a w ∧ Ext ρ s.H ρ1 s1.H ∧ ev E m (.code C (.loop c) s1) = .code e s') N ⟨Nat.le_refl _, s, ρ, S, .refl _ _, h⟩ ?_
  rintro m a w ⟨hm, s1, ρ1, S1, X1, h1⟩
  cases m with
  | zero => simp [ev] at h1
  | succ k =>
    have hk := hlow k (by omega)
    have h1 : sLoop (ev E k) C c (ev E k (.code C c s1)) = .code e s' := h1
    rcases not_code hk (c := c) (C := C) (s := s1) rfl with hf | ⟨e1, s2, he⟩
    · rw [hf] at h1; simp [sLoop] at h1
    · have hx := code_of hk he
      rw [he] at h1
      refine wpIn_mono (hx ρ1 rr a w S1 (hrd.mono X1.keep)) ?_
      intro ex a1 w1 hp
      obtain ⟨ρ2, g1, g2, g3⟩ := hp
      cases g1 with
      | normal => exact ⟨k, by omega, by omega, s2, ρ2, g2, X1.trans g3, h1⟩
      | exit j => simp only [sLoop, Res.code.injEq] at h1; obtain ⟨rfl, rfl⟩ := h1; exact ⟨ρ2, .exit j, g2, X1.trans g3⟩
      | goto l => simp only [sLoop, Res.code.injEq] at h1; obtain ⟨rfl, rfl⟩ := h1; exact ⟨ρ2, .goto l, g2, X1.trans g3⟩
      | ret => simp only [sLoop, Res.code.injEq] at h1; obtain ⟨rfl, rfl⟩ := h1; exact ⟨ρ2, .ret, g2, X1.trans g3⟩
      | panic hv => simp only [sLoop, Res.code.injEq] at h1; obtain ⟨rfl, rfl⟩ := h1; exact ⟨ρ2, .panic hv, g2, X1.trans g3⟩
theorem leaf_ok {c : Code} {e : Ex} (hl : ∀ {F : Fence} {n : Nat} {P : Program} {Q : Exit → Act → World → Prop} {a : Act} {w : World} {x : Exit}, ExR ρ e x → Q x a w → c.wpIn F n P Q a w) (x : Exit) (hx : ∀ ρ, ExR ρ e x) : CodeOk E N0 w0 C c s e s := by
  intro ρ' rr a w S hrd
  exact hl (hx ρ) ⟨ρ', hx ρ', S, .refl _ _⟩
end
end Go.PE
namespace Go.PE
open Go Go.RowKit
theorem LeavesInM.mono {F : Fence} {n : Nat} {P : Program} {fn : Func} {tmps : Array Value} {R R' : Ending → World → Prop} (hr : ∀ e w, R e w → R' e w) : ∀ (ds : List Deferred) (u : FrameMode) (w : World),
    LeavesInM F n P fn tmps R ds u w → LeavesInM F n P fn tmps R' ds u w := by
  intro ds
  induction ds with
  | nil =>
    intro u w h
    cases u with
    | run => exact h
    | returning => obtain ⟨v, h1, h2⟩ := h; exact ⟨v, h1, hr _ _ h2⟩
    | panicking c => exact hr _ _ h
  | cons d ds ih =>
    intro u w h
    refine ⟨h.1, ?_⟩
    rcases h.2 with ⟨r, w', h1, h2, h3⟩ | ⟨hn, fv, cap, f, args, h1, h2, h3, h4⟩
    · exact .inl ⟨r, w', h1, h2, ih _ _ h3⟩
    · refine .inr ⟨hn, fv, cap, f, args, h1, h2, h3, CallsDIn.mono h4 ?_⟩
      intro e u' w' h
      cases e with
      | returned v => exact ih _ _ h
      | panicked c => exact ih _ _ h
      | outgrown => exact hr _ _ h
section
variable {E : Env} {N0 : Nat} {w0 w : World} {ρ : RM} {H : Hp} {rec : Rec}
theorem KPost.trans {ρ1 : RM} {H1 : Hp} {G : Nat → Option Nat} (X : Ext ρ H ρ1 H1) {r : Res} {en : Ending} {w : World} (h : KPost G N0 w0 ρ1 H1 r en w) : KPost G N0 w0 ρ H r en w := by
  cases r with
  | out v H' => obtain ⟨ρ', v', h1, h2, h3, h4⟩ := h; exact ⟨ρ', v', h1, h2, h3, X.trans h4⟩
  | pan v H' => obtain ⟨ρ', v', h1, h2, h3, h4⟩ := h; exact ⟨ρ', v', h1, h2, h3, X.trans h4⟩
  | fail => exact h
  | code _ _ => exact h
/-! ### results -/
def resSem (tmps : Array Value) : ResultVar → Sem Value
  | .tmp t => pure (tmps.getD t undef)
  | .cell a t => do loadVar t (← asAddr (tmps.getD a undef))
theorem results_eq (fn : Func) (tmps : Array Value) : results fn tmps = (do
    let vs ← List.toArray <$> fn.results.toList.mapM (resSem tmps)
    pure (if h : vs.size = 1 then vs[0] else .tuple vs)) := by
  rw [← Array.mapM_eq_mapM_toList]
  unfold results
  congr 1
theorem resOne_sound (ok : EnvOk E) (W : WR E.G N0 w0 ρ H w) {tm : Tr Value} {tmps : Array Value} (ht : TmR ρ tm tmps) {r : ResultVar} {v : Value} (h : resOne E tm H r = some v) : ∃ v', (resSem tmps r).run E.P w = .ok v' w ∧ VR ρ v v' := by
  cases r with
  | tmp t =>
    simp only [resOne, Option.some.injEq] at h
    subst h
    exact ⟨_, rfl, ht t⟩
  | cell x t =>
    have hx : VR ρ (evalO E tm (.tmp x)) (tmps.getD x undef) := ht x
    obtain ⟨v', h1, h2⟩ := loadAt_sound ok W h hx
    refine ⟨v', ?_, h2⟩
    have h : loadAt H (E.tt.get t) (evalO E tm (.tmp x)) = some v := h
    unfold loadAt at h
    split at h
    · rename_i ti b off e2 e1
      rw [e1] at hx
      unfold resSem
      dsimp only
      generalize tmps.getD x undef = z at hx h1 ⊢
      cases hx with
      | ptr hm =>
        simp only [Instr.loadAt, Sem.run_bind, Instr.sureAddr, run_pure, Result.andThen] at h1
        simp only [Sem.run_bind, asAddr, run_pure, Result.andThen]
        exact h1
    · cases h
theorem resAll_sound (ok : EnvOk E) (W : WR E.G N0 w0 ρ H w) {tm : Tr Value} {tmps : Array Value} (ht : TmR ρ tm tmps) : ∀ (l : List ResultVar) (vs : List Value), resAll E tm H l = some vs →
    ∃ vs', (l.mapM (resSem tmps)).run E.P w = .ok vs' w ∧ VL ρ vs vs'
  | [], vs, h => by simp only [resAll, Option.some.injEq] at h; subst h; exact ⟨[], rfl, .nil⟩
  | r :: l, vs, h => by
    simp only [resAll] at h
    split at h
    · rename_i v hv
      split at h
      · rename_i us hu
        cases h
        obtain ⟨v', h1, h2⟩ := resOne_sound ok W ht hv
        obtain ⟨us', h3, h4⟩ := resAll_sound ok W ht l us hu
        exact ⟨v' :: us', by simp [List.mapM_cons, Sem.run_bind, h1, h3, Result.andThen], .cons h2 h4⟩
      · cases h
    · cases h
theorem results_sound (ok : EnvOk E) (W : WR E.G N0 w0 ρ H w) {tm : Tr Value} {tmps : Array Value} (ht : TmR ρ tm tmps) {fn : Func} {vs : List Value} (h : resAll E tm H fn.results.toList = some vs) :
    ∃ v', (results fn tmps).run E.P w = .ok v' w ∧ VR ρ (tupV vs) v' := by
  obtain ⟨vs', h1, h2⟩ := resAll_sound ok W ht _ _ h
  rw [results_eq]
  cases vs with
  | nil =>
    have := h2.unnil; subst this
    exact ⟨.tuple #[], by simp [h1, Result.andThen], .tuple' (a := []) (a' := []) .nil⟩
  | cons v l =>
    obtain ⟨v', l', rfl, h3, h4⟩ := h2.uncons
    cases l with
    | nil =>
      have := h4.unnil; subst this
      exact ⟨v', by simp [h1, Result.andThen], h3⟩
    | cons u l2 =>
      obtain ⟨u', l2', rfl, h5, h6⟩ := h4.uncons
      exact ⟨.tuple (v' :: u' :: l2').toArray, by simp [h1, Result.andThen], .tuple' (.cons h3 (.cons h5 h6))⟩
/-! ### calls -/
theorem TmR.args {args : List Value} {args' : Array Value} (ha : VL ρ args args'.toList) (k : Nat) : TmR ρ (Tr.of args.length args) (args' ++ Array.replicate k undef) := by
  intro t
  rw [Tr.of_get _ _ (Nat.le_refl _)]
  have hs : args'.size = args.length := by have := ha.1; simpa using this.symm
  rw [getD_opt]
  cases hx : args[t]? with
  | some x =>
    obtain ⟨y, hy, hr⟩ := ha.get hx
    have hlt : t < args'.size := by rw [hs]; exact (List.getElem?_eq_some_iff.1 hx).1
    have : (args' ++ Array.replicate k undef)[t]? = some y := by
      rw [Array.getElem?_append_left hlt]; simpa using hy
    rw [this]; exact hr
  | none =>
    have hge : args'.size ≤ t := by rw [hs]; simpa using hx
    have : ((args' ++ Array.replicate k undef)[t]?).getD undef = undef := by
      rw [Array.getElem?_append_right hge]
      rcases Nat.lt_or_ge (t - args'.size) k with h | h
      · simp [h]
      · simp [Nat.not_lt.2 h]
    rw [this]; exact .undef
theorem enter_SR (W : WR E.G N0 w0 ρ H w) {args : List Value} {args' : Array Value} (ha : VL ρ args args'.toList) {nt : Nat} (hn : args.length ≤ nt) :
    SR E.G N0 w0 ⟨nt, none⟩ ⟨Tr.of args.length args, [], H⟩ ρ { tmps := args' ++ Array.replicate (nt - args'.size) undef, defers := [] } w := by
  have hs : args'.size = args.length := by have := ha.1; simpa using this.symm
  exact ⟨W, by simp; omega, TmR.args ha _, .nil⟩
theorem leave_of (hrec : SoundRec E N0 w0 rec) {fn : Func} {tm : Tr Value} {df : List CD} {pan : Option Value} {r : Res} (hr : rec (.leave fn tm df pan H) = r) (hf : r ≠ .fail) {tmps : Array Value} {ds : List Deferred} {pan' : Option Value}
    (W : WR E.G N0 w0 ρ H w) (ht : TmR ρ tm tmps) (hd : DL ρ df ds) (hp : OR ρ pan pan') : LeavesInM Fence.wide 0 E.P fn tmps (KPost E.G N0 w0 ρ H r) ds (modeOf pan') w := by
  have := hrec (.leave fn tm df pan H)
  rw [hr] at this
  cases r <;> first | exact absurd rfl hf | exact this ρ tmps ds pan' w W ht hd hp
theorem WR.grow {G : Nat → Option Nat} (W : WR G N0 w0 ρ H w) {w' : World} (h : RowKit.Below w.heap.size w w') : WR G N0 w0 ρ H w' := by
  have hs : ∀ k, k < w.heap.size → w'.heap[k]? = w.heap[k]? := fun k hk => h.block k hk
  refine ⟨W.below.trans ⟨h.os, h.tape, h.output, h.size, fun k hk => hs k (Nat.lt_of_lt_of_le hk W.n0)⟩, fun b o m hb hd hr => ?_, W.inj, W.dom, W.rdom, W.own, W.gl, Nat.le_trans W.n0 h.size⟩
  have ob := W.obj b o m hb hd hr
  exact ob.mono (.refl _) (hs _ ob.lt)
/-- what is asked of the calls that are answered -/
structure AnsOk (E : Env) (N0 : Nat) (w0 : World) : Prop where
  ans : ∀ f F args v, E.ans.get f = some F → F args = some v → flat' v = true ∧ ∀ (ρ : RM) (args' : Array Value) (w : World), (∀ g k, E.G g = some k → ∃ m, ρ g = some m ∧ m.blk = k ∧ m.sh = 0) → VL ρ args args'.toList →
    RowKit.Below N0 w0 w → CallsIn Fence.wide 0 E.P f args' w fun en w' => en = .returned v ∧ RowKit.Below w.heap.size w w'
  eff : ∀ f F args H v H', E.eff.get f = some F → F args H = some (v, H') → ∀ (ρ : RM) (args' : Array Value) (w : World), WR E.G N0 w0 ρ H w → VL ρ args args'.toList →
    CallsIn Fence.wide 0 E.P f args' w fun en w' => ∃ ρ' v', en = .returned v' ∧ VR ρ' v v' ∧ WR E.G N0 w0 ρ' H' w' ∧ Ext ρ H ρ' H'
theorem orc_ok (ans : AnsOk E N0 w0) {f : FuncId} {args : List Value} (h0 : ∀ r, r = sCall rec args H (E.ft.get f) → Sound E N0 w0 (.call f args H) r) : Sound E N0 w0 (.call f args H) (sOrc E rec f args H (E.ans.get f)) := by
  cases ho : E.ans.get f with
  | none =>
    simp only [sOrc]
    cases he : E.eff.get f with
    | none => exact h0 _ rfl
    | some F =>
      simp only [sEff]
      cases hF : F args H with
      | none => exact h0 _ rfl
      | some x =>
        obtain ⟨v, H'⟩ := x
        intro ρ args' w W ha
        exact ans.eff _ _ _ _ _ _ he hF ρ args' w W ha
  | some F =>
    simp only [sOrc]
    cases hF : F args with
    | none => exact h0 _ rfl
    | some v =>
      obtain ⟨hf, hc⟩ := ans.ans _ _ _ _ ho hF
      intro ρ args' w W ha
      refine CallsIn.mono (hc ρ args' w W.gl ha W.below) fun en w' hp => ?_
      exact ⟨ρ, v, hp.1, flat'_refl ρ hf, W.grow hp.2, .refl _ _⟩
theorem call_ok (ok : EnvOk E) (hrec : SoundRec E N0 w0 rec) {f : FuncId} {args : List Value} : Sound E N0 w0 (.call f args H) (sCall rec args H (E.ft.get f)) := by
  generalize hR : sCall rec args H (E.ft.get f) = r
  by_cases hf : r = .fail
  · subst hf; exact trivial
  suffices hs : ∀ ρ args' w, WR E.G N0 w0 ρ H w → VL ρ args args'.toList → CallsIn Fence.wide 0 E.P f args' w (KPost E.G N0 w0 ρ H r) by
    cases r <;> first | exact trivial | exact hs
  intro ρ args' w W ha
  unfold sCall at hR
  split at hR
  · exact absurd hR.symm hf
  · rename_i fn hfn
    obtain ⟨h1, _⟩ := ok.ft _ _ hfn
    unfold cBody at hR
    split at hR
    · exact absurd hR.symm hf
    · rename_i c hb
      cases hle : Nat.ble args.length fn.ntmps with
      | false => rw [hle] at hR; exact absurd hR.symm hf
      | true =>
        rw [hle] at hR
        simp only [cond_true] at hR
        rcases not_code hrec (c := c) (C := ⟨fn.ntmps, none⟩) (s := ⟨Tr.of args.length args, [], H⟩) rfl with hx | ⟨e1, s1, hx⟩
        · rw [hx] at hR; exact absurd hR.symm hf
        · have hc := code_of hrec hx
          rw [hx] at hR
          refine callsIn_of_wp_marks h1 hb trivial ?_
          refine wpIn_mono (hc ρ none _ w (enter_SR W ha (ble_le hle)) rfl) ?_
          intro x a1 w1 hp
          obtain ⟨ρ1, g1, g2, g3⟩ := hp
          cases g1 with
          | normal =>
            exact LeavesInM.mono (fun e w h => h.trans g3) _ _ _ (leave_of hrec hR hf (pan' := none) g2.wr g2.tm g2.df rfl)
          | ret =>
            exact LeavesInM.mono (fun e w h => h.trans g3) _ _ _ (leave_of hrec hR hf (pan' := none) g2.wr g2.tm g2.df rfl)
          | exit j => exact absurd hR.symm hf
          | goto l => exact absurd hR.symm hf
          | @panic v v' hv =>
            exact LeavesInM.mono (fun e w h => h.trans g3) _ _ _ (leave_of hrec hR hf (pan' := some v') g2.wr g2.tm g2.df ⟨v', rfl, hv⟩)
end
end Go.PE
namespace Go.PE
open Go Go.RowKit
section
variable {E : Env} {N0 : Nat} {w0 w : World} {ρ : RM} {H : Hp} {rec : Rec}
theorem runS_sound (ok : EnvOk E) (W : WR E.G N0 w0 ρ H w) {nt : Nat} {arr : Array Oper} {cs : List Frame} {Q : Exit → Act → List Frame → World → Prop} : ∀ (n i : Nat) (tm tm0 : Tr Value) (a : Act), i + n = arr.size →
    runS E nt H (arr.toList.drop i) tm = some tm0 → TmR ρ tm a.tmps → a.tmps.size = nt → (∀ a', TmR ρ tm0 a'.tmps → a'.tmps.size = nt → a'.defers = a.defers → Q .normal a' cs w) → wpOpsSIn Fence.wide 0 E.P arr Q (List.range' i n) a cs w := by
  intro n
  induction n with
  | zero =>
    intro i tm tm0 a hi h ht hn hQ
    have : arr.toList.drop i = [] := List.drop_eq_nil_of_le (by simp; omega)
    rw [this] at h
    simp only [runS, Option.some.injEq] at h
    subst h
    exact hQ a ht hn rfl
  | succ n ih =>
    intro i tm tm0 a hi h ht hn hQ
    have hlt : i < arr.size := by omega
    have hd : arr.toList.drop i = arr[i] :: arr.toList.drop (i + 1) := by
      rw [List.drop_eq_getElem_cons (by simpa using hlt)]; simp
    rw [hd] at h
    have ho : arr[i]? = some arr[i] := Array.getElem?_eq_getElem hlt
    simp only [List.range'_succ, wpOpsSIn, ho]
    simp only [runS] at h
    split at h
    · cases h
    · rename_i hg
      obtain ⟨hnf, h⟩ := bif_some h
      refine ⟨fun _ _ => trivial, ?_⟩
      have hwt : Region.wanted arr[i] (yielded arr a.tmps) = true := by unfold Region.wanted; rw [hg]
      rw [if_pos hwt]
      have key : ∀ x, arr[i].op = .move x ∨ arr[i].op = .assign x → (execOp a.eval arr[i]).run E.P w = .ok (.value (a.eval x)) w ∧ cexec E (evalO E tm) H arr[i].op = some (.val (evalO E tm x), H) := by
        intro x hx
        rcases hx with hx | hx <;> (refine ⟨?_, by rw [hx]; rfl⟩; unfold execOp; rw [hx]; rfl)
      obtain ⟨x, hx⟩ : ∃ x, arr[i].op = .move x ∨ arr[i].op = .assign x := by
        unfold noFx at hnf
        split at hnf
        · rename_i x e; exact ⟨x, .inl e⟩
        · rename_i x e; exact ⟨x, .inr e⟩
        · cases hnf
      obtain ⟨hr, hc⟩ := key x hx
      rw [hc] at h
      rw [hr]
      dsimp only at h ⊢
      split at h
      · rename_i tm1 htm
        have hv := evalO_rel (E := E) (a := a) ok.gG W ht x
        obtain ⟨g1, g2, g3⟩ := TmR.put htm hn ht hv
        exact ih (i + 1) tm1 tm0 _ (by omega) h g1 g2 fun a' k1 k2 k3 => hQ a' k1 k2 (k3.trans g3)
      · cases h
theorem settle_mode (pan' : Option Value) : settle (modeOf pan') = modeOf pan' := by cases pan' <;> rfl
theorem leave_ok (ok : EnvOk E) (hrec : SoundRec E N0 w0 rec) {fn : Func} {tm : Tr Value} {pan : Option Value} (df : List CD) : Sound E N0 w0 (.leave fn tm df pan H) (sLeave E rec fn tm pan H df) := by
  generalize hR : sLeave E rec fn tm pan H df = r
  by_cases hf : r = .fail
  · subst hf; exact trivial
  suffices hs : ∀ ρ tmps ds pan' w, WR E.G N0 w0 ρ H w → TmR ρ tm tmps → DL ρ df ds → OR ρ pan pan' → LeavesInM Fence.wide 0 E.P fn tmps (KPost E.G N0 w0 ρ H r) ds (modeOf pan') w by
    cases r <;> first | exact trivial | exact hs
  intro ρ tmps ds pan' w W ht hd hp
  cases df with
  | nil =>
    cases hd
    simp only [sLeave] at hR
    cases pan with
    | none =>
      cases hp
      simp only [lPan] at hR
      cases hra : resAll E tm H fn.results.toList with
      | none => rw [hra] at hR; exact absurd hR.symm hf
      | some vs =>
        rw [hra] at hR
        simp only [lRes] at hR
        subst hR
        obtain ⟨v', h1, h2⟩ := results_sound ok W ht hra
        exact ⟨v', h1, ρ, v', rfl, h2, W, .refl _ _⟩
    | some v =>
      obtain ⟨v', rfl, hv⟩ := hp
      simp only [lPan] at hR
      subst hR
      exact ⟨ρ, v', rfl, hv, W, .refl _ _⟩
  | cons c df =>
    cases hd with
    | @cons _ d _ ds hdr hdl =>
      have hrun : modeOf pan' ≠ .run := by cases pan' <;> simp [modeOf]
      refine ⟨hrun, ?_⟩
      cases c with
      | coll b =>
        obtain ⟨m, hm, rfl⟩ := hdr
        simp only [sLeave] at hR
        unfold lColl at hR
        split at hR
        · rename_i hg
          have ob := W.obj b _ m hg (by simp) hm
          cases ob with
          | defd hb =>
            have ht' := setObj_turned hb (.deferred none)
            have W1 : WR E.G N0 w0 ρ (H.put b .dead) (w.putObj m.blk (.deferred none)) := W.upd hg (by simp) (by simp [roOf]) hm (by simp [roOf]) ht'.os ht'.tape ht'.output ht'.size ht'.other (fun h => absurd rfl h)
            refine .inl ⟨m.blk, w.putObj m.blk (.deferred none), rfl, run_takeDeferred hb, ?_⟩
            exact LeavesInM.mono (fun e w h => h.trans (Ext.put W hm _)) _ _ _ (leave_of hrec hR hf W1 ht hdl hp)
        · exact absurd hR.symm hf
      | call f args =>
        obtain ⟨cap, htar, ha⟩ := hdr
        simp only [sLeave] at hR
        unfold lDef at hR
        split at hR
        · rename_i g hg
          obtain ⟨h1, _⟩ := ok.ft _ _ hg
          unfold dBody at hR
          split at hR
          · rename_i id ops k hbody
            cases hle : Nat.ble args.length g.ntmps with
            | false => rw [hle] at hR; exact absurd hR.symm hf
            | true =>
              rw [hle] at hR
              simp only [cond_true] at hR
              have ha' : VL ρ args (d.args ++ cap).toList := by simpa using ha
              have hcall := ccall_sound ok W ha' (f := f) (cn := .enter f args) (H' := H) (by unfold ccall; rw [hg]; simp only [ccallB, hbody])
              obtain ⟨args', hc1, hc2, _⟩ := hcall
              refine .inr ⟨fun h => (by cases h), .func f, cap, f, args', htar, ?_, fun _ _ => trivial, ?_⟩
              · rw [htar]; exact hc1
              · refine callsDIn_of_wpSIn h1 hbody trivial fun c₀ cs hmode => ?_
                have S := enter_SR (E := E) W hc2 (ble_le hle)
                refine wpSIn_seq (wpSIn_region ?_)
                cases hl : ops.toList with
                | nil => rw [hl] at hR; exact absurd hR.symm hf
                | cons o rest =>
                  rw [hl] at hR
                  simp only [dRow] at hR
                  cases hrc : (isRecover o.op && o.guard.isNone) with
                  | false => rw [hrc] at hR; exact absurd hR.symm hf
                  | true =>
                    rw [hrc] at hR
                    simp only [cond_true] at hR
                    simp only [Bool.and_eq_true] at hrc
                    have hsz : ops.size = rest.length + 1 := by have := congrArg List.length hl; simpa using this
                    have ho : ops[0]? = some o := by rw [← Array.getElem?_toList, hl]; rfl
                    rw [List.range_eq_range', hsz]
                    simp only [List.range'_succ, wpOpsSIn, ho]
                    refine ⟨fun _ _ => trivial, ?_⟩
                    have hgn : o.guard = none := by have := hrc.2; cases h : o.guard <;> simp_all
                    have hwt : ∀ y, Region.wanted o y = true := by intro y; unfold Region.wanted; rw [hgn]
                    rw [if_pos (hwt _)]
                    have hex : ∀ ρr, (execOp ρr o).run E.P w = .ok .recover w := by
                      intro ρr
                      have := hrc.1
                      unfold isRecover at this
                      split at this
                      · rename_i c hop
                        split at this
                        · rename_i hcal
                          unfold execOp
                          rw [hop]
                          simp only [resolve, hcal, Sem.run_bind, run_pure, Result.andThen, invoke, builtin]
                        · cases this
                      · cases this
                    rw [hex]
                    dsimp only
                    split at hR
                    · rename_i tm1 htm1
                      unfold dRest at hR
                      split at hR
                      · rename_i tm0 htm0
                        cases hrs : Nat.beq g.results.size 0 with
                        | false => rw [hrs] at hR; exact absurd hR.symm hf
                        | true =>
                          rw [hrs] at hR
                          simp only [cond_true] at hR
                          rcases not_code hrec (c := k) (C := ⟨g.ntmps, none⟩) (s := ⟨tm0, [], H⟩) rfl with hx | ⟨e1, s1, hx⟩
                          · rw [hx] at hR; exact absurd hR.symm hf
                          · have hcode := code_of hrec hx
                            rw [hx] at hR
                            have hres : ∀ t, (results g t).run E.P w = .ok (.tuple #[]) w ∧ ∀ w', (results g t).run E.P w' = .ok (.tuple #[]) w' := by
                              intro t
                              have : g.results = #[] := by have := beq_eq hrs; exact Array.eq_empty_of_size_eq_zero this
                              constructor <;> (try intro w') <;> (rw [results_eq, this]; rfl)
                            -- the rest, in whatever way the caller stands
                            have fin : ∀ (c1 : FrameMode) (v' : Value), VR ρ (recV pan) v' → settle c1 = .returning →
                                wpOpsSIn Fence.wide 0 E.P ops (Exit.thenS (k.wpSIn Fence.wide 0 E.P (bodyPostS E.P g c₀ cs fun
                                  | .returned _, u', w' => LeavesInM Fence.wide 0 E.P fn tmps (KPost E.G N0 w0 ρ H r) ds (settle u') w'
                                  | .panicked chain, u', w' => LeavesInM Fence.wide 0 E.P fn tmps (KPost E.G N0 w0 ρ H r) ds (raised u' chain) w'
                                  | .outgrown, _, w' => KPost E.G N0 w0 ρ H r .outgrown w')) (bodyPostS E.P g c₀ cs fun
                                  | .returned _, u', w' => LeavesInM Fence.wide 0 E.P fn tmps (KPost E.G N0 w0 ρ H r) ds (settle u') w'
                                  | .panicked chain, u', w' => LeavesInM Fence.wide 0 E.P fn tmps (KPost E.G N0 w0 ρ H r) ds (raised u' chain) w'
                                  | .outgrown, _, w' => KPost E.G N0 w0 ρ H r .outgrown w')) (List.range' (0 + 1) rest.length)
                                  (({ tmps := args' ++ Array.replicate (g.ntmps - args'.size) undef, defers := [] } : Act).put o.dst v') ({ c₀ with mode := c1 } :: cs) w := by
                              intro c1 v' hv hset
                              obtain ⟨g1, g2, g3⟩ := TmR.put htm1 S.nt S.tm hv
                              have hdrop : ops.toList.drop (0 + 1) = rest := by rw [hl]; rfl
                              refine runS_sound ok W rest.length (0 + 1) tm1 tm0 _ (by omega) (by rw [hdrop]; exact htm0) g1 g2 ?_
                              intro a' k1 k2 k3
                              refine wpSIn_of_wpIn rfl ?_
                              refine wpIn_mono (hcode ρ none a' w ⟨W, k2, k1, by rw [k3, g3]; exact .nil⟩ rfl) ?_
                              intro x a2 w2 hq
                              obtain ⟨ρ2, q1, q2, q3⟩ := hq
                              unfold dEnd at hR
                              dsimp only at hR
                              split at hR
                              · rename_i hdf
                                have hds : a2.defers = [] := by have := q2.df; rw [hdf] at this; cases h : a2.defers with | nil => rfl | cons _ _ => rw [h] at this; cases this
                                have hgo : rec (.leave fn tm df none s1.H) = r → LeavesInM Fence.wide 0 E.P fn tmps (KPost E.G N0 w0 ρ H r) ds (settle c1) w2 := by
                                  intro hR'
                                  rw [hset]
                                  exact LeavesInM.mono (fun e w h => h.trans q3) _ _ _ (leave_of hrec hR' hf (pan' := none) q2.wr (ht.mono q3.keep) (hdl.mono q3.keep) rfl)
                                cases q1 with
                                | normal => exact ⟨hds, c1, rfl, _, (hres _).2 _, hgo hR⟩
                                | ret => exact ⟨hds, c1, rfl, _, (hres _).2 _, hgo hR⟩
                                | exit j => exact absurd hR.symm hf
                                | goto j => exact absurd hR.symm hf
                                | panic _ => exact absurd hR.symm hf
                              · exact absurd hR.symm hf
                            cases pan with
                            | none =>
                              cases hp
                              have hm : c₀.mode = .returning := hmode
                              have : recoverD (c₀ :: cs) = none := by simp [recoverD, hm]
                              rw [this]
                              have := fin .returning .nilIface .nili rfl
                              have hc0 : ({ c₀ with mode := .returning } : Frame) = c₀ := by rw [← hm]
                              rw [hc0] at this
                              exact this
                            | some v =>
                              obtain ⟨v', rfl, hv⟩ := hp
                              have hm : c₀.mode = .panicking [{ v := v', recovered := false }] := hmode
                              have : recoverD (c₀ :: cs) = some (v', { c₀ with mode := .panicking [{ v := v', recovered := true }] } :: cs) := by simp [recoverD, hm]
                              rw [this]
                              exact fin _ v' hv rfl
                      · exact absurd hR.symm hf
                    · exact absurd hR.symm hf
          · exact absurd hR.symm hf
        · exact absurd hR.symm hf
end
end Go.PE
namespace Go.PE
open Go Go.RowKit
section
variable {E : Env} {N0 : Nat} {w0 w : World} {ρ : RM} {H : Hp} {rec : Rec}
theorem rParams_sound : ∀ (nt : Nat) (ps : List Nat) (args : List Value) (tm tm1 : Tr Value) (args' : List Value) (tmps : Array Value), rParams nt tm ps args = some tm1 → VL ρ args args' → TmR ρ tm tmps → tmps.size = nt →
    TmR ρ tm1 ((ps.zip args').foldl (fun t x => t.setIfInBounds x.1 x.2) tmps) ∧ ((ps.zip args').foldl (fun t x => t.setIfInBounds x.1 x.2) tmps).size = nt ∧ args'.length = ps.length := by
  intro nt ps
  induction ps with
  | nil =>
    intro args tm tm1 args' tmps h ha ht hn
    cases args with
    | nil => simp only [rParams, Option.some.injEq] at h; subst h; have := ha.unnil; subst this; exact ⟨ht, hn, rfl⟩
    | cons _ _ => simp [rParams] at h
  | cons p ps ih =>
    intro args tm tm1 args' tmps h ha ht hn
    cases args with
    | nil => simp [rParams] at h
    | cons v vs =>
      obtain ⟨v', vs', rfl, h1, h2⟩ := ha.uncons
      simp only [rParams] at h
      obtain ⟨hp, h⟩ := bif_some h
      have hput : put nt v tm (some p) = some (tm.set p v) := by simp only [put, hp, cond_true]
      obtain ⟨g1, g2, _⟩ := TmR.put (a := { tmps := tmps, defers := [] }) hput hn ht h1
      have := ih vs (tm.set p v) tm1 vs' (tmps.setIfInBounds p v') h h2 g1 g2
      refine ⟨this.1, this.2.1, ?_⟩
      simp [this.2.2]
theorem loop_obj {G : Nat → Option Nat} (W : WR G N0 w0 ρ H w) {l : Nat} {m : BM} {nt d : Nat} {tm : Tr Value} {ps : List Nat} {as bd : Code} {st : LoopState} {pend : Option Code} (hg : H.get l = some (.loop nt tm ps as bd st pend d)) (hm : ρ l = some m) :
    ∃ r md, w.heap[m.blk]? = some (.loop r) ∧ r.state = st ∧ r.pending = pend ∧ r.params = ps.toArray ∧ r.assign = as ∧ r.body = bd ∧ r.defers = md.blk ∧ ρ d = some md ∧ TmR ρ tm r.tmps ∧ r.tmps.size = nt := by
  have ob := W.obj l _ m hg (by simp) hm
  cases ob with
  | loop hb hn ht hd => exact ⟨_, _, hb, rfl, rfl, rfl, rfl, rfl, rfl, hd, ht, hn⟩
/-- the record turned on both sides -/
theorem loop_upd {G : Nat → Option Nat} (W : WR G N0 w0 ρ H w) {l : Nat} {m : BM} {nt d : Nat} {tm : Tr Value} {ps : List Nat} {as bd : Code} {st : LoopState} {pend : Option Code} (hg : H.get l = some (.loop nt tm ps as bd st pend d)) (hm : ρ l = some m)
    {r : Loop} (hb : w.heap[m.blk]? = some (.loop r)) (st' : LoopState) (pend' : Option Code) :
    Out G N0 w0 ρ H ρ (H.put l (.loop nt tm ps as bd st' pend' d)) (w.putObj m.blk (.loop { r with state := st', pending := pend' })) := by
  obtain ⟨r', md, h0, h1, h2, h3, h4, h5, h6, h7, h8, h9⟩ := loop_obj W hg hm
  rw [hb] at h0
  cases h0
  have ht := setObj_turned hb (.loop { r with state := st', pending := pend' })
  refine W.objUpd hg (by simp) (by simp [roOf]) (by simp [roOf]) hm ht ?_
  have e : (Obj.loop { r with state := st', pending := pend' }) = .loop { state := st', pending := pend', fn := r.fn, tmps := r.tmps, params := ps.toArray, assign := as, body := bd, defers := md.blk } := by rw [← h3, ← h4, ← h5, ← h6]
  exact .loop (ht.same.trans (congrArg some e)) h9 h8 h7
theorem round_ok (hrec : SoundRec E N0 w0 rec) {l : Nat} {args : List Value} : Sound E N0 w0 (.round l args H) (sRound rec l args H (H.get l)) := by
  generalize hR : sRound rec l args H (H.get l) = r
  by_cases hf : r = .fail
  · subst hf; exact trivial
  suffices hs : ∀ ρ args' w m, WR E.G N0 w0 ρ H w → ρ l = some m → VL ρ args args'.toList → ∃ f t as bd, (Instr.yield m.blk args').run E.P w = .ok (.round m.blk f t as bd) w ∧ RoundIn Fence.wide 0 E.P m.blk f t as bd w (KPost E.G N0 w0 ρ H r) by
    cases r <;> first | exact trivial | exact hs
  intro ρ args' w m W hm ha
  unfold sRound at hR
  split at hR
  · rename_i nt tm ps as bd st pend d hg
    obtain ⟨rl, md, hb, _, _, h3, h4, h5, _, _, h8, h9⟩ := loop_obj W hg hm
    cases hp : rParams nt tm ps args with
    | none => rw [hp] at hR; exact absurd hR.symm hf
    | some tm1 =>
      rw [hp] at hR
      simp only [rStart] at hR
      obtain ⟨g1, g2, g3⟩ := rParams_sound nt ps args tm tm1 args'.toList rl.tmps hp ha h8 h9
      have hsz : args'.size = rl.params.size := by rw [h3]; simpa using g3
      refine ⟨rl.fn, _, rl.assign, rl.body, run_yield hb hsz, ?_⟩
      have hfold : (rl.params.zip args').foldl (fun tmps (t, a) => tmps.setIfInBounds t a) rl.tmps = (ps.zip args'.toList).foldl (fun t x => t.setIfInBounds x.1 x.2) rl.tmps := by
        rw [h3, ← Array.foldl_toList, Array.toList_zip]
      rw [hfold, h4, h5]
      rcases not_code hrec (c := as) (C := ⟨nt, some l⟩) (s := ⟨tm1, [], H⟩) rfl with hx | ⟨e1, s1, hx⟩
      · rw [hx] at hR; exact absurd hR.symm hf
      · have hc := code_of hrec hx
        rw [hx] at hR
        refine roundIn_of_wpIn trivial ?_
        refine wpIn_mono (hc ρ (some m.blk) _ w ⟨W, g2, g1, .nil⟩ ⟨m, hm, rfl⟩) ?_
        intro x a1 w1 hq
        obtain ⟨ρ1, q1, q2, q3⟩ := hq
        cases q1 with
        | normal =>
          simp only [rBody] at hR
          unfold rBody2 at hR
          split at hR
          · rename_i nt' tm' ps' as' bd' st' pend' d' hg1
            cases hst : isReady st' with
            | false => rw [hst] at hR; exact absurd hR.symm hf
            | true =>
              rw [hst] at hR
              simp only [cond_true] at hR
              have hst' : st' = .ready := by cases st' <;> first | rfl | cases hst
              subst hst'
              have hm1 := q3.keep _ _ hm
              obtain ⟨r1, md1, hb1, k1, _⟩ := loop_obj q2.wr hg1 hm1
              have O := loop_upd q2.wr hg1 hm1 hb1 .busy pend'
              have hpe : r1.pending = pend' := by obtain ⟨r2, _, hb2, _, k2, _⟩ := loop_obj q2.wr hg1 hm1; rw [hb1] at hb2; cases hb2; exact k2
              have hre : ({ r1 with state := .busy, pending := pend' } : Loop) = { r1 with state := .busy } := by rw [← hpe]
              rw [hre] at O
              refine ⟨_, run_beginRound hb1 k1, ?_⟩
              rcases not_code hrec (c := bd) (C := ⟨nt, some l⟩) (s := ⟨s1.tm, s1.df, s1.H.put l (.loop nt' tm' ps' as' bd' .busy pend' d')⟩) rfl with hy | ⟨e2, s2, hy⟩
              · rw [hy] at hR; exact absurd hR.symm hf
              · have hc2 := code_of hrec hy
                rw [hy] at hR
                refine wpIn_mono (hc2 ρ1 (some m.blk) a1 _ ⟨O.wr, q2.nt, q2.tm, q2.df⟩ ⟨m, hm1, rfl⟩) ?_
                intro x2 a2 w2 hq2
                obtain ⟨ρ2, u1, u2, u3⟩ := hq2
                have hm2 := u3.keep _ _ hm1
                simp only [rEnd] at hR
                unfold rEnd2 at hR
                split at hR
                · rename_i nt2 tm2 ps2 as2 bd2 st2 pend2 d2 hg2
                  obtain ⟨r3, _, hb3, _⟩ := loop_obj u2.wr hg2 hm2
                  have X2 : Ext ρ H ρ2 s2.H := (q3.trans O.ext).trans u3
                  have fin : ∀ (j : Option Code) (st3 : LoopState), st3 = (if j.isNone then .ready else .done) → r = .out (.bool j.isNone) (s2.H.put l (.loop nt2 tm2 ps2 as2 bd2 st3 j d2)) →
                      ∃ v w', (Instr.endRound m.blk j).run E.P w2 = .ok v w' ∧ KPost E.G N0 w0 ρ H r (.returned v) w' := by
                    intro j st3 hst3 hr
                    subst hst3 hr
                    have O2 := loop_upd u2.wr hg2 hm2 hb3 (if j.isNone then .ready else .done) j
                    exact ⟨_, _, run_endRound j hb3, ρ2, _, rfl, .bool _, O2.wr, X2.trans O2.ext⟩
                  cases u1 with
                  | normal => exact fin none .ready rfl hR.symm
                  | exit id => exact fin (some (.exit id)) .done rfl hR.symm
                  | goto t => exact fin (some (.goto t)) .done rfl hR.symm
                  | ret => exact fin (some .ret) .done rfl hR.symm
                  | panic _ => exact absurd hR.symm hf
                · exact absurd hR.symm hf
          · exact absurd hR.symm hf
        | exit id => exact absurd hR.symm hf
        | goto t => exact absurd hR.symm hf
        | ret => exact absurd hR.symm hf
        | panic _ => exact absurd hR.symm hf
  · exact absurd hR.symm hf
end
end Go.PE
namespace Go.PE
open Go Go.RowKit
section
variable {E : Env} {N0 : Nat} {w0 w : World} {ρ : RM} {C : Ctx} {s : St} {a : Act} {rec : Rec}
theorem push2 (a : Array Obj) (x y : Obj) : ((a.push x).push y)[a.size + 1]? = some y := by
  have : a.size + 1 = (a.push x).size := by simp
  rw [this, Array.getElem?_push, if_pos rfl]
theorem yieldV_rel {l : Nat} {m : BM} (h : ρ l = some m) : VR ρ (yieldV l) (.func (.yield m.blk) #[] #[]) := .yield h
/-- the call of the function, and what comes behind it -/
theorem rfCall_ok (ok : EnvOk E) (hrec : SoundRec E N0 w0 rec) {f : Operand} {l : Nat} {H1 : Hp} {tm : Tr Value} {df : List CD} {fv : Value} {e : Ex} {s' : St} (h : rfCall E rec C tm df l H1 fv = .code e s')
    {ρ1 : RM} {a1 : Act} {w1 : World} {rr : Option Nat} (S1 : SR E.G N0 w0 C ⟨tm, df, H1⟩ ρ1 a1 w1) (hrd : RdR ρ1 C.rd rr) {m : BM} (hm : ρ1 l = some m) {g : Value} (hg : VR ρ1 fv g) {ρr : Operand → Value} (hρr : ρr f = g) (hcon : ∀ v, ρr (.const v) = v) :
    ∃ (d : Deferred) (fn : FuncId) (args : Array Value), (resolve ρr (rangeCall f m.blk) 0).run E.P w1 = .ok d w1 ∧ (invoke d.target d.args).run E.P w1 = .ok (.enter fn args) w1 ∧
      CallsIn (FW rr) 0 E.P fn args w1 (rangePost (FW rr) 0 E.P m.blk (CPost E.G N0 w0 C ρ1 H1 e s') a1) := by
  unfold rfCall at h
  split at h
  · rename_i gf first caps
    obtain ⟨hbd, h⟩ : hasBody (E.ft.get gf) = true ∧ rfEnd rec C tm df l (rec (.call gf (first.toList ++ yieldV l :: caps.toList) H1)) = .code e s' := by
      cases hb : hasBody (E.ft.get gf) with
      | true => rw [hb] at h; exact ⟨rfl, h⟩
      | false => rw [hb] at h; cases h
    cases hg with
    | @func _ _ a' _ c' hs1 hs2 g1 g2 =>
      have hargs : VL ρ1 (first.toList ++ yieldV l :: caps.toList) (a' ++ #[Value.func (.yield m.blk) #[] #[]] ++ c').toList := by
        have := (VL.of_agg hs1 g1).append (.cons (yieldV_rel hm) (VL.of_agg hs2 g2))
        simpa using this
      unfold hasBody at hbd
      split at hbd
      · rename_i fn hfn
        obtain ⟨b, hb⟩ := Option.isSome_iff_exists.1 hbd
        have hcall := ccall_sound ok S1.wr hargs (f := gf) (cn := .enter gf (first.toList ++ yieldV l :: caps.toList)) (H' := H1) (by unfold ccall; rw [hfn]; simp only [ccallB, hb])
        obtain ⟨args', hc1, hc2, _⟩ := hcall
        refine ⟨{ target := .fn (.func gf) c', args := a' ++ #[.func (.yield m.blk) #[] #[]] }, gf, args', ?_, hc1, ?_⟩
        · simp [resolve, hρr, hcon, Deferred.ofValue]
        · have hne : rec (.call gf (first.toList ++ yieldV l :: caps.toList) H1) ≠ .fail := by intro hx; rw [hx] at h; cases h
          refine callsIn_FW (CallsIn.mono (call_sound hrec S1.wr hc2 hne) ?_)
          intro en w2 hp
          generalize rec (.call gf (first.toList ++ yieldV l :: caps.toList) H1) = r at h hp
          cases r with
          | fail => exact hp.elim
          | code _ _ => exact hp.elim
          | pan v H2 =>
            obtain ⟨ρ2, v', rfl, hv, W2, X2⟩ := hp
            simp only [rfEnd, Res.code.injEq] at h
            obtain ⟨rfl, rfl⟩ := h
            exact ⟨ρ2, .panic hv, ⟨W2, S1.nt, S1.tm.mono X2.keep, S1.df.mono X2.keep⟩, X2⟩
          | out v H2 =>
            obtain ⟨ρ2, v', rfl, hv, W2, X2⟩ := hp
            have h : rfEnd2 rec C tm df l H2 (H2.get l) = .code e s' := h
            unfold rfEnd2 at h
            split at h
            · rename_i nt2 tm2 ps2 as2 bd2 st2 pend2 d2 hg2
              cases hbz : isBusy st2 with
              | true => rw [hbz] at h; cases h
              | false =>
                rw [hbz] at h
                simp only [cond_false] at h
                have hm2 := X2.keep _ _ hm
                obtain ⟨r2, _, hb2, k1, k2, _⟩ := loop_obj W2 hg2 hm2
                have O := loop_upd W2 hg2 hm2 hb2 .exhausted pend2
                have hre : ({ r2 with state := .exhausted, pending := pend2 } : Loop) = { r2 with state := .exhausted } := by rw [← k2]
                rw [hre] at O
                have hnb : r2.state ≠ .busy := by rw [k1]; intro e; rw [e] at hbz; cases hbz
                have S2 : SR E.G N0 w0 C ⟨tm, df, H2.put l (.loop nt2 tm2 ps2 as2 bd2 .exhausted pend2 d2)⟩ ρ2 a1 (w2.putObj m.blk (.loop { r2 with state := .exhausted })) := ⟨O.wr, S1.nt, S1.tm.mono X2.keep, S1.df.mono X2.keep⟩
                refine ⟨pend2, w2.putObj m.blk (.loop { r2 with state := .exhausted }), (run_endLoop hb2 hnb).trans (congrArg (fun p => Result.ok p (w2.putObj m.blk (.loop { r2 with state := .exhausted }))) k2), ?_⟩
                cases pend2 with
                | none =>
                  simp only [rfJump, Res.code.injEq] at h
                  obtain ⟨rfl, rfl⟩ := h
                  exact ⟨ρ2, .normal, S2, X2.trans O.ext⟩
                | some c =>
                  have hc := code_of hrec h
                  refine wpIn_mono (hc ρ2 rr a1 _ S2 (hrd.mono X2.keep)) ?_
                  intro x a3 w3 hq
                  exact hq.trans (X2.trans O.ext)
            · cases h
      · cases hbd
  · cases h
theorem range_ok (ok : EnvOk E) (hrec : SoundRec E N0 w0 rec) {f : Operand} {ps : Array Tmp} {assign body : Code} {e : Ex} {s' : St} (h : sRange E rec C f ps assign body s C.rd = .code e s') : CodeOk E N0 w0 C (.rangeFunc f ps assign body) s e s' := by
  intro ρ rr a w S hrd
  refine wpIn_rangeFunc fun fn _ => ?_
  cases hC : C.rd with
  | none =>
    rw [hC] at h hrd
    cases hrd
    simp only [sRange] at h
    -- the block for the rounds' deferred calls, and the record
    have hn1 := RM.add_same ρ s.H.n ⟨w.heap.size, 0, 0, none⟩
    have W1 := S.wr.new (o := .defd) (x := .deferred (some [])) (m := ⟨w.heap.size, 0, 0, none⟩) rfl (by simp [roOf]) (.defd (by simp))
    have X1 := Ext.new S.wr .defd ⟨w.heap.size, 0, 0, none⟩
    have hle1 := X1.keep
    generalize hρ1 : ρ.add s.H.n ⟨w.heap.size, 0, 0, none⟩ = ρ1 at hn1 W1 X1 hle1
    have hn2 := RM.add_same ρ1 (s.H.new .defd).n ⟨w.heap.size + 1, 0, 0, none⟩
    have hpl : ps.toList.toArray = ps := by simp
    have X2 := Ext.new W1 (.loop C.nt s.tm ps.toList assign body .ready none s.H.n) ⟨w.heap.size + 1, 0, 0, none⟩
    have hle2 := X2.keep
    have W2 := W1.new (o := .loop C.nt s.tm ps.toList assign body .ready none s.H.n) (x := .loop { state := .ready, pending := none, fn := fn, tmps := a.tmps, params := ps, assign := assign, body := body, defers := w.heap.size }) (m := ⟨w.heap.size + 1, 0, 0, none⟩) (by simp) (by simp [roOf])
      (.loop (fn := fn) (md := ⟨w.heap.size, 0, 0, none⟩) (by rw [hpl]; exact push2 _ _ _) S.nt ((S.tm.mono hle1).mono hle2) (hle2 _ _ hn1))
    generalize hρ2 : ρ1.add (s.H.new .defd).n ⟨w.heap.size + 1, 0, 0, none⟩ = ρ2 at hn2 W2 X2 hle2
    have S2 : SR E.G N0 w0 C ⟨s.tm, .coll s.H.n :: s.df, (s.H.new .defd).new (.loop C.nt s.tm ps.toList assign body .ready none s.H.n)⟩ ρ2
        { a with defers := [{ target := .collected w.heap.size, args := #[] }] ++ a.defers } ((w.alloc (.deferred (some []))).alloc (.loop { state := .ready, pending := none, fn := fn, tmps := a.tmps, params := ps, assign := assign, body := body, defers := w.heap.size })) :=
      ⟨W2, S.nt, (S.tm.mono hle1).mono hle2, .cons ⟨_, hle2 _ _ hn1, rfl⟩ ((S.df.mono hle1).mono hle2)⟩
    have hg := ((evalO_rel (E := E) ok.gG S.wr S.tm f).mono hle1).mono hle2
    obtain ⟨d, gf, args, e1, e2, e3⟩ := rfCall_ok ok hrec h S2 (rr := none) (by rw [hC]; rfl) hn2 hg (ρr := a.eval) rfl (fun _ => rfl)
    refine ⟨w.heap.size + 1, _, _, d, _, gf, args, _, run_enterLoop_outer fn a.tmps ps assign body, e1, fun _ _ => trivial, e2, fun h => (by cases h), CallsIn.mono e3 ?_⟩
    intro en w3 hp
    have X : Ext ρ s.H ρ2 ((s.H.new .defd).new (.loop C.nt s.tm ps.toList assign body .ready none s.H.n)) := X1.trans X2
    cases en with
    | returned v =>
      obtain ⟨jump, w4, g1, g2⟩ := hp
      refine ⟨jump, w4, g1, ?_⟩
      cases jump with
      | none => exact CPost.trans X g2
      | some c => exact wpIn_mono g2 fun x a' w' h => h.trans X
    | panicked ch => exact CPost.trans X hp
    | outgrown => obtain ⟨a0, w00, hq⟩ := hp; exact ⟨a0, w00, CPost.trans X hq⟩
  | some l0 =>
    rw [hC] at h hrd
    obtain ⟨m0, hm0, rfl⟩ := hrd
    simp only [sRange] at h
    unfold sRangeIn at h
    split at h
    · rename_i nt0 tm0 ps0 as0 bd0 st0 pend0 d0 hg0
      obtain ⟨r0, md0, hb0, _, _, _, _, _, k6, k7, _⟩ := loop_obj S.wr hg0 hm0
      have hn2 := RM.add_same ρ s.H.n ⟨w.heap.size, 0, 0, none⟩
      have hpl : ps.toList.toArray = ps := by simp
      have X2 := Ext.new S.wr (.loop C.nt s.tm ps.toList assign body .ready none d0) ⟨w.heap.size, 0, 0, none⟩
      have hle2 := X2.keep
      have W2 := S.wr.new (o := .loop C.nt s.tm ps.toList assign body .ready none d0) (x := .loop { state := .ready, pending := none, fn := fn, tmps := a.tmps, params := ps, assign := assign, body := body, defers := r0.defers }) (m := ⟨w.heap.size, 0, 0, none⟩) rfl (by simp [roOf])
        (.loop (fn := fn) (md := md0) (by rw [hpl, k6]; simp) S.nt (S.tm.mono hle2) (hle2 _ _ k7))
      generalize hρ2 : ρ.add s.H.n ⟨w.heap.size, 0, 0, none⟩ = ρ2 at hn2 W2 X2 hle2
      have S2 : SR E.G N0 w0 C ⟨s.tm, s.df, s.H.new (.loop C.nt s.tm ps.toList assign body .ready none d0)⟩ ρ2 { a with defers := [] ++ a.defers }
          (w.alloc (.loop { state := .ready, pending := none, fn := fn, tmps := a.tmps, params := ps, assign := assign, body := body, defers := r0.defers })) := ⟨W2, S.nt, S.tm.mono hle2, S.df.mono hle2⟩
      have hg := (evalO_rel (E := E) ok.gG S.wr S.tm f).mono hle2
      obtain ⟨d, gf, args, e1, e2, e3⟩ := rfCall_ok ok hrec h S2 (rr := some m0.blk) (by rw [hC]; exact ⟨m0, hle2 _ _ hm0, rfl⟩) hn2 hg (ρr := a.eval) rfl (fun _ => rfl)
      refine ⟨w.heap.size, _, _, d, _, gf, args, _, run_enterLoop_inner hb0 fn a.tmps ps assign body, e1, fun _ _ => trivial, e2, fun h => (by cases h), CallsIn.mono e3 ?_⟩
      intro en w3 hp
      cases en with
      | returned v =>
        obtain ⟨jump, w4, g1, g2⟩ := hp
        refine ⟨jump, w4, g1, ?_⟩
        cases jump with
        | none => exact CPost.trans X2 g2
        | some c => exact wpIn_mono g2 fun x a' w' h => h.trans X2
      | panicked ch => exact CPost.trans X2 hp
      | outgrown => obtain ⟨a0, w00, hq⟩ := hp; exact ⟨a0, w00, CPost.trans X2 hq⟩
    · cases h
end
end Go.PE
