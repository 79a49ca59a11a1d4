/- The evaluator of runs of the model: what it answers is what the program does (no statement of the program is proved here). -/
import Derived.Test.YtoanfmlpddlcmaaGreatDoorPEb
import Derived.Laws.Externs
namespace Go.PE
open Go Go.RowKit
theorem partsV_congr {ρ ρ' : Operand → Value} {parts : Array (Nat × Operand)} (h : ∀ x ∈ (parts.toList.map (·.2)).toArray, ρ x = ρ' x) : partsV ρ parts = partsV ρ' parts := by
  unfold partsV
  refine List.map_congr_left fun p hp => ?_
  rw [h p.2 (by simpa using ⟨p.1, by simpa using hp⟩)]
theorem optmap_congr {ρ ρ' : Operand → Value} {o : Option Operand} (h : ∀ x ∈ o.toArray, ρ x = ρ' x) : o.map ρ = o.map ρ' := by
  cases o with
  | none => rfl
  | some x => simp only [Option.map_some]; rw [h x (by simp)]
theorem cexec_congr {E : Env} {ρ ρ' : Operand → Value} {H : Hp} (op : Op) (h : ∀ x ∈ op.operands, ρ x = ρ' x) : cexec E ρ H op = cexec E ρ' H op := by
  cases op <;> try rfl
  case build t ps => simp only [cexec]; rw [partsV_congr h]
  case buildSlice t n ps => simp only [cexec]; rw [partsV_congr h]
  case makeFunc f first caps =>
    simp only [cexec]
    rw [Array.map_congr_left (f := ρ) (g := ρ') fun x hx => h x (by simp [Op.operands, hx]), Array.map_congr_left (f := ρ) (g := ρ') (xs := caps) fun x hx => h x (by simp [Op.operands, hx])]
  case slice t x lo hi mx =>
    simp only [cexec]
    rw [h x (by simp [Op.operands]), optmap_congr (o := lo) fun y hy => h y (by simp only [Op.operands, Array.mem_append]; exact .inl (.inl (.inr hy))), optmap_congr (o := hi) fun y hy => h y (by simp only [Op.operands, Array.mem_append]; exact .inl (.inr hy))]
  case call c =>
    have hargs : c.args.toList.map ρ = c.args.toList.map ρ' := List.map_congr_left fun x hx => h x (by simp only [Op.operands, Call.operands, Array.mem_append]; exact .inr (by simpa using hx))
    simp only [cexec, xcall]
    rw [hargs]
    cases hc : c.callee with
    | value f => dsimp only; rw [h f (by simp [Op.operands, Call.operands, hc])]
    | _ => rfl
  case defer c =>
    have hargs : c.args.toList.map ρ = c.args.toList.map ρ' := List.map_congr_left fun x hx => h x (by simp only [Op.operands, Call.operands, Array.mem_append]; exact .inr (by simpa using hx))
    simp only [cexec, xdefer]
    rw [hargs]
    cases hc : c.callee with
    | value f => dsimp only; rw [h f (by simp [Op.operands, Call.operands, hc])]
    | _ => rfl
  all_goals (simp only [cexec]; simp only [Op.operands] at h; simp [h])
/-! ### operations that look at no heap -/
def Pf (f : Hp → OX) : Prop := ∃ X : Option Value, ∀ H, f H = oval H X
theorem xpick_pf (a b c : Value) : Pf fun H => xpick H a b c := by
  cases c <;> first | exact ⟨none, fun _ => rfl⟩ | skip
  rename_i b'
  cases b' <;> exact ⟨some _, fun _ => rfl⟩
theorem xnil_pf (x : Value) : Pf fun H => xnil H x := by
  cases x <;> first | exact ⟨none, fun _ => rfl⟩ | skip
  · rename_i p; cases p <;> first | exact ⟨none, fun _ => rfl⟩ | exact ⟨some _, fun _ => rfl⟩
  · rename_i f a b; cases f <;> first | exact ⟨none, fun _ => rfl⟩ | exact ⟨some _, fun _ => rfl⟩
theorem bif_pf {b : Bool} {f g : Hp → OX} (hf : Pf f) (hg : Pf g) : Pf fun H => bif b then f H else g H := by
  cases b <;> assumption
theorem none_pf : Pf fun _ => none := ⟨none, fun _ => rfl⟩
theorem xval_pf (v : Value) : Pf fun H => xval H v := ⟨some v, fun _ => rfl⟩
theorem oval_pf (v : Option Value) : Pf fun H => oval H v := ⟨v, fun _ => rfl⟩
theorem xiface_pf (t : Nat) (v : Value) (ti : Option TI) : Pf fun H => xiface t v H ti := by
  cases ti with
  | none => exact none_pf
  | some ti => exact bif_pf none_pf (xval_pf _)
theorem xmakeFunc_pf (a b : Array Value) (f : Fn) : Pf fun H => xmakeFunc H a b f := by
  cases f <;> first | exact none_pf | exact xval_pf _
theorem xfieldAddr_pf (f : Nat) (ti : Option TI) (a : Value) : Pf fun H => xfieldAddr f H ti a := by
  cases ti with
  | none => exact none_pf
  | some ti =>
    cases a <;> first | exact none_pf | skip
    rename_i p
    cases p with
    | none => exact none_pf
    | some p =>
      obtain ⟨b, off, sp⟩ := p
      cases sp with
      | some _ => exact none_pf
      | none =>
        refine bif_pf ?_ none_pf
        cases ti.fs[f]? with
        | none => exact none_pf
        | some q => exact bif_pf none_pf (xval_pf _)
theorem xfield_pf (f : Nat) (ti : Option TI) (a : Value) : Pf fun H => xfield f H ti a := by
  cases ti with
  | none => exact none_pf
  | some ti =>
    cases a <;> first | exact none_pf | skip
    refine bif_pf ?_ none_pf
    cases ti.fs[f]? with
    | none => exact none_pf
    | some q => exact bif_pf (oval_pf _) (oval_pf _)
theorem xidx_pf (ti : TI) (size k : Nat) (x : Value) : Pf fun H => xidx ti size k H x := by
  cases x <;> first | exact none_pf | skip
  · rename_i p
    cases p with
    | none => exact none_pf
    | some p =>
      obtain ⟨b, off, sp⟩ := p
      cases sp with
      | some _ => exact none_pf
      | none => exact bif_pf (xval_pf _) none_pf
  · rename_i p n c
    cases p with
    | none => exact none_pf
    | some p =>
      obtain ⟨b, off, sp⟩ := p
      cases sp with
      | some _ => exact none_pf
      | none => exact bif_pf (xval_pf _) none_pf
theorem xindexAddr_pf (E : Env) (x i : Value) (ti : Option TI) : Pf fun H => xindexAddr E x i H ti := by
  cases ti with
  | none => exact none_pf
  | some ti =>
    show Pf fun H => match E.tt.get ti.elem, natOf i with
      | some ei, some k => xidx ti ei.size k H x
      | _, _ => none
    cases E.tt.get ti.elem with
    | none => exact none_pf
    | some ei =>
      cases natOf i with
      | none => exact none_pf
      | some k => exact xidx_pf ti ei.size k x
theorem xassert_pf (t : Nat) (cok : Bool) (ti : Option TI) (x : Value) : Pf fun H => xassert t cok H ti x := by
  cases ti with
  | none => exact none_pf
  | some ti =>
    cases x <;> first | exact none_pf | skip
    refine bif_pf none_pf (bif_pf (xval_pf _) ?_)
    cases ti.zv with
    | none => exact none_pf
    | some z => exact bif_pf (xval_pf _) none_pf
theorem xextract_pf (i : Nat) (x : Value) : Pf fun H => xextract i H x := by
  cases x <;> first | exact none_pf | exact oval_pf _
theorem pure_pf {E : Env} {ρ : Operand → Value} {op : Op} (h : cls E op = 0) : Pf fun H => cexec E ρ H op := by
  cases op <;> try (simp [cls] at h; done)
  case move x => exact xval_pf _
  case assign x => exact xval_pf _
  case pick c a b => exact xpick_pf _ _ _
  case build t ps => exact oval_pf _
  case nilCheck x => exact xnil_pf _
  case unOp op t x => exact oval_pf _
  case makeInterface t x => exact xiface_pf _ _ _
  case makeFunc f a b => exact xmakeFunc_pf _ _ _
  case fieldAddr s x f => exact xfieldAddr_pf _ _ _
  case field s x f => exact xfield_pf _ _ _
  case indexAddr t x i => exact xindexAddr_pf _ _ _ _
  case index t x i => exact oval_pf _
  case typeAssert x a t k => exact xassert_pf _ _ _ _
  case extract x i => exact xextract_pf _ _
  case call c =>
    simp only [cls] at h
    cases hc : c.callee with
    | value f => rw [hc] at h; simp at h
    | invoke r m => rw [hc] at h; simp at h
    | builtin b =>
      rw [hc] at h
      cases b <;> first | (simp at h; done) | skip
      · have : (fun H => cexec E ρ H (.call c)) = fun H => bif (c.args.toList.map ρ).all flat' then oval H (pureV E.P (Builtin.max_ c.argTypes 0 (c.args.toList.map ρ).toArray)) else none := by
          funext H; simp only [cexec, xcall, hc, xbuiltin]
        rw [this]; exact bif_pf (oval_pf _) none_pf
      · have : (fun H => cexec E ρ H (.call c)) = fun H => bif (c.args.toList.map ρ).all flat' then oval H (pureV E.P (Builtin.min_ c.argTypes 0 (c.args.toList.map ρ).toArray)) else none := by
          funext H; simp only [cexec, xcall, hc, xbuiltin]
        rw [this]; exact bif_pf (oval_pf _) none_pf
/-! ### operations that read -/
def Sub (H H2 : Hp) : Prop := ∀ b o, H.get b = some o → H2.get b = some o
def Rf (f : Hp → OX) : Prop := ∀ H cn H1, f H = some (cn, H1) → ∃ v, cn = .val v ∧ H1 = H ∧ ∀ H2, Sub H H2 → f H2 = some (.val v, H2)
theorem Pf.rf {f : Hp → OX} (h : Pf f) : Rf f := by
  obtain ⟨X, hX⟩ := h
  intro H cn H1 h
  rw [hX] at h
  obtain ⟨v, hv, rfl, rfl⟩ := oval_some h
  exact ⟨v, rfl, rfl, fun H2 _ => by rw [hX, hv]; rfl⟩
theorem oval_rf {g : Hp → Option Value} (h : ∀ H H2 v, Sub H H2 → g H = some v → g H2 = some v) : Rf fun H => oval H (g H) := by
  intro H cn H1 hh
  obtain ⟨v, hv, rfl, rfl⟩ := oval_some hh
  exact ⟨v, rfl, rfl, fun H2 hs => by show oval H2 (g H2) = _; rw [h _ _ _ hs hv]; rfl⟩
theorem get_mono {α : Type} {H H2 : Hp} (hs : Sub H H2) {b : Nat} (F : Option CO → Option α) (hF : F none = none) {r : α} (h : F (H.get b) = some r) : F (H2.get b) = some r := by
  cases hg : H.get b with
  | none => rw [hg, hF] at h; cases h
  | some o => rw [hs _ _ hg]; rw [hg] at h; exact h
theorem loadAt_mono {H H2 : Hp} (hs : Sub H H2) {ti : Option TI} {a v : Value} (h : loadAt H ti a = some v) : loadAt H2 ti a = some v := by
  unfold loadAt at h ⊢
  split at h
  · exact get_mono hs (loadIn _ _) rfl h
  · cases h
theorem plain_mono {H H2 : Hp} (hs : Sub H H2) {b : Nat} (h : plainBlk (H.get b) = true) : plainBlk (H2.get b) = true := by
  cases hg : H.get b with
  | none => rw [hg] at h; cases h
  | some o => rw [hs _ _ hg]; rw [hg] at h; exact h
theorem ptrEq_mono {H H2 : Hp} (hs : Sub H H2) {p q : Addr} {r : Bool} (h : ptrEq H p q = some r) : ptrEq H2 p q = some r := by
  unfold ptrEq at h ⊢
  obtain ⟨hp, h⟩ := bif_some h
  simp only [Bool.and_eq_true] at hp
  rw [plain_mono hs hp.1, plain_mono hs hp.2]
  exact h
end Go.PE
namespace Go.PE
open Go Go.RowKit
section
variable {E : Env} {H H2 : Hp}
theorem cmpRes_mono {op : BinOp} {a b : Option Bool} {v : Value} (hab : ∀ r, a = some r → b = some r) (h : cmpRes op a = some v) : cmpRes op b = some v := by
  cases a with
  | none => simp [cmpRes] at h
  | some r => rw [hab r rfl]; exact h
theorem cheld_mono (hs : Sub H H2) {k : Nat} {a b : Value} {r : Bool} (h : cheld H k a b = some r) : cheld H2 k a b = some r := by
  unfold cheld at h ⊢
  split at h
  · obtain ⟨hk, h⟩ := bif_some h
    rw [hk]; exact ptrEq_mono hs h
  all_goals exact h
theorem cbinS_mono (hs : Sub H H2) {op : BinOp} {t : Nat} {x y : Operand} {a b v : Value} (h : cbinS E op t x y a b H = some v) : cbinS E op t x y a b H2 = some v := by
  unfold cbinS at h ⊢
  cases hf : flat' a && flat' b with
  | true => rw [hf] at h; exact h
  | false =>
    rw [hf] at h
    simp only [cond_false] at h ⊢
    cases ht : E.tt.get t with
    | none => rw [ht] at h; cases h
    | some ti =>
      rw [ht] at h
      dsimp only at h ⊢
      have gen : ∀ k, cmpRes op (cheld H k a b) = some v → cmpRes op (cheld H2 k a b) = some v := fun k h => cmpRes_mono (fun r hr => cheld_mono hs hr) h
      split at h
      · split at h
        · rename_i ei hei
          cases hz : Nat.beq ei.size 0 with
          | true => rw [hz] at h; cases h
          | false =>
            rw [hz] at h
            simp only [cond_false] at h ⊢
            exact cmpRes_mono (fun r hr => ptrEq_mono hs hr) h
        · cases h
      · exact gen _ h
theorem cbin_mono (hs : Sub H H2) {op : BinOp} {t : Nat} {x y : Operand} {a b v : Value} (h : cbin E op t x y H a b = some v) : cbin E op t x y H2 a b = some v := by
  unfold cbin at h ⊢
  split at h
  · rename_i k m l n
    cases hkl : decide (k = l) with
    | true =>
      rw [hkl] at h
      simp only [cond_true] at h ⊢
      cases hc : cint op k m n with
      | some u => rw [hc] at h; exact h
      | none => rw [hc] at h; exact cbinS_mono hs h
    | false => rw [hkl] at h; simp only [cond_false] at h ⊢; exact cbinS_mono hs h
  · rename_i s u
    cases hc : cstr op s.data.toList u.data.toList with
    | some z => rw [hc] at h; exact h
    | none => rw [hc] at h; exact cbinS_mono hs h
  · exact cbinS_mono hs h
theorem exact_mono (hs : Sub H H2) {b : Nat} (h : exact (H.get b) = true) : exact (H2.get b) = true := by
  cases hg : H.get b with
  | none => rw [hg] at h; cases h
  | some o => rw [hs _ _ hg]; rw [hg] at h; exact h
theorem slModeAt_mono (hs : Sub H H2) {size : Nat} {a : Option Addr} {r : Bool} (h : slModeAt H size a = some r) : slModeAt H2 size a = some r := by
  cases a with
  | none => exact h
  | some p =>
    obtain ⟨b, off, sp⟩ := p
    cases sp with
    | none => exact get_mono hs (slMode size) rfl h
    | some k => cases h
theorem cslice_mono (hs : Sub H H2) {lo hi : Option Value} {ti : Option TI} {x v : Value} (h : cslice E H lo hi ti x = some v) : cslice E H2 lo hi ti x = some v := by
  unfold cslice at h ⊢
  split at h
  · exact h
  · rename_i ti a n c
    obtain ⟨hk, h⟩ := bif_some h
    rw [hk]
    simp only [cond_true]
    split at h
    · rename_i ei h' l e1 e2 e3
      obtain ⟨hb, h⟩ := bif_some h
      rw [hb]
      simp only [cond_true]
      cases hm : slModeAt H ei.size a with
      | none => rw [hm] at h; simp [sliceSl] at h
      | some r => rw [slModeAt_mono hs hm]; rw [hm] at h; exact h
    · cases h
  · rename_i ti b off
    obtain ⟨hk, h⟩ := bif_some h
    rw [hk]
    simp only [cond_true]
    split at h
    · obtain ⟨hb, h⟩ := bif_some h
      rw [exact_mono hs hb]
      exact h
    · cases h
  · cases h
theorem keyEq_mono (hs : Sub H H2) {a b : Value} {r : Bool} (h : keyEq H a b = some r) : keyEq H2 a b = some r := by
  unfold keyEq at h ⊢
  split at h
  · exact h
  · exact h
  · exact ptrEq_mono hs h
  · cases h
theorem findIdx_mono (hs : Sub H H2) {k : Value} : ∀ (l : List (Value × Value)) (i : Nat) (r : Option Nat), findIdx H k l i = some r → findIdx H2 k l i = some r
  | [], _, _, h => h
  | x :: l, i, r, h => by
    obtain ⟨k', v⟩ := x
    simp only [findIdx] at h ⊢
    cases hk : keyEq H k k' with
    | none => rw [hk] at h; simp at h
    | some b =>
      rw [hk] at h
      rw [keyEq_mono hs hk]
      cases b with
      | true => exact h
      | false => exact findIdx_mono hs l _ r h
theorem mapOf_mono (hs : Sub H H2) {m : Value} {es : List (Value × Value)} (h : mapOf H m = some es) : mapOf H2 m = some es := by
  unfold mapOf at h ⊢
  split at h
  · exact h
  · exact get_mono hs mapIn rfl h
  · cases h
theorem xfound_rf {cok : Bool} {z : Value} {x : Hp → Option (Option Value)} (hx : ∀ H H2 r, Sub H H2 → x H = some r → x H2 = some r) : Rf fun H => xfound cok H z (x H) := by
  intro H cn H1 h
  simp only at h
  cases hh : x H with
  | none => rw [hh] at h; simp [xfound] at h
  | some r =>
    rw [hh] at h
    cases r with
    | some v =>
      simp only [xfound] at h
      obtain ⟨rfl, rfl⟩ := xval_some h
      exact ⟨_, rfl, rfl, fun H2 hs => by simp only [hx _ _ _ hs hh]; rfl⟩
    | none =>
      simp only [xfound] at h
      obtain ⟨hf, h⟩ := bif_some h
      obtain ⟨rfl, rfl⟩ := xval_some h
      exact ⟨_, rfl, rfl, fun H2 hs => by simp only [hx _ _ _ hs hh, xfound, hf]; rfl⟩
theorem xlookup_rf {m k : Value} {cok : Bool} {ti : Option TI} : Rf fun H => xlookup E m k cok H ti := by
  intro H cn H1 h
  simp only [xlookup] at h
  split at h
  · rename_i ti
    obtain ⟨hc, h⟩ := bif_some h
    split at h
    · rename_i ei es hei hes
      split at h
      · rename_i z hz
        have hk : ∀ H H2 r, Sub H H2 → findKey H k es = some r → findKey H2 k es = some r := by
          intro H H2 r hs hh
          unfold findKey at hh ⊢
          cases hi : findIdx H k es 0 with
          | none => rw [hi] at hh; simp at hh
          | some j => rw [findIdx_mono hs es 0 j hi]; rw [hi] at hh; exact hh
        obtain ⟨v, rfl, rfl, hh⟩ := xfound_rf (cok := cok) (z := z) hk H cn H1 h
        refine ⟨v, rfl, rfl, fun H2 hs => ?_⟩
        simp only [xlookup, hc, cond_true, hei, mapOf_mono hs hes, hz]
        exact hh H2 hs
      · cases h
    · cases h
  · cases h
theorem xlen_rf {ti : Option TI} {x : Value} : Rf fun H => xlen E H ti x := by
  cases ti with
  | none => intro H cn H1 h; simp [xlen] at h
  | some ti =>
    cases x
    case slice a n c => exact Pf.rf (bif_pf (xval_pf _) none_pf)
    case string s => exact Pf.rf (bif_pf (xval_pf _) none_pf)
    case map r =>
      cases r with
      | none => exact Pf.rf (bif_pf (xval_pf _) none_pf)
      | some r =>
        intro H cn H1 h
        simp only [xlen] at h
        obtain ⟨hc, h⟩ := bif_some h
        split at h
        · rename_i es hes
          obtain ⟨rfl, rfl⟩ := xval_some h
          exact ⟨_, rfl, rfl, fun H2 hs => by simp only [xlen, hc, cond_true, get_mono hs mapIn rfl hes]; rfl⟩
        · cases h
    all_goals exact Pf.rf (bif_pf (xval_pf _) none_pf)
theorem xcap_rf {ti : Option TI} {x : Value} : Rf fun H => xcap H ti x := by
  cases ti with
  | none => intro H cn H1 h; simp [xcap] at h
  | some ti =>
    cases x
    case slice a n c =>
      cases a with
      | none => exact Pf.rf (bif_pf (xval_pf _) none_pf)
      | some p =>
        intro H cn H1 h
        obtain ⟨b, off, sp⟩ := p
        cases sp with
        | some k => simp [xcap] at h
        | none =>
        simp only [xcap] at h
        obtain ⟨hc, h⟩ := bif_some h
        obtain ⟨rfl, rfl⟩ := xval_some h
        simp only [Bool.and_eq_true] at hc
        exact ⟨_, rfl, rfl, fun H2 hs => by simp only [xcap, hc.1, exact_mono hs hc.2]; rfl⟩
    all_goals (intro H cn H1 h; simp [xcap] at h)
theorem read_rf {ρ : Operand → Value} {op : Op} (h : cls E op = 1) : Rf fun H => cexec E ρ H op := by
  cases op <;> try (simp [cls] at h; done)
  case load t a => exact oval_rf fun H H2 v hs hh => loadAt_mono hs hh
  case binOp op t x y sh => exact oval_rf fun H H2 v hs hh => cbin_mono hs hh
  case slice t x lo hi mx =>
    cases mx with
    | none => exact oval_rf fun H H2 v hs hh => cslice_mono hs hh
    | some m => intro H cn H1 h; simp [cexec] at h
  case lookup t m k cok => exact xlookup_rf
  case call c =>
    simp only [cls] at h
    cases hc : c.callee with
    | value f => rw [hc] at h; simp at h
    | invoke r m => rw [hc] at h; simp at h
    | builtin b =>
      rw [hc] at h
      cases b <;> first | (simp at h; done) | skip
      · have : (fun H => cexec E ρ H (.call c)) = fun H => match c.args.toList.map ρ with
            | [x] => xcap H (tyAt E c.argTypes 0) x
            | _ => none := by
          funext H; simp only [cexec, xcall, hc, xbuiltin]
          cases c.args.toList.map ρ with
          | nil => rfl
          | cons x l => cases l <;> rfl
        rw [this]
        cases c.args.toList.map ρ with
        | nil => exact Pf.rf none_pf
        | cons x l => cases l with
          | nil => exact xcap_rf
          | cons _ _ => exact Pf.rf none_pf
      · have : (fun H => cexec E ρ H (.call c)) = fun H => match c.args.toList.map ρ with
            | [x] => xlen E H (tyAt E c.argTypes 0) x
            | _ => none := by
          funext H; simp only [cexec, xcall, hc, xbuiltin]
          cases c.args.toList.map ρ with
          | nil => rfl
          | cons x l => cases l <;> rfl
        rw [this]
        cases c.args.toList.map ρ with
        | nil => exact Pf.rf none_pf
        | cons x l => cases l with
          | nil => exact xlen_rf
          | cons _ _ => exact Pf.rf none_pf
end
end Go.PE
namespace Go.PE
open Go Go.RowKit
section
variable {E : Env} {N0 : Nat} {w0 w : World} {ρ : RM} {H : Hp}
theorem alloc_ar (ok : EnvOk E) {ρc ρr : Operand → Value} (hρ : ∀ x, VR ρ (ρc x) (ρr x)) {o : Oper} (hc : cls E o.op = 2) {cn : CN} {H' : Hp} (h : cexec E ρc H o.op = some (cn, H')) :
    ∃ s, (execOp ρr o).run E.P w = vrun E.P s w ∧ AR E.P ρ w H s cn H' := by
  unfold execOp
  cases ho : o.op <;> rw [ho] at h hc <;> try (simp [cls] at hc; done)
  case alloc t => exact ⟨_, run_value _, xalloc_sound ok h⟩
  case box t x => exact ⟨_, run_value _, xbox_sound (hρ x) h⟩
  case buildSlice t n ps => exact ⟨_, run_value _, xbuildSlice_sound ok hρ h⟩
  case makeMap t r => exact ⟨_, run_value _, xmakeMap_sound h⟩
  case makeSlice t l c => exact ⟨_, run_value _, xmakeSlice_sound ok (hρ l) (hρ c) h⟩
  case call c =>
    exfalso
    simp only [cls] at hc
    split at hc <;> simp at hc
/-- A block that the evaluator laid long ago comes to be. -/
theorem WR.late {G : Nat → Option Nat} (W : WR G N0 w0 ρ H w) {b : Nat} {o : CO} {m : BM} {x : Obj} (hg : H.get b = some o) (hn : ρ b = none) (hm : m.blk = w.heap.size) (ho : ObjRel (fun k => if k = b then some m else ρ k) m { w with heap := w.heap.push x } o) :
    WR G N0 w0 (fun k => if k = b then some m else ρ k) H { w with heap := w.heap.push x } := by
  have hle : ρ.Le (fun k => if k = b then some m else ρ k) := fun k y hk => by
    by_cases e : k = b
    · subst e; rw [hn] at hk; cases hk
    · simp only [if_neg e]; exact hk
  have hpush : ∀ k, k < w.heap.size → (w.heap.push x)[k]? = w.heap[k]? := fun k hk => by rw [Array.getElem?_push, if_neg (by omega)]
  refine ⟨W.below.trans ⟨rfl, rfl, rfl, by simp, fun k hk => hpush k (Nat.lt_of_lt_of_le hk W.n0)⟩, ?_, ?_, W.dom, ?_, ?_, ?_, ?_⟩
  · intro b' o' m' hb hd hr
    by_cases e : b' = b
    · subst e
      rw [hg] at hb; cases hb
      simp only [if_pos] at hr; cases hr
      exact ho
    · simp only [if_neg e] at hr
      have ob := W.obj b' o' m' hb hd hr
      exact ob.mono hle (hpush _ ob.lt)
  · intro b1 b2 o1 o2 m1 m2 h1 d1 ro1 h2 d2 r1 r2 he
    by_cases e1 : b1 = b
    · by_cases e2 : b2 = b
      · rw [e1, e2]
      · exfalso
        subst e1
        simp only [if_pos] at r1; cases r1
        simp only [if_neg e2] at r2
        have := (W.obj b2 o2 m2 h2 d2 r2).lt
        omega
    · by_cases e2 : b2 = b
      · exfalso
        subst e2
        simp only [if_pos] at r2; cases r2
        simp only [if_neg e1] at r1
        have := (W.obj b1 o1 m1 h1 d1 r1).lt
        omega
      · simp only [if_neg e1] at r1
        simp only [if_neg e2] at r2
        exact W.inj b1 b2 o1 o2 m1 m2 h1 d1 ro1 h2 d2 r1 r2 he
  · intro b' y hb
    by_cases e : b' = b
    · subst e; exact W.dom b' o hg
    · simp only [if_neg e] at hb; exact W.rdom b' y hb
  · intro b' o' m' hb hd hro hr
    by_cases e : b' = b
    · subst e
      simp only [if_pos] at hr; cases hr
      rw [hm]; exact W.n0
    · simp only [if_neg e] at hr; exact W.own b' o' m' hb hd hro hr
  · intro g k hgl
    obtain ⟨y, hy, r⟩ := W.gl g k hgl
    exact ⟨y, hle _ _ hy, r⟩
  · have := W.n0; simp; omega
/-- The evaluator lays a block that is not yet there. -/
theorem WR.addU {G : Nat → Option Nat} (W : WR G N0 w0 ρ H w) (o : CO) : WR G N0 w0 ρ (H.new o) w := by
  have hn : ∀ m, ρ H.n ≠ some m := fun m h => by have := W.rdom _ _ h; omega
  have old : ∀ b o' m, (H.new o).get b = some o' → ρ b = some m → H.get b = some o' := by
    intro b o' m hb hr
    by_cases e : b = H.n
    · subst e; exact absurd hr (hn m)
    · rwa [Hp.get_new, if_neg e] at hb
  refine ⟨W.below, fun b o' m hb hd hr => W.obj b o' m (old _ _ _ hb hr) hd hr, fun b b' o1 o2 m1 m2 hb hd hro hb' hd' hr hr' => W.inj b b' o1 o2 m1 m2 (old _ _ _ hb hr) hd hro (old _ _ _ hb' hr') hd' hr hr', ?_, ?_, fun b o' m hb hd hro hr => W.own b o' m (old _ _ _ hb hr) hd hro hr, W.gl, W.n0⟩
  · intro b o' hb
    by_cases e : b = H.n
    · subst e; simp
    · rw [Hp.get_new, if_neg e] at hb; have := W.dom b o' hb; simp; omega
  · intro b m hb; have := W.rdom b m hb; simp; omega
end
/-! ### lists of numbers -/
theorem memN_iff {x : Nat} {l : List Nat} : memN x l = true ↔ x ∈ l := by
  unfold memN
  rw [List.any_eq_true]
  constructor
  · rintro ⟨y, hy, h⟩; rw [beq_eq h]; exact hy
  · intro h; exact ⟨x, h, Nat.beq_refl x⟩
theorem subN_iff {l m : List Nat} : subN l m = true ↔ ∀ x ∈ l, x ∈ m := by
  unfold subN
  rw [List.all_eq_true]
  exact ⟨fun h x hx => memN_iff.1 (h x hx), fun h x hx => memN_iff.2 (h x hx)⟩
/-! ### traces -/
inductive StepR (rec : Rec) : CN → Hp → Value → Hp → Prop
  | val (v : Value) (H : Hp) : StepR rec (.val v) H v H
  | skip (H : Hp) : StepR rec .skip H undefV H
  | enter {f : Nat} {args : List Value} {H H' : Hp} {v : Value} (h : rec (.call f args H) = .out v H') : StepR rec (.enter f args) H v H'
  | round {l : Nat} {args : List Value} {H H' : Hp} {v : Value} (h : rec (.round l args H) = .out v H') : StepR rec (.round l args) H v H'
structure StepP (E : Env) (rec : Rec) (C : Ctx) (arr : Array Oper) (B : List (List Nat)) (done : List Nat) (i : Nat) (o : Oper) (s s' : St) (v : Value) : Prop where
  at_ : arr[i]? = some o
  ok : okStep E arr B done i o = true
  put : put C.nt v s.tm o.dst = some s'.tm
  df : s'.df = s.df
  run : ∃ b, wantedG arr s.tm o.guard = some b ∧ ((b = true ∧ ∃ cn H1, cexec E (evalO E s.tm) s.H o.op = some (cn, H1) ∧ StepR rec cn H1 v s'.H) ∨ (b = false ∧ v = undefV ∧ s'.H = s.H))
  re : reOk E arr s' (again E arr B done i o) = true
def doneFrom (done : List Nat) (ix : Nat → Nat) : Nat → List Nat
  | 0 => done
  | k + 1 => ix k :: doneFrom done ix k
theorem doneFrom_shift (done : List Nat) (ix : Nat → Nat) : ∀ k, doneFrom done ix (k + 1) = doneFrom (ix 0 :: done) (fun j => ix (j + 1)) k
  | 0 => rfl
  | k + 1 => by rw [doneFrom, doneFrom_shift done ix k]; rfl
theorem mem_doneFrom {ix : Nat → Nat} {j : Nat} : ∀ {k : Nat}, j ∈ doneFrom [] ix k ↔ ∃ k', k' < k ∧ ix k' = j
  | 0 => by simp [doneFrom]
  | k + 1 => by
    rw [doneFrom, List.mem_cons, mem_doneFrom (k := k)]
    constructor
    · rintro (h | ⟨k', h1, h2⟩)
      · exact ⟨k, by omega, h.symm⟩
      · exact ⟨k', by omega, h2⟩
    · rintro ⟨k', h1, h2⟩
      by_cases e : k' = k
      · subst e; exact .inl h2.symm
      · exact .inr ⟨k', by omega, h2⟩
def cons' {α : Type} (x : α) (f : Nat → α) : Nat → α
  | 0 => x
  | k + 1 => f k
theorem dCode {rec : Rec} {k : St → Res} {C : Ctx} {E : Env} {s : St} {o : Oper} {arr : Array Oper} {e : Ex} {s' : St} (h : dCons E rec k C s o (wantedG arr s.tm o.guard) = .code e s') :
    ∃ s1 v, k s1 = .code e s' ∧ put C.nt v s.tm o.dst = some s1.tm ∧ s1.df = s.df ∧ ∃ b, wantedG arr s.tm o.guard = some b ∧ ((b = true ∧ ∃ cn H1, cexec E (evalO E s.tm) s.H o.op = some (cn, H1) ∧ StepR rec cn H1 v s1.H) ∨ (b = false ∧ v = undefV ∧ s1.H = s.H)) := by
  cases hw : wantedG arr s.tm o.guard with
  | none => rw [hw] at h; cases h
  | some b =>
    rw [hw] at h
    cases b with
    | false =>
      obtain ⟨tm, h1, h2⟩ := oPut_code h
      exact ⟨_, undefV, h2, h1, rfl, false, rfl, .inr ⟨rfl, rfl, rfl⟩⟩
    | true =>
      simp only [dCons] at h
      cases hc : cexec E (evalO E s.tm) s.H o.op with
      | none => rw [hc] at h; cases h
      | some x =>
        obtain ⟨cn, H1⟩ := x
        rw [hc] at h
        simp only [dRes] at h
        cases cn with
        | val v =>
          obtain ⟨tm, h1, h2⟩ := oPut_code h
          exact ⟨_, v, h2, h1, rfl, true, rfl, .inl ⟨rfl, _, _, rfl, .val v H1⟩⟩
        | skip =>
          obtain ⟨tm, h1, h2⟩ := oPut_code h
          exact ⟨_, undefV, h2, h1, rfl, true, rfl, .inl ⟨rfl, _, _, rfl, .skip H1⟩⟩
        | enter f args =>
          simp only [dNext] at h
          cases hr : rec (.call f args H1) with
          | out v H2 =>
            rw [hr] at h
            obtain ⟨tm, h1, h2⟩ := oPut_code h
            exact ⟨_, v, h2, h1, rfl, true, rfl, .inl ⟨rfl, _, _, rfl, .enter hr⟩⟩
          | _ => rw [hr] at h; cases h
        | round l args =>
          simp only [dNext] at h
          cases hr : rec (.round l args H1) with
          | out v H2 =>
            rw [hr] at h
            obtain ⟨tm, h1, h2⟩ := oPut_code h
            exact ⟨_, v, h2, h1, rfl, true, rfl, .inl ⟨rfl, _, _, rfl, .round hr⟩⟩
          | _ => rw [hr] at h; cases h
        | defer d => cases h
        | panic v => cases h
theorem trace_of {E : Env} {rec : Rec} {C : Ctx} {arr : Array Oper} {B : List (List Nat)} {e : Ex} {s' : St} : ∀ (l done : List Nat) (s : St), okL E arr B done l = true → runPlan E rec C arr (stepsOf E arr B done l) s = .code e s' →
    e = .normal ∧ ∃ (ix : Nat → Nat) (op : Nat → Oper) (st : Nat → St) (v : Nat → Value), st 0 = s ∧ st l.length = s' ∧ (∀ k, k < l.length → StepP E rec C arr B (doneFrom done ix k) (ix k) (op k) (st k) (st (k + 1)) (v k)) ∧ subN (List.range arr.size) (doneFrom done ix l.length) = true := by
  intro l
  induction l with
  | nil =>
    intro done s hok h
    simp only [stepsOf, runPlan, Res.code.injEq] at h
    obtain ⟨rfl, rfl⟩ := h
    exact ⟨rfl, fun _ => 0, fun _ => default, fun _ => s, fun _ => undefV, rfl, rfl, fun k hk => by simp at hk, hok⟩
  | cons i l ih =>
    intro done s hok h
    simp only [okL] at hok
    cases ho : arr[i]? with
    | none => rw [ho] at hok; cases hok
    | some o =>
      rw [ho] at hok
      simp only [Bool.and_eq_true] at hok
      simp only [stepsOf, ho] at h
      have h : dCons E rec (fun s => dRe (runPlan E rec C arr (stepsOf E arr B (i :: done) l)) s (reOk E arr s (again E arr B done i o))) C s o (wantedG arr s.tm o.guard) = .code e s' := h
      obtain ⟨s1, u, h1, h2, h3, h4⟩ := dCode h
      cases hre : reOk E arr s1 (again E arr B done i o) with
      | false => rw [hre] at h1; cases h1
      | true =>
        rw [hre] at h1
        obtain ⟨he, ix, op, st, v, g1, g2, g3, g4⟩ := ih (i :: done) s1 hok.2 h1
        refine ⟨he, cons' i ix, cons' o op, cons' s st, cons' u v, rfl, g2, ?_, ?_⟩
        · intro k hk
          cases k with
          | zero => exact ⟨ho, hok.1, by show PE.put C.nt u s.tm o.dst = some (st 0).tm; rw [g1]; exact h2, by show (st 0).df = s.df; rw [g1]; exact h3, by show ∃ b, _ ∧ _; simpa only [cons', g1] using h4, by show reOk E arr (st 0) _ = true; rw [g1]; exact hre⟩
          | succ k =>
            have := g3 k (by simpa using hk)
            rw [doneFrom_shift]
            exact this
        · rw [List.length_cons, doneFrom_shift]; exact g4
end Go.PE
namespace Go.PE
open Go Go.RowKit
open Classical
theorem bool_or {a b : Bool} (h : (a || b) = true) : a = true ∨ b = true := by cases a <;> simp_all
noncomputable def tv (tm : Tr Value) (t : Nat) : Value := match tm.get t with
  | some v => v
  | none => undefV
theorem put_tv {nt : Nat} {v : Value} {tm tm' : Tr Value} {dst : Option Nat} (h : put nt v tm dst = some tm') (t : Nat) : tv tm' t = if dst = some t then v else tv tm t := by
  unfold put at h
  split at h
  · cases h; rw [if_neg (by simp)]
  · rename_i d
    obtain ⟨_, h⟩ := bif_some h
    cases h
    unfold tv
    rw [Tr.get_set]
    by_cases e : t = d
    · subst e; rw [if_pos rfl, if_pos rfl]
    · rw [if_neg e, if_neg (by simpa using fun h => e h.symm)]
noncomputable def Fol (f0 : Nat → Value) (dst : Nat → Option Nat) (v : Nat → Value) (D : Nat → Prop) : Nat → Nat → Value
  | 0, t => f0 t
  | n + 1, t => if D n ∧ dst n = some t then v n else Fol f0 dst v D n t
theorem Fol_congr {f0 : Nat → Value} {dst : Nat → Option Nat} {v : Nat → Value} {D D' : Nat → Prop} {t : Nat} : ∀ {n : Nat}, (∀ j, j < n → dst j = some t → (D j ↔ D' j)) → Fol f0 dst v D n t = Fol f0 dst v D' n t
  | 0, _ => rfl
  | n + 1, h => by
    simp only [Fol]
    rw [Fol_congr (n := n) fun j hj => h j (by omega)]
    by_cases e : dst n = some t
    · have := h n (by omega) e
      by_cases hd : D n
      · rw [if_pos ⟨hd, e⟩, if_pos ⟨this.1 hd, e⟩]
      · rw [if_neg (fun x => hd x.1), if_neg (fun x => hd (this.2 x.1))]
    · rw [if_neg (fun x => e x.2), if_neg (fun x => e x.2)]
theorem Fol_trunc {f0 : Nat → Value} {dst : Nat → Option Nat} {v : Nat → Value} {t k : Nat} : ∀ (d : Nat), Fol f0 dst v (fun j => j < k) (k + d) t = Fol f0 dst v (fun _ => True) k t
  | 0 => Fol_congr fun j hj _ => ⟨fun _ => trivial, fun _ => hj⟩
  | d + 1 => by
    show Fol f0 dst v (fun j => j < k) (k + d + 1) t = _
    simp only [Fol]
    rw [if_neg (fun h => by have := h.1; omega), Fol_trunc d]
theorem Fol_cut {f0 : Nat → Value} {dst : Nat → Option Nat} {v : Nat → Value} {t k N : Nat} (hk : k ≤ N) : Fol f0 dst v (fun j => j < k) N t = Fol f0 dst v (fun _ => True) k t := by
  have := Fol_trunc (f0 := f0) (dst := dst) (v := v) (t := t) (k := k) (N - k)
  rwa [show k + (N - k) = N by omega] at this
structure Tr9 (E : Env) (rec : Rec) (C : Ctx) (arr : Array Oper) (B : List (List Nat)) (N : Nat) (ix : Nat → Nat) (op : Nat → Oper) (st : Nat → St) (v : Nat → Value) : Prop where
  row : ∀ k, k < N → StepP E rec C arr B (doneFrom [] ix k) (ix k) (op k) (st k) (st (k + 1)) (v k)
  all : ∀ i, i < arr.size → ∃ k, k < N ∧ ix k = i
theorem opAt_of {arr : Array Oper} {i : Nat} {o : Oper} {f : Oper → Bool} (h : arr[i]? = some o) : opAt arr i f = f o := by simp [opAt, h]
section
variable {E : Env} {rec : Rec} {C : Ctx} {arr : Array Oper} {B : List (List Nat)} {N : Nat} {ix : Nat → Nat} {op : Nat → Oper} {st : Nat → St} {v : Nat → Value}
theorem Tr9.fact (T : Tr9 E rec C arr B N ix op st v) {k : Nat} (hk : k < N) :
    (∀ k', k' < k → ix k' ≠ ix k) ∧ (∀ j ∈ getB B (ix k), ∃ k', k' < k ∧ ix k' = j) ∧ (∀ k', k' < k → cls E (op k').op = 3 → ix k' ∈ getB B (ix k)) ∧
    (∀ j ∈ getB B (ix k), ∃ e ∈ edgesOf (op k), j = e ∨ j ∈ getB B e) ∧ (∀ e ∈ edgesOf (op k), e ∈ getB B (ix k)) ∧
    (∀ k', k' < k → (∃ d, (op k').dst = some d ∧ d ∈ namesOf arr (op k)) ∨ (∃ d, (op k).dst = some d ∧ d ∈ namesOf arr (op k')) → ix k' ∈ getB B (ix k)) ∧
    (∀ k', k' < k → cls E (op k').op = 1 → ∀ d, (op k).dst = some d → d ∉ namesOf arr (op k')) ∧ (cls E (op k).op = 1 → ∀ d, (op k).dst = some d → d ∉ namesR arr (op k)) := by
  have h := (T.row k hk).ok
  unfold okStep at h
  simp only [Bool.and_eq_true] at h
  obtain ⟨h1, h2, h3, h4, h5, h6, h7, h8⟩ := h
  have hat : ∀ k', k' < k → arr[ix k']? = some (op k') := fun k' hk' => (T.row k' (by omega)).at_
  have hmem : ∀ k', k' < k → ix k' ∈ doneFrom [] ix k := fun k' hk' => mem_doneFrom.2 ⟨k', hk', rfl⟩
  refine ⟨?_, ?_, ?_, ?_, ?_, ?_, ?_, ?_⟩
  · intro k' hk' e
    have : memN (ix k) (doneFrom [] ix k) = true := memN_iff.2 (by rw [← e]; exact hmem k' hk')
    rw [this] at h1; cases h1
  · intro j hj; exact mem_doneFrom.1 (subN_iff.1 h2 j hj)
  · intro k' hk' hc
    refine subN_iff.1 h3 _ (List.mem_filter.2 ⟨hmem k' hk', ?_⟩)
    simp only [isE, opAt_of (hat k' hk'), hc]; rfl
  · intro j hj
    have := List.all_eq_true.1 h4 j hj
    obtain ⟨e, he, hx⟩ := List.any_eq_true.1 this
    refine ⟨e, he, ?_⟩
    rcases bool_or hx with h | h
    · exact .inl (beq_eq h).symm
    · exact .inr (memN_iff.1 h)
  · exact subN_iff.1 h5
  · intro k' hk' hx
    have := List.all_eq_true.1 h6 _ (hmem k' hk')
    rcases bool_or this with h | h
    · exfalso
      have hc : clash arr (op k) (ix k') = true := by
        simp only [clash, opAt_of (hat k' hk'), Bool.or_eq_true]
        rcases hx with ⟨d, hd, hm⟩ | ⟨d, hd, hm⟩
        · left; rw [hd]; exact memN_iff.2 hm
        · right; rw [hd]; exact memN_iff.2 hm
      rw [hc] at h; cases h
    · exact memN_iff.1 h
  · intro k' hk' hc d hd hm
    have := List.all_eq_true.1 h7 _ (hmem k' hk')
    have hr : isR E arr (ix k') = true := by simp only [isR, opAt_of (hat k' hk'), hc]; rfl
    have hw : writes arr (op k) (ix k') = true := by
      simp only [writes, opAt_of (hat k' hk'), hd]; exact memN_iff.2 hm
    rw [hr, hw] at this; cases this
  · intro hc d hd hm
    unfold selfOk at h8
    have : Nat.beq (cls E (op k).op) 1 = true := by rw [hc]; rfl
    rw [this, hd] at h8
    have : clash.memN' (some d) (namesR arr (op k)) = true := memN_iff.2 hm
    rw [this] at h8; cases h8
theorem Tr9.tm (T : Tr9 E rec C arr B N ix op st v) (t : Nat) : ∀ {k : Nat}, k ≤ N → tv (st k).tm t = Fol (tv (st 0).tm) (fun j => (op j).dst) v (fun _ => True) k t
  | 0, _ => rfl
  | k + 1, hk => by
    rw [put_tv (T.row k (by omega)).put t, Tr9.tm T t (k := k) (by omega)]
    simp only [Fol, true_and]
theorem Tr9.df (T : Tr9 E rec C arr B N ix op st v) : ∀ {k : Nat}, k ≤ N → (st k).df = (st 0).df
  | 0, _ => rfl
  | k + 1, hk => (T.row k (by omega)).df.trans (Tr9.df T (by omega))
theorem alloc_form {ρ : Operand → Value} {H : Hp} {o : Op} (hc : cls E o = 2) {cn : CN} {H' : Hp} (h : cexec E ρ H o = some (cn, H')) : ∃ c u, cn = .val u ∧ H' = H.new c := by
  have hnew : ∀ {cs ty cn H'}, xnew H cs ty = some (cn, H') → ∃ c u, cn = .val u ∧ H' = H.new c := by
    intro cs ty cn H' h; simp only [xnew, Option.some.injEq, Prod.mk.injEq] at h; exact ⟨_, _, h.1.symm, h.2.symm⟩
  have hsl : ∀ {cs ty n c cn H'}, xnewSl H cs ty n c = some (cn, H') → ∃ c u, cn = .val u ∧ H' = H.new c := by
    intro cs ty n c cn H' h; simp only [xnewSl, Option.some.injEq, Prod.mk.injEq] at h; exact ⟨_, _, h.1.symm, h.2.symm⟩
  cases o <;> try (simp [cls] at hc; done)
  case alloc t =>
    simp only [cexec] at h; unfold xalloc at h
    split at h
    · exact hnew (bif_some h).2
    · cases h
  case box t x => simp only [cexec] at h; exact hnew (bif_none h).2
  case buildSlice t n ps =>
    simp only [cexec] at h; unfold xbuildSlice at h
    split at h
    · have h := (bif_some h).2
      split at h
      · have h := (bif_some h).2
        split at h
        · exact hsl h
        · cases h
      · cases h
    · cases h
  case makeMap t r =>
    simp only [cexec] at h
    cases r with
    | none => simp only [xmakeMap, Option.some.injEq, Prod.mk.injEq] at h; exact ⟨_, _, h.1.symm, h.2.symm⟩
    | some x => simp [xmakeMap] at h
  case makeSlice t l c =>
    simp only [cexec] at h; unfold xmakeSlice at h
    split at h
    · have h := (bif_some h).2
      unfold xmakeSlice2 at h
      split at h
      · exact hsl (bif_some h).2
      · cases h
    · cases h
  case call c =>
    exfalso
    simp only [cls] at hc
    split at hc <;> simp at hc
theorem cls_cases (E : Env) (o : Op) : cls E o = 0 ∨ cls E o = 1 ∨ cls E o = 2 ∨ cls E o = 3 := by
  cases o <;> simp [cls]
  rename_i c
  split <;> simp
theorem StepR.of_val {rec : Rec} {x u : Value} {H H' : Hp} (h : StepR rec (.val x) H u H') : u = x ∧ H' = H := by cases h; exact ⟨rfl, rfl⟩
/-- a step that is no effect turns nothing, and lays at most one block -/
theorem quiet {done : List Nat} {i : Nat} {o : Oper} {s s' : St} {u : Value} (h : StepP E rec C arr B done i o s s' u) (hc : cls E o.op ≠ 3) : s'.H = s.H ∨ ∃ c, s'.H = s.H.new c := by
  obtain ⟨b, _, h⟩ := h.run
  rcases h with ⟨_, cn, H1, h1, h2⟩ | ⟨_, _, h⟩
  · rcases cls_cases E o.op with h0 | h0 | h0 | h0
    · obtain ⟨x, rfl, rfl, _⟩ := (pure_pf h0).rf _ _ _ h1
      exact .inl h2.of_val.2
    · obtain ⟨x, rfl, rfl, _⟩ := read_rf h0 _ _ _ h1
      exact .inl h2.of_val.2
    · obtain ⟨c, x, rfl, rfl⟩ := alloc_form h0 h1
      exact .inr ⟨c, h2.of_val.2⟩
    · exact absurd h0 hc
  · exact .inl h
def Dom (H : Hp) : Prop := ∀ b o, H.get b = some o → b < H.n
theorem Tr9.adv (T : Tr9 E rec C arr B N ix op st v) {G : Nat → Option Nat} {N0 : Nat} {w0 w : World} {ρ : RM} {K1 : Nat} (W : WR G N0 w0 ρ (st K1).H w) : ∀ (d : Nat), K1 + d ≤ N → (∀ k, K1 ≤ k → k < K1 + d → cls E (op k).op ≠ 3) →
    WR G N0 w0 ρ (st (K1 + d)).H w ∧ (∀ m, K1 ≤ m → m ≤ K1 + d → Dom (st m).H) ∧ (∀ m m', K1 ≤ m → m ≤ m' → m' ≤ K1 + d → (st m).H.n ≤ (st m').H.n ∧ ∀ b, b < (st m).H.n → (st m').H.get b = (st m).H.get b)
  | 0, _, _ => by
    refine ⟨W, fun m h1 h2 => ?_, fun m m' h1 h2 h3 => ?_⟩
    · have : m = K1 := by omega
      subst this; exact W.dom
    · have : m = m' := by omega
      subst this; exact ⟨Nat.le_refl _, fun _ _ => rfl⟩
  | d + 1, hd, hc => by
    obtain ⟨W', h1, h2⟩ := Tr9.adv T W d (by omega) (fun k ha hb => hc k ha (by omega))
    have hq := quiet (T.row (K1 + d) (by omega)) (hc _ (by omega) (by omega))
    have hstep : WR G N0 w0 ρ (st (K1 + d + 1)).H w ∧ (st (K1 + d)).H.n ≤ (st (K1 + d + 1)).H.n ∧ ∀ b, b < (st (K1 + d)).H.n → (st (K1 + d + 1)).H.get b = (st (K1 + d)).H.get b := by
      rcases hq with e | ⟨c, e⟩
      · rw [e]; exact ⟨W', Nat.le_refl _, fun _ _ => rfl⟩
      · rw [e]; exact ⟨W'.addU c, by simp, fun b hb => by rw [Hp.get_new, if_neg (by omega)]⟩
    refine ⟨hstep.1, fun m ha hb => ?_, fun m m' ha hb hcc => ?_⟩
    · by_cases e : m = K1 + d + 1
      · subst e; exact hstep.1.dom
      · exact h1 m ha (by omega)
    · by_cases e : m' = K1 + d + 1
      · subst e
        by_cases e2 : m = K1 + d + 1
        · subst e2; exact ⟨Nat.le_refl _, fun _ _ => rfl⟩
        · obtain ⟨g1, g2⟩ := h2 m (K1 + d) ha (by omega) (by omega)
          exact ⟨Nat.le_trans g1 hstep.2.1, fun b hb => (hstep.2.2 b (by omega)).trans (g2 b hb)⟩
      · exact h2 m m' ha hb (by omega)
/-- the next effect -/
theorem Tr9.next (K1 : Nat) (hK : K1 ≤ N) : ∃ d, K1 + d ≤ N ∧ (∀ k, K1 ≤ k → k < K1 + d → cls E (op k).op ≠ 3) ∧ (K1 + d < N → cls E (op (K1 + d)).op = 3) := by
  obtain ⟨m, ⟨h1, h2⟩, h3⟩ := least (fun d => K1 + d ≤ N ∧ (K1 + d < N → cls E (op (K1 + d)).op = 3)) ⟨N - K1, by omega, fun h => by omega⟩
  refine ⟨m, h1, fun k ha hb hc => ?_, h2⟩
  have := h3 (k - K1) ⟨by omega, fun _ => by rw [show K1 + (k - K1) = k by omega]; exact hc⟩
  omega
end
end Go.PE
namespace Go.PE
open Go Go.RowKit
open Classical
theorem veq_eq : ∀ (d : Nat), (∀ a b, veq d a b = true → a = b) ∧ (∀ l m, veq.veqL d l m = true → l = m)
  | 0 => ⟨fun a b h => by simp [veq] at h, fun l m h => by simp [veq.veqL] at h⟩
  | d + 1 => by
    obtain ⟨h1, h2⟩ := veq_eq d
    refine ⟨fun a b h => ?_, fun l m h => ?_⟩
    · cases a <;> cases b <;> try (simp [veq] at h; done)
      case bool.bool => simp only [veq, decide_eq_true_eq] at h; rw [h]
      case int.int => simp only [veq, Bool.and_eq_true, decide_eq_true_eq] at h; rw [h.1, h.2]
      case string.string => simp only [veq, decide_eq_true_eq] at h; congr 1; apply ByteArray.ext; exact Array.ext' h
      case pointer.pointer => simp only [veq, decide_eq_true_eq] at h; rw [h]
      case slice.slice => simp only [veq, Bool.and_eq_true, decide_eq_true_eq] at h; rw [h.1, beq_eq h.2.1, beq_eq h.2.2]
      case map.map => simp only [veq, decide_eq_true_eq] at h; rw [h]
      case iface.iface => simp only [veq, Bool.and_eq_true] at h; rw [beq_eq h.1, h1 _ _ h.2]
      case agg.agg => simp only [veq] at h; rw [Array.ext' (h2 _ _ h)]
      case tuple.tuple => simp only [veq] at h; rw [Array.ext' (h2 _ _ h)]
      case func.func f x y g x' y' =>
        cases f <;> cases g <;> try (simp [veq] at h; done)
        simp only [veq, Bool.and_eq_true] at h
        rw [beq_eq h.1, Array.ext' (h2 _ _ h.2.1), Array.ext' (h2 _ _ h.2.2)]
      case complex.complex =>
        unfold veq at h
        split at h <;> first | rfl | cases h | skip
        all_goals (rename_i e1 e2; first | (cases e1; cases e2; rfl) | simp_all)
      all_goals first | rfl | (simp [veq] at h)
    · cases l with
      | nil => cases m with
        | nil => rfl
        | cons _ _ => simp [veq.veqL] at h
      | cons x l => cases m with
        | nil => simp [veq.veqL] at h
        | cons y m =>
          simp only [veq.veqL, Bool.and_eq_true] at h
          rw [h1 _ _ h.1, h2 _ _ h.2]
theorem isB_tv {want : Bool} {tm : Tr Value} {d : Nat} : isB want (tm.get d) = isB want (some (tv tm d)) := by
  unfold tv
  cases tm.get d <;> rfl
theorem wanted_congr {arr : Array Oper} {tm tm' : Tr Value} {o : Oper} (h : ∀ d ∈ namesR arr o, tv tm d = tv tm' d) : wantedG arr tm o.guard = wantedG arr tm' o.guard := by
  unfold wantedG
  cases hg : o.guard with
  | none => rfl
  | some q =>
    obtain ⟨j, want⟩ := q
    dsimp only
    cases hd : gdst arr j with
    | none => rfl
    | some d =>
      dsimp only
      rw [isB_tv, isB_tv, h d (by simp [namesR, hg, hd])]
theorem evalO_congr {E : Env} {arr : Array Oper} {tm tm' : Tr Value} {o : Oper} (h : ∀ d ∈ namesR arr o, tv tm d = tv tm' d) : ∀ x ∈ o.op.operands, evalO E tm x = evalO E tm' x := by
  intro x hx
  cases x with
  | tmp t =>
    have : t ∈ namesR arr o := List.mem_append_right _ (List.mem_filterMap.2 ⟨.tmp t, by simpa using hx, rfl⟩)
    exact h t this
  | _ => rfl
theorem wanted_rel2 {ρ : RM} {a : Act} {arr : Array Oper} {tm : Tr Value} {o : Oper} {r : Bool} (h : wantedG arr tm o.guard = some r) (hd : ∀ d ∈ namesR arr o, VR ρ (tv tm d) (a.tmps.getD d undef)) : Region.wanted o (yielded arr a.tmps) = r := by
  unfold wantedG at h
  unfold Region.wanted
  cases hg : o.guard with
  | none => rw [hg] at h; cases h; rfl
  | some q =>
    obtain ⟨j, want⟩ := q
    rw [hg] at h
    dsimp only at h ⊢
    unfold yielded
    cases hgd : gdst arr j with
    | none =>
      rw [hgd] at h; cases h
      unfold gdst at hgd
      split at hgd
      · rename_i p hp; rw [hp]; simp only [Option.bind_some]; rw [hgd]; rfl
      · rename_i hp; rw [hp]; rfl
    | some d =>
      have hr := hd d (by simp [namesR, hg, hgd])
      rw [hgd] at h
      unfold gdst at hgd
      split at hgd
      · rename_i p hp
        rw [hp]
        simp only [Option.bind_some]
        rw [hgd]
        simp only [Option.bind_some]
        rw [getD_opt] at hr
        have e := isB_rel hr h
        rw [e]
        generalize a.tmps[d]? = x
        cases x with
        | none => rfl
        | some y => cases y <;> first | rfl | (rename_i b; cases b <;> cases want <;> rfl)
      · cases hgd
theorem reOk_mem {E : Env} {arr : Array Oper} {s : St} {o : Oper} : ∀ {l : List Oper}, reOk E arr s l = true → o ∈ l → reOne E s o (wantedG arr s.tm o.guard) = true
  | [], _, h => by cases h
  | p :: l, h, hm => by
    simp only [reOk, Bool.and_eq_true] at h
    rcases List.mem_cons.1 hm with e | hm
    · subst e; exact h.1
    · exact reOk_mem h.2 hm
theorem Fol_skip {f0 : Nat → Value} {dst : Nat → Option Nat} {v : Nat → Value} {t k : Nat} : ∀ (d : Nat), (∀ j, k ≤ j → j < k + d → dst j ≠ some t) → Fol f0 dst v (fun _ => True) (k + d) t = Fol f0 dst v (fun _ => True) k t
  | 0, _ => rfl
  | d + 1, h => by
    show Fol f0 dst v (fun _ => True) (k + d + 1) t = _
    simp only [Fol, true_and]
    rw [if_neg (h (k + d) (by omega) (by omega)), Fol_skip d fun j h1 h2 => h j h1 (by omega)]
structure Inv (E : Env) (C : Ctx) (arr : Array Oper) (N : Nat) (ix : Nat → Nat) (op : Nat → Oper) (st : Nat → St) (v : Nat → Value) (G : Nat → Option Nat) (N0 : Nat) (w0 : World) (ρ0 : RM) (listed : Array Bool) (ρ : RM) (K : Nat) (a : Act) (w : World) : Prop where
  hsz : listed.size = arr.size
  closed : ∀ k, k < N → listed.getD (ix k) false = true → ∀ e ∈ edgesOf (op k), listed.getD e false = true
  hK : K ≤ N
  eff : ∀ k, k < K → cls E (op k).op = 3 → listed.getD (ix k) false = true
  here : K < N → cls E (op K).op = 3 ∧ ¬ listed.getD (ix K) false = true
  fr : ∀ t, VR ρ (Fol (tv (st 0).tm) (fun j => (op j).dst) v (fun j => listed.getD (ix j) false = true) N t) (a.tmps.getD t undef)
  nt : a.tmps.size = C.nt
  df : DL ρ (st 0).df a.defers
  wr : WR G N0 w0 ρ (st K).H w
  dom : ∀ m, m ≤ K → Dom (st m).H
  mon : ∀ m m', m ≤ m' → m' ≤ K → (st m).H.n ≤ (st m').H.n
  late : ∀ k, k < K → cls E (op k).op = 2 → ¬ listed.getD (ix k) false = true → (st k).H.n < (st (k + 1)).H.n → ρ (st k).H.n = none ∧ (st K).H.get (st k).H.n = (st (k + 1)).H.get (st k).H.n
  ext : Ext ρ0 (st 0).H ρ (st K).H
section
variable {E : Env} {rec : Rec} {C : Ctx} {arr : Array Oper} {B : List (List Nat)} {N : Nat} {ix : Nat → Nat} {op : Nat → Oper} {st : Nat → St} {v : Nat → Value} {G : Nat → Option Nat} {N0 : Nat} {w0 w : World} {ρ0 ρ : RM} {listed : Array Bool} {K : Nat} {a : Act}
theorem Inv.down (I : Inv E C arr N ix op st v G N0 w0 ρ0 listed ρ K a w) (T : Tr9 E rec C arr B N ix op st v) : ∀ (k : Nat), k < N → (∀ e ∈ edgesOf (op k), listed.getD e false = true) → ∀ j ∈ getB B (ix k), listed.getD j false = true := by
  intro k
  induction k using Nat.strongRecOn with
  | _ k ih =>
    intro hk hcl j hj
    obtain ⟨_, h2, _, h4, h5, _⟩ := T.fact hk
    obtain ⟨e, he, hx⟩ := h4 j hj
    rcases hx with rfl | hx
    · exact hcl _ he
    · obtain ⟨k', hk', rfl⟩ := h2 e (h5 e he)
      exact ih k' hk' (by omega) (I.closed k' (by omega) (hcl _ he)) j hx
theorem Inv.lt (I : Inv E C arr N ix op st v G N0 w0 ρ0 listed ρ K a w) (T : Tr9 E rec C arr B N ix op st v) {k : Nat} (hk : k < N) (hcl : ∀ e ∈ edgesOf (op k), listed.getD e false = true) : k ≤ K := by
  rcases Nat.lt_or_ge K k with h | h
  · exfalso
    obtain ⟨h1, h2⟩ := I.here (by omega)
    exact h2 (I.down T k hk hcl _ ((T.fact hk).2.2.1 K h h1))
  · exact h
theorem Inv.lt' (I : Inv E C arr N ix op st v G N0 w0 ρ0 listed ρ K a w) (T : Tr9 E rec C arr B N ix op st v) {k : Nat} (hk : k < N) (hD : listed.getD (ix k) false = true) : k < K := by
  have := I.lt T hk (I.closed k hk hD)
  rcases Nat.lt_or_ge k K with h | h
  · exact h
  · exfalso
    have : k = K := by omega
    subst this
    exact (I.here hk).2 hD
/-- the names of an operation that is ready have the values that the plan knows -/
theorem Inv.names (I : Inv E C arr N ix op st v G N0 w0 ρ0 listed ρ K a w) (T : Tr9 E rec C arr B N ix op st v) {k : Nat} (hk : k < N) (hD : ¬ listed.getD (ix k) false = true) (hcl : ∀ e ∈ edgesOf (op k), listed.getD e false = true) {t : Nat} (ht : t ∈ namesOf arr (op k)) :
    ∀ j, j < N → (op j).dst = some t → (listed.getD (ix j) false = true ↔ j < k) := by
  intro j hj hjt
  constructor
  · intro hDj
    rcases Nat.lt_trichotomy j k with h | h | h
    · exact h
    · subst h; exact absurd hDj hD
    · exfalso
      exact hD (I.down T j hj (I.closed j hj hDj) _ ((T.fact hj).2.2.2.2.2.1 k h (.inr ⟨t, hjt, ht⟩)))
  · intro hlt
    exact I.down T k hk hcl _ ((T.fact hk).2.2.2.2.2.1 j hlt (.inl ⟨t, hjt, ht⟩))
theorem Inv.val (I : Inv E C arr N ix op st v G N0 w0 ρ0 listed ρ K a w) (T : Tr9 E rec C arr B N ix op st v) {k : Nat} (hk : k < N) (hD : ¬ listed.getD (ix k) false = true) (hcl : ∀ e ∈ edgesOf (op k), listed.getD e false = true) {t : Nat} (ht : t ∈ namesOf arr (op k)) :
    Fol (tv (st 0).tm) (fun j => (op j).dst) v (fun j => listed.getD (ix j) false = true) N t = tv (st k).tm t := by
  rw [T.tm t (by omega), ← Fol_cut (N := N) (by omega)]
  exact Fol_congr (I.names T hk hD hcl ht)
/-- what a read that is not yet done says, at the heap where the run stands -/
theorem Inv.read (I : Inv E C arr N ix op st v G N0 w0 ρ0 listed ρ K a w) (T : Tr9 E rec C arr B N ix op st v) {k : Nat} (hk : k < N) (hD : ¬ listed.getD (ix k) false = true) (hc : cls E (op k).op = 1) (hw : wantedG arr (st k).tm (op k).guard = some true)
    {u : Value} (h0 : cexec E (evalO E (st k).tm) (st k).H (op k).op = some (.val u, (st k).H)) (hu : u = v k) : ∀ (d : Nat), k + d ≤ K → cexec E (evalO E (st k).tm) (st (k + d)).H (op k).op = some (.val u, (st (k + d)).H)
  | 0, _ => h0
  | d + 1, hd => by
    have ih := Inv.read I T hk hD hc hw h0 hu d (by omega)
    have hm : k + d < N := by have := I.hK; omega
    by_cases he : cls E (op (k + d)).op = 3
    · have hne : d ≠ 0 := by intro e; subst e; rw [Nat.add_zero, hc] at he; cases he
      have hDm := I.eff (k + d) (by omega) he
      have S := T.row (k + d) hm
      have hin : op k ∈ again E arr B (doneFrom [] ix (k + d)) (ix (k + d)) (op (k + d)) := by
        unfold again
        have : Nat.beq (cls E (op (k + d)).op) 3 = true := by rw [he]; rfl
        rw [this]
        simp only [cond_true]
        refine List.mem_filterMap.2 ⟨ix k, List.mem_filter.2 ⟨mem_doneFrom.2 ⟨k, by omega, rfl⟩, ?_⟩, (T.row k hk).at_⟩
        have h1 : isR E arr (ix k) = true := by simp only [isR, opAt_of (T.row k hk).at_, hc]; rfl
        have h2 : memN (ix k) (getB B (ix (k + d))) = false := by
          cases hb : memN (ix k) (getB B (ix (k + d))) with
          | false => rfl
          | true => exact absurd (I.down T (k + d) hm (I.closed _ hm hDm) _ (memN_iff.1 hb)) hD
        rw [h1, h2]; rfl
      have hre := reOk_mem S.re hin
      have hskip : ∀ t, t ∈ namesR arr (op k) → tv (st (k + d + 1)).tm t = tv (st k).tm t := by
        intro t ht
        rw [T.tm t (k := k + d + 1) (by omega), T.tm t (k := k) (by omega)]
        refine Fol_skip (d + 1) fun j h1 h2 hjt => ?_
        rcases Nat.lt_or_ge k j with h3 | h3
        · exact (T.fact (k := j) (by omega)).2.2.2.2.2.2.1 k h3 hc t hjt (List.mem_append_right _ ht)
        · have : j = k := by omega
          subst this
          exact (T.fact hk).2.2.2.2.2.2.2 hc t hjt ht
      have hw' : wantedG arr (st (k + d + 1)).tm (op k).guard = some true := by rw [wanted_congr hskip]; exact hw
      rw [hw'] at hre
      simp only [reOne] at hre
      cases hdst : (op k).dst with
      | none => rw [hdst] at hre; cases hre
      | some t =>
        rw [hdst] at hre
        dsimp only at hre
        rw [cexec_congr (op k).op (evalO_congr hskip)] at hre
        have htv : tv (st (k + d + 1)).tm t = v k := by
          rw [T.tm t (k := k + d + 1) (by omega)]
          have : Fol (tv (st 0).tm) (fun j => (op j).dst) v (fun _ => True) (k + 1 + d) t = Fol (tv (st 0).tm) (fun j => (op j).dst) v (fun _ => True) (k + 1) t := Fol_skip d fun j h1 h2 hjt =>
            (T.fact (k := j) (by omega)).2.2.2.2.2.2.1 k (by omega) hc t hjt (List.mem_append_left _ (by rw [hdst]; simp))
          rw [show k + d + 1 = k + 1 + d by omega, this]
          simp only [Fol, true_and]
          rw [if_pos hdst]
        cases hce : cexec E (evalO E (st k).tm) (st (k + d + 1)).H (op k).op with
        | none => rw [hce] at hre; simp [sameVal] at hre
        | some x =>
          obtain ⟨cn, Hx⟩ := x
          obtain ⟨u', rfl, rfl, _⟩ := read_rf hc _ _ _ hce
          rw [hce] at hre
          cases hg : (st (k + d + 1)).tm.get t with
          | none => rw [hg] at hre; simp [sameVal] at hre
          | some y =>
            rw [hg] at hre
            simp only [sameVal] at hre
            have hy : y = v k := by rw [← htv]; unfold tv; rw [hg]
            have := (veq_eq 40).1 _ _ hre
            have e : u' = u := by rw [this, hy, hu]
            rw [e]
            rfl
    · have hsub : Sub (st (k + d)).H (st (k + d + 1)).H := by
        rcases quiet (T.row (k + d) hm) he with e | ⟨c, e⟩
        · rw [e]; exact fun _ _ h => h
        · rw [e]
          intro b o hb
          have := I.dom (k + d) (by omega) b o hb
          rw [Hp.get_new, if_neg (by omega)]; exact hb
      obtain ⟨u', h1, _, h3⟩ := read_rf hc _ _ _ ih
      cases h1
      exact h3 _ hsub
end
end Go.PE
namespace Go.PE
open Go Go.RowKit
open Classical
theorem getD_set {listed : Array Bool} {i j : Nat} (hi : i < listed.size) : (listed.setIfInBounds i true).getD j false = true ↔ listed.getD j false = true ∨ j = i := by
  by_cases e : j = i
  · subst e
    have : (listed.setIfInBounds j true).getD j false = true := by simp [hi]
    exact ⟨fun _ => .inr rfl, fun _ => this⟩
  · rw [Go.getD_set_ne false (fun h => e h.symm)]
    exact ⟨.inl, fun h => h.resolve_right e⟩
theorem put_getD {a : Act} {nt : Nat} {u : Value} {tm tm' : Tr Value} {dst : Option Nat} (h : put nt u tm dst = some tm') (hn : a.tmps.size = nt) (v' : Value) (t : Nat) :
    (a.put dst v').tmps.getD t undef = (if dst = some t then v' else a.tmps.getD t undef) ∧ (a.put dst v').tmps.size = nt ∧ (a.put dst v').defers = a.defers := by
  unfold put at h
  split at h
  · refine ⟨?_, hn, rfl⟩; rw [if_neg (by simp)]; rfl
  · rename_i d
    obtain ⟨hd, _⟩ := bif_some h
    have hd := blt_lt hd
    refine ⟨?_, by simp [Act.put, hn], rfl⟩
    show (a.tmps.setIfInBounds d v').getD t undef = _
    rw [getD_opt, getD_opt]
    by_cases e : t = d
    · subst e
      rw [if_pos rfl]
      simp [hn, hd]
    · rw [if_neg (by simpa using fun h => e h.symm), Array.getElem?_setIfInBounds_ne (fun h => e h.symm)]
noncomputable def evalF (E : Env) (f : Nat → Value) : Operand → Value
  | .tmp t => f t
  | .const v => bif flat' v then v else junk
  | .global g => bif Nat.blt g E.gl then .pointer (some ⟨g, 0, none⟩) else junk
  | .func f => .func (.func f) #[] #[]
section
variable {E : Env} {rec : Rec} {C : Ctx} {arr : Array Oper} {B : List (List Nat)} {N : Nat} {ix : Nat → Nat} {op : Nat → Oper} {st : Nat → St} {v : Nat → Value} {N0 : Nat} {w0 w : World} {ρ0 ρ : RM} {listed : Array Bool} {K : Nat} {a : Act}
theorem evalF_rel (ok : EnvOk E) {f : Nat → Value} {H : Hp} (W : WR E.G N0 w0 ρ H w) (hf : ∀ t, VR ρ (f t) (a.tmps.getD t undef)) (x : Operand) : VR ρ (evalF E f x) (a.eval x) := by
  cases x with
  | tmp t => exact hf t
  | const v => exact evalO_rel (E := E) (tm := .e) (a := { tmps := #[], defers := [] }) ok.gG W (fun t => VR.undef) (.const v)
  | global g => exact evalO_rel (E := E) (tm := .e) (a := { tmps := #[], defers := [] }) ok.gG W (fun t => VR.undef) (.global g)
  | func f => exact evalO_rel (E := E) (tm := .e) (a := { tmps := #[], defers := [] }) ok.gG W (fun t => VR.undef) (.func f)
theorem Inv.common (I : Inv E C arr N ix op st v E.G N0 w0 ρ0 listed ρ K a w) (T : Tr9 E rec C arr B N ix op st v) {k : Nat} (hk : k < N) (hD : ¬ listed.getD (ix k) false = true) (hcl : ∀ e ∈ edgesOf (op k), listed.getD e false = true) {ρ' : RM} (hle : ρ.Le ρ') {v' : Value} (hv : VR ρ' (v k) v') :
    (listed.setIfInBounds (ix k) true).size = arr.size ∧
    (∀ j, (listed.setIfInBounds (ix k) true).getD j false = true ↔ listed.getD j false = true ∨ j = ix k) ∧
    (∀ j, j < N → (listed.setIfInBounds (ix k) true).getD (ix j) false = true → ∀ e ∈ edgesOf (op j), (listed.setIfInBounds (ix k) true).getD e false = true) ∧
    (∀ t, VR ρ' (Fol (tv (st 0).tm) (fun j => (op j).dst) v (fun j => (listed.setIfInBounds (ix k) true).getD (ix j) false = true) N t) ((a.put (op k).dst v').tmps.getD t undef)) ∧
    (a.put (op k).dst v').tmps.size = C.nt ∧ DL ρ' (st 0).df (a.put (op k).dst v').defers := by
  have hik : ix k < listed.size := by rw [I.hsz]; exact (Array.getElem?_eq_some_iff.1 (T.row k hk).at_).1
  have hset := fun j => getD_set (j := j) hik
  have hinj : ∀ j, j < N → ix j = ix k → j = k := by
    intro j hj e
    rcases Nat.lt_trichotomy j k with h | h | h
    · exact absurd e ((T.fact hk).1 j h)
    · exact h
    · exact absurd e.symm ((T.fact hj).1 k h)
  have hput := fun t => put_getD (T.row k hk).put I.nt v' t
  refine ⟨by simp [I.hsz], hset, ?_, ?_, (hput 0).2.1, by rw [(hput 0).2.2]; exact I.df.mono hle⟩
  · intro j hj hDj e he
    refine (hset e).2 ?_
    rcases (hset _).1 hDj with h | h
    · exact .inl (I.closed j hj h e he)
    · have := hinj j hj h; subst this; exact .inl (hcl e he)
  · intro t
    rw [(hput t).1]
    by_cases hd : (op k).dst = some t
    · rw [if_pos hd]
      have hnm : t ∈ namesOf arr (op k) := List.mem_append_left _ (by rw [hd]; simp)
      have : Fol (tv (st 0).tm) (fun j => (op j).dst) v (fun j => (listed.setIfInBounds (ix k) true).getD (ix j) false = true) N t = v k := by
        rw [Fol_congr (D' := fun j => j < k + 1) (fun j hj hjt => by
          rw [hset]
          have := I.names T hk hD hcl hnm j hj hjt
          constructor
          · rintro (h | h)
            · have := this.1 h; omega
            · have := hinj j hj h; omega
          · intro h
            by_cases e : j = k
            · right; rw [e]
            · left; exact this.2 (by omega))]
        rw [Fol_cut (by omega)]
        simp only [Fol, true_and]
        rw [if_pos hd]
      rw [this]; exact hv
    · rw [if_neg hd]
      have : Fol (tv (st 0).tm) (fun j => (op j).dst) v (fun j => (listed.setIfInBounds (ix k) true).getD (ix j) false = true) N t = Fol (tv (st 0).tm) (fun j => (op j).dst) v (fun j => listed.getD (ix j) false = true) N t := by
        refine Fol_congr fun j hj hjt => ?_
        rw [hset]
        refine ⟨fun h => h.resolve_right fun e => ?_, .inl⟩
        have := hinj j hj e; subst this; exact hd hjt
      rw [this]; exact (I.fr t).mono hle
theorem Inv.low (I : Inv E C arr N ix op st v E.G N0 w0 ρ0 listed ρ K a w) (T : Tr9 E rec C arr B N ix op st v) {k : Nat} (hkK : k < K) (hD : ¬ listed.getD (ix k) false = true) (hcl : ∀ e ∈ edgesOf (op k), listed.getD e false = true) {ρ' : RM} (hle : ρ.Le ρ') {v' : Value} (hv : VR ρ' (v k) v') {w' : World}
    (W : WR E.G N0 w0 ρ' (st K).H w') (hl : ∀ k2, k2 < K → k2 ≠ k → (st k2).H.n < (st (k2 + 1)).H.n → ρ (st k2).H.n = none → ρ' (st k2).H.n = none) (X : Ext ρ0 (st 0).H ρ' (st K).H) :
    Inv E C arr N ix op st v E.G N0 w0 ρ0 (listed.setIfInBounds (ix k) true) ρ' K (a.put (op k).dst v') w' := by
  have hk : k < N := Nat.lt_of_lt_of_le hkK I.hK
  obtain ⟨h1, h2, h3, h4, h5, h6⟩ := I.common T hk hD hcl hle hv
  refine ⟨h1, h3, I.hK, fun j hj hc => (h2 _).2 (.inl (I.eff j hj hc)), fun hKN => ?_, h4, h5, h6, W, I.dom, I.mon, ?_, X⟩
  · obtain ⟨g1, g2⟩ := I.here hKN
    refine ⟨g1, fun h => ?_⟩
    rcases (h2 _).1 h with h | h
    · exact g2 h
    · exact (T.fact hKN).1 k hkK h.symm
  · intro k2 hk2 hc hD2 hn
    have hD2' : ¬ listed.getD (ix k2) false = true := fun h => hD2 ((h2 _).2 (.inl h))
    have hne : k2 ≠ k := by intro e; subst e; exact hD2 ((h2 _).2 (.inr rfl))
    obtain ⟨g1, g2⟩ := I.late k2 hk2 hc hD2' hn
    exact ⟨hl k2 hk2 hne hn g1, g2⟩
theorem Inv.eff' (I : Inv E C arr N ix op st v E.G N0 w0 ρ0 listed ρ K a w) (T : Tr9 E rec C arr B N ix op st v) (hKN : K < N) (hcl : ∀ e ∈ edgesOf (op K), listed.getD e false = true) {ρ' : RM} {v' : Value} (hv : VR ρ' (v K) v') {w' : World}
    (W : WR E.G N0 w0 ρ' (st (K + 1)).H w') (X : Ext ρ (st K).H ρ' (st (K + 1)).H) :
    ∃ K', Inv E C arr N ix op st v E.G N0 w0 ρ0 (listed.setIfInBounds (ix K) true) ρ' K' (a.put (op K).dst v') w' := by
  obtain ⟨g1, g2⟩ := I.here hKN
  obtain ⟨h1, h2, h3, h4, h5, h6⟩ := I.common T hKN g2 hcl X.keep hv
  obtain ⟨d, d1, d2, d3⟩ := Tr9.next (E := E) (op := op) (K + 1) (by omega : K + 1 ≤ N)
  obtain ⟨W', e1, e2⟩ := T.adv W d d1 d2
  have hle : (st (K + 1)).H.n ≤ (st (K + 1 + d)).H.n := (e2 (K + 1) (K + 1 + d) (Nat.le_refl _) (by omega) (Nat.le_refl _)).1
  have X2 : Ext ρ' (st (K + 1)).H ρ' (st (K + 1 + d)).H := ⟨hle, .refl _, fun b hb hn => ⟨hn, (e2 (K + 1) (K + 1 + d) (Nat.le_refl _) (by omega) (Nat.le_refl _)).2 b hb⟩⟩
  refine ⟨K + 1 + d, h1, h3, d1, ?_, ?_, h4, h5, h6, W', ?_, ?_, ?_, (I.ext.trans X).trans X2⟩
  · intro j hj hc
    rcases Nat.lt_trichotomy j K with h | h | h
    · exact (h2 _).2 (.inl (I.eff j h hc))
    · subst h; exact (h2 _).2 (.inr rfl)
    · exact absurd hc (d2 j (by omega) hj)
  · intro hlt
    refine ⟨d3 hlt, fun h => ?_⟩
    rcases (h2 _).1 h with h | h
    · have := I.lt' T hlt h; omega
    · exact (T.fact hlt).1 K (by omega) h.symm
  · intro m hm
    rcases Nat.lt_or_ge K m with h | h
    · exact e1 m (by omega) hm
    · exact I.dom m h
  · intro m m' hmm hm'
    rcases Nat.lt_or_ge K m' with h | h
    · rcases Nat.lt_or_ge K m with h' | h'
      · exact (e2 m m' (by omega) hmm hm').1
      · exact Nat.le_trans (I.mon m K h' (Nat.le_refl _)) (Nat.le_trans X.le (e2 (K + 1) m' (Nat.le_refl _) (by omega) hm').1)
    · exact I.mon m m' hmm h
  · intro k2 hk2 hc hD2 hn
    have hD2' : ¬ listed.getD (ix k2) false = true := fun h => hD2 ((h2 _).2 (.inl h))
    rcases Nat.lt_trichotomy k2 K with h | h | h
    · obtain ⟨q1, q2⟩ := I.late k2 h hc hD2' hn
      have hb : (st k2).H.n < (st K).H.n := Nat.lt_of_lt_of_le hn (I.mon (k2 + 1) K (by omega) (Nat.le_refl _))
      obtain ⟨q3, q4⟩ := X.fresh _ hb q1
      have hb' : (st k2).H.n < (st (K + 1)).H.n := Nat.lt_of_lt_of_le hb X.le
      exact ⟨q3, ((e2 (K + 1) (K + 1 + d) (Nat.le_refl _) (by omega) (Nat.le_refl _)).2 _ hb').trans (q4.trans q2)⟩
    · subst h; rw [g1] at hc; cases hc
    · refine ⟨?_, (e2 (k2 + 1) (K + 1 + d) (by omega) (by omega) (Nat.le_refl _)).2 _ hn⟩
      cases hr : ρ' (st k2).H.n with
      | none => rfl
      | some m =>
        have h1 := W.rdom _ _ hr
        have h2 := (e2 (K + 1) k2 (Nat.le_refl _) (by omega) (by omega)).1
        omega
theorem drawn_step (ok : EnvOk E) (hrec : SoundRec E N0 w0 rec) (T : Tr9 E rec C arr B N ix op st v) (I : Inv E C arr N ix op st v E.G N0 w0 ρ0 listed ρ K a w) {i : Nat} (hi : i ∈ Region.ready .any arr listed) {rr : Option Nat} {Q : Exit → Act → World → Prop} {next : Act → World → Prop}
    (hnext : ∀ ρ' K' a' w', Inv E C arr N ix op st v E.G N0 w0 ρ0 (listed.setIfInBounds i true) ρ' K' a' w' → next a' w') : wpOpIn (FW rr) 0 E.P arr Q i next a w := by
  obtain ⟨hD0, o, ho, hafter⟩ := mem_ready.1 hi
  have hisz : i < arr.size := (Array.getElem?_eq_some_iff.1 ho).1
  obtain ⟨k, hk, rfl⟩ := T.all i hisz
  have S := T.row k hk
  have hoo : o = op k := by have := S.at_; rw [ho] at this; cases this; rfl
  subst hoo
  have hD : ¬ listed.getD (ix k) false = true := by
    intro h
    have : ix k < listed.size := by rw [I.hsz]; exact hisz
    simp [this] at h hD0
    rw [h] at hD0; cases hD0
  have hcl : ∀ e ∈ edgesOf (op k), listed.getD e false = true := by
    intro e he
    obtain ⟨x, hx, rfl⟩ := List.mem_map.1 he
    obtain ⟨hx1, hx2⟩ := List.mem_filter.1 hx
    exact hafter x (by simpa using hx1) hx2
  have hkK := I.lt T hk hcl
  have hRO : ∀ d, d ∈ namesR arr (op k) → d ∈ namesOf arr (op k) := fun d h => List.mem_append_right _ h
  obtain ⟨b, hw, hrun⟩ := S.run
  have hwt : Region.wanted (op k) (yielded arr a.tmps) = b := wanted_rel2 hw fun d hd => by
    rw [← I.val T hk hD hcl (hRO d hd)]; exact I.fr d
  unfold wpOpIn
  simp only [ho]
  rw [hwt]
  rcases hrun with ⟨rfl, cn, H1, hce, hst⟩ | ⟨rfl, hvk, hH⟩
  · rw [if_pos rfl]
    refine ⟨fun _ _ => trivial, ?_⟩
    have hsem : (op k).semAt (FW rr).round a.eval = execOp a.eval (op k) := by
      refine Oper.semAt_eq _ _ _ fun c hd => ?_
      rw [hd] at hce
      obtain ⟨d, rfl⟩ := cexec_defer hce
      cases hst
    rw [hsem]
    have hρ := evalF_rel ok I.wr I.fr
    have hcg : ∀ H, cexec E (evalF E (Fol (tv (st 0).tm) (fun j => (op j).dst) v (fun j => listed.getD (ix j) false = true) N)) H (op k).op = cexec E (evalO E (st k).tm) H (op k).op := by
      intro H
      refine cexec_congr _ fun x hx => ?_
      cases x with
      | tmp t =>
        have : t ∈ namesR arr (op k) := List.mem_append_right _ (List.mem_filterMap.2 ⟨.tmp t, by simpa using hx, rfl⟩)
        exact I.val T hk hD hcl (hRO t this)
      | _ => rfl
    have quietFin : k < K → ∀ u, v k = u → cexec E (evalO E (st k).tm) (st K).H (op k).op = some (.val u, (st K).H) → (op k).uponIn (FW rr) 0 E.P a next Q ((execOp a.eval (op k)).run E.P w) := by
      intro hlt u hu hp
      obtain ⟨v', w', ρ', hr, hv, O⟩ := cexec_sound ok I.wr hρ (o := op k) ((hcg _).trans hp)
      rw [hr]
      refine hnext _ _ _ _ (I.low T hlt hD hcl O.ext.keep (by rw [hu]; exact hv) O.wr (fun k2 h2 hne hn hnone => ?_) (I.ext.trans O.ext))
      exact (O.ext.fresh _ (Nat.lt_of_lt_of_le hn (I.mon (k2 + 1) K (by omega) (Nat.le_refl _))) hnone).1
    rcases cls_cases E (op k).op with hc | hc | hc | hc
    case' inr.inr.inr =>
      -- an effect
      have hkk : k = K := by
        rcases Nat.lt_or_ge k K with h | h
        · exact absurd (I.eff k h hc) hD
        · omega
      subst hkk
      have hop := cexec_sound ok I.wr hρ (o := op k) ((hcg _).trans hce)
      have fin : ∀ ρ' w' v', VR ρ' (v k) v' → WR E.G N0 w0 ρ' (st (k + 1)).H w' → Ext ρ (st k).H ρ' (st (k + 1)).H → next (a.put (op k).dst v') w' := by
        intro ρ' w' v' hv W X
        obtain ⟨K', I'⟩ := I.eff' T hk hcl hv W X
        exact hnext _ _ _ _ I'
      have hout : ∀ {r : Res} {H0 : Hp} (X0 : Ext ρ (st k).H ρ H0) (_ : r = .out (v k) (st (k + 1)).H) (en : Ending) (w' : World), KPost E.G N0 w0 ρ H0 r en w' → (match en with
          | .returned v => next (a.put (op k).dst v) w'
          | .panicked chain => Q (.panic chain) a w'
          | .outgrown => LetsOut Q) := by
        intro r H0 X0 hr en w' hp
        subst hr
        obtain ⟨ρ', v', rfl, hv, W, X⟩ := hp
        exact fin ρ' w' v' hv W (X0.trans X)
      generalize hvv : v k = vv at hst
      generalize hHH : (st (k + 1)).H = HH at hst
      cases hst with
      | val u =>
        obtain ⟨v', w', ρ', hr, hv, O⟩ := hop
        rw [hr]
        exact fin ρ' w' v' (by rw [hvv]; exact hv) (by rw [hHH]; exact O.wr) (by rw [hHH]; exact O.ext)
      | skip =>
        obtain ⟨w', ρ', hr, O⟩ := hop
        rw [hr]
        exact fin ρ' w' undef (by rw [hvv]; exact .undef) (by rw [hHH]; exact O.wr) (by rw [hHH]; exact O.ext)
      | @enter f args _ _ _ hrc =>
        obtain ⟨args', hr, ha, hH1⟩ := hop
        rw [hr]
        subst hH1
        refine ⟨fun h => (by cases h), callsIn_FW (CallsIn.mono (call_sound hrec I.wr ha (by rw [hrc]; simp)) ?_)⟩
        intro en w' hp
        have := hout (.refl _ _) (by rw [hrc, hvv, hHH]) en w' hp
        cases en <;> exact this
      | @round l args _ _ _ hrc =>
        obtain ⟨args', m, hr, hm, ha, hH1⟩ := hop
        subst hH1
        obtain ⟨f, t, as, bd, q1, q2⟩ := round_sound hrec I.wr hm ha (by rw [hrc]; simp)
        rw [hr, q1]
        refine ⟨fun h => (by cases h), roundIn_FW (RoundIn.mono q2 ?_)⟩
        intro en w' hp
        have := hout (.refl _ _) (by rw [hrc, hvv, hHH]) en w' hp
        cases en <;> exact this
    all_goals
      have hlt : k < K := by
        rcases Nat.lt_or_ge k K with h | h
        · exact h
        · exfalso
          have e : k = K := by omega
          subst e
          have := (I.here hk).1
          rw [hc] at this; cases this
    · obtain ⟨X, hX⟩ := pure_pf (ρ := evalO E (st k).tm) hc
      have hX' : ∀ H, cexec E (evalO E (st k).tm) H (op k).op = oval H X := hX
      rw [hX'] at hce
      obtain ⟨u, rfl, rfl, rfl⟩ := oval_some hce
      exact quietFin hlt u hst.of_val.1 (hX' _)
    · obtain ⟨u, rfl, rfl, _⟩ := read_rf hc _ _ _ hce
      have hu := hst.of_val.1
      have := I.read T hk hD hc hw hce hu.symm (K - k) (by omega)
      rw [show k + (K - k) = K by omega] at this
      exact quietFin hlt u hu this
    · obtain ⟨s, hr, o, u, x, v', sz, hcn, hH1, hro, hdead, hrun, hrel⟩ := alloc_ar ok (w := w) hρ hc ((hcg _).trans hce)
      subst hcn hH1
      obtain ⟨hu, hH'⟩ := hst.of_val
      have hn : (st k).H.n < (st (k + 1)).H.n := by rw [hH']; simp
      obtain ⟨q1, q2⟩ := I.late k hlt hc hD hn
      have q3 : (st K).H.get (st k).H.n = some o := by rw [q2, hH', Hp.get_new, if_pos rfl]
      have hle : ρ.Le (fun j => if j = (st k).H.n then some ⟨w.heap.size, 0, sz, none⟩ else ρ j) := fun j y hj => by
        by_cases e : j = (st k).H.n
        · subst e; rw [q1] at hj; cases hj
        · simp only [if_neg e]; exact hj
      obtain ⟨r1, r2⟩ := hrel _ hle (by simp only [if_pos])
      have W' := I.wr.late q3 q1 (m := ⟨w.heap.size, 0, sz, none⟩) (x := x) rfl r2
      rw [hr]
      simp only [vrun, hrun, Result.andThen]
      refine hnext _ _ _ _ (I.low T hlt hD hcl hle (by rw [hu]; exact r1) W' ?_ ?_)
      · intro k2 hk2 hne hn2 hnone
        have : (st k2).H.n ≠ (st k).H.n := by
          rcases Nat.lt_or_ge k2 k with h | h
          · have := I.mon (k2 + 1) k (by omega) (by omega); omega
          · have := I.mon (k + 1) k2 (by omega) (by omega); omega
        simp only [if_neg this]; exact hnone
      · refine ⟨I.ext.le, I.ext.keep.trans hle, fun b hb hnone => ?_⟩
        obtain ⟨z1, z2⟩ := I.ext.fresh b hb hnone
        have : b ≠ (st k).H.n := by have := I.mon 0 k (by omega) (by omega); omega
        exact ⟨by simp only [if_neg this]; exact z1, z2⟩
  · rw [if_neg (by decide)]
    refine ⟨fun _ _ => trivial, ?_⟩
    rcases Nat.lt_or_ge k K with h | h
    · exact hnext _ _ _ _ (I.low T h hD hcl (.refl _) (by rw [hvk]; exact .undef) I.wr (fun _ _ _ _ h => h) I.ext)
    · have e : k = K := by omega
      subst e
      obtain ⟨K', I'⟩ := I.eff' T hk hcl (ρ' := ρ) (v' := undef) (by rw [hvk]; exact .undef) (by rw [hH]; exact I.wr) (by rw [hH]; exact .refl _ _)
      exact hnext _ _ _ _ I'
end
end Go.PE
namespace Go.PE
open Go Go.RowKit
open Classical
theorem filter_lt {α : Type} {p q : α → Bool} : ∀ {l : List α}, (∀ x ∈ l, q x = true → p x = true) → (∃ x, x ∈ l ∧ p x = true ∧ q x = false) → (l.filter q).length < (l.filter p).length
  | [], _, ⟨x, hx, _⟩ => by cases hx
  | y :: l, h, ⟨x, hx, h1, h2⟩ => by
    have hle : (l.filter q).length ≤ (l.filter p).length := by
      clear hx
      have h' : ∀ z ∈ l, q z = true → p z = true := fun z hz => h z (List.mem_cons_of_mem _ hz)
      clear h
      induction l with
      | nil => simp
      | cons z l ih =>
        have := ih fun u hu => h' u (List.mem_cons_of_mem _ hu)
        have hz := h' z (by simp)
        cases hq : q z <;> cases hp : p z <;> simp_all <;> omega
    rcases List.mem_cons.1 hx with e | hx
    · subst e
      simp only [List.filter_cons, h1, h2, if_true, Bool.false_eq_true, if_false, List.length_cons]
      omega
    · have := filter_lt (fun z hz => h z (List.mem_cons_of_mem _ hz)) ⟨x, hx, h1, h2⟩
      have hz := h y (by simp)
      cases hq : q y <;> cases hp : p y <;> simp_all <;> omega
def cnt (n : Nat) (listed : Array Bool) : Nat := ((List.range n).filter fun i => !listed.getD i false).length
section
variable {E : Env} {rec : Rec} {C : Ctx} {arr : Array Oper} {B : List (List Nat)} {N : Nat} {ix : Nat → Nat} {op : Nat → Oper} {st : Nat → St} {v : Nat → Value} {N0 : Nat} {w0 w : World} {ρ0 ρ : RM} {listed : Array Bool} {K : Nat} {a : Act}
theorem Inv.full (I : Inv E C arr N ix op st v E.G N0 w0 ρ0 listed ρ K a w) (T : Tr9 E rec C arr B N ix op st v) (hr : Region.ready .any arr listed = []) : ∀ k, k < N → listed.getD (ix k) false = true := by
  intro k
  induction k using Nat.strongRecOn with
  | _ k ih =>
    intro hk
    apply Classical.byContradiction
    intro hD
    have hlt : ix k < listed.size := by rw [I.hsz]; exact (Array.getElem?_eq_some_iff.1 (T.row k hk).at_).1
    have : ix k ∈ Region.ready .any arr listed := by
      refine mem_ready.2 ⟨?_, op k, (T.row k hk).at_, fun e he hb => ?_⟩
      · cases hx : listed.getD (ix k) true with
        | false => rfl
        | true => exfalso; apply hD; simp [hlt] at hx ⊢; exact hx
      · have hin : e.on ∈ edgesOf (op k) := List.mem_map.2 ⟨e, List.mem_filter.2 ⟨by simpa using he, hb⟩, rfl⟩
        obtain ⟨k', hk', e'⟩ := (T.fact hk).2.1 _ ((T.fact hk).2.2.2.2.1 _ hin)
        rw [← e']; exact ih k' hk' (by omega)
    rw [hr] at this; cases this
theorem Inv.done (I : Inv E C arr N ix op st v E.G N0 w0 ρ0 listed ρ K a w) (T : Tr9 E rec C arr B N ix op st v) (hr : Region.ready .any arr listed = []) : CPost E.G N0 w0 C ρ0 (st 0).H .normal (st N) .normal a w := by
  have hall := I.full T hr
  have hKN : K = N := by
    rcases Nat.lt_or_ge K N with h | h
    · exact absurd (hall K h) (I.here h).2
    · have := I.hK; omega
  subst hKN
  refine ⟨ρ, .normal, ⟨I.wr, I.nt, fun t => ?_, by rw [T.df (Nat.le_refl _)]; exact I.df⟩, I.ext⟩
  have h1 := I.fr t
  rw [Fol_congr (D' := fun _ => True) (fun j hj _ => ⟨fun _ => trivial, fun _ => hall j hj⟩), ← T.tm t (Nat.le_refl _)] at h1
  exact h1
theorem drawn_any (ok : EnvOk E) (hrec : SoundRec E N0 w0 rec) (T : Tr9 E rec C arr B N ix op st v) {rr : Option Nat} : ∀ (fuel : Nat) (listed : Array Bool) (ρ : RM) (K : Nat) (a : Act) (w : World), Inv E C arr N ix op st v E.G N0 w0 ρ0 listed ρ K a w → cnt arr.size listed ≤ fuel →
    wpAnyIn (FW rr) 0 E.P .any arr (CPost E.G N0 w0 C ρ0 (st 0).H .normal (st N)) fuel listed a w := by
  have hun : ∀ (listed : Array Bool) (i : Nat), listed.size = arr.size → i ∈ Region.ready .any arr listed → i < arr.size ∧ listed.getD i false = false := by
    intro listed i hs hi
    obtain ⟨h0, o, ho, _⟩ := mem_ready.1 hi
    have hisz : i < arr.size := (Array.getElem?_eq_some_iff.1 ho).1
    refine ⟨hisz, ?_⟩
    have : i < listed.size := by omega
    simp [this] at h0 ⊢
    exact h0
  intro fuel
  induction fuel with
  | zero =>
    intro listed ρ K a w I hc
    have hr : Region.ready .any arr listed = [] := by
      cases hx : Region.ready .any arr listed with
      | nil => rfl
      | cons i l =>
        exfalso
        obtain ⟨h1, h2⟩ := hun listed i I.hsz (by rw [hx]; simp)
        have : i ∈ (List.range arr.size).filter fun i => !listed.getD i false := List.mem_filter.2 ⟨List.mem_range.2 h1, by rw [h2]; rfl⟩
        have := List.length_pos_of_mem this
        unfold cnt at hc; omega
    exact ⟨hr, I.done T hr⟩
  | succ fuel ih =>
    intro listed ρ K a w I hc
    refine ⟨fun hr => I.done T hr, fun i hi => drawn_step ok hrec T I hi fun ρ' K' a' w' I' => ih _ ρ' K' a' w' I' ?_⟩
    obtain ⟨h1, h2⟩ := hun listed i I.hsz hi
    have hlt : cnt arr.size (listed.setIfInBounds i true) < cnt arr.size listed := by
      unfold cnt
      refine filter_lt (fun x _ hx => ?_) ⟨i, List.mem_range.2 h1, by rw [h2]; rfl, ?_⟩
      · cases hy : listed.getD x false with
        | false => rfl
        | true => rw [(getD_set (by rw [I.hsz]; exact h1)).2 (.inl hy)] at hx; cases hx
      · rw [(getD_set (by rw [I.hsz]; exact h1)).2 (.inr rfl)]; rfl
    omega
theorem Inv.start (T : Tr9 E rec C arr B N ix op st v) (S : SR E.G N0 w0 C (st 0) ρ0 a w) : ∃ K, Inv E C arr N ix op st v E.G N0 w0 ρ0 (Array.replicate arr.size false) ρ0 K a w := by
  have hno : ∀ j : Nat, ¬ (Array.replicate arr.size false).getD j false = true := by
    intro j h
    unfold Array.getD at h
    split at h
    · simp at h
    · cases h
  obtain ⟨d, d1, d2, d3⟩ := Tr9.next (E := E) (op := op) 0 (Nat.zero_le N)
  obtain ⟨W', e1, e2⟩ := T.adv S.wr d d1 d2
  simp only [Nat.zero_add] at d1 d2 d3 W' e1 e2
  refine ⟨d, by simp, fun k _ h => absurd h (hno _), d1, fun k hk hc => absurd hc (d2 k (Nat.zero_le _) hk), fun h => ⟨d3 h, hno _⟩, fun t => ?_, S.nt, S.df, W', fun m hm => e1 m (Nat.zero_le _) hm,
    fun m m' h1 h2 => (e2 m m' (Nat.zero_le _) h1 h2).1, ?_, ⟨(e2 0 d (Nat.le_refl _) (Nat.zero_le _) (Nat.le_refl _)).1, .refl _, fun b hb hn => ⟨hn, (e2 0 d (Nat.le_refl _) (Nat.zero_le _) (Nat.le_refl _)).2 b hb⟩⟩⟩
  · rw [Fol_congr (D' := fun j => j < 0) (fun j _ _ => ⟨fun h => absurd h (hno _), fun h => by omega⟩), Fol_cut (Nat.zero_le _)]
    exact S.tm t
  · intro k hk _ _ hn
    refine ⟨?_, (e2 (k + 1) d (Nat.zero_le _) (by omega) (Nat.le_refl _)).2 _ hn⟩
    cases hr : ρ0 (st k).H.n with
    | none => rfl
    | some m =>
      have h1 := S.wr.rdom _ _ hr
      have h2 := (e2 0 k (Nat.le_refl _) (Nat.zero_le _) (by omega)).1
      omega
theorem drawn_ok (ok : EnvOk E) (hrec : SoundRec E N0 w0 rec) {s : St} {e : Ex} {s' : St} {id : Nat} (h : sDraw E rec C arr s (mkPlan E arr) = .code e s') : CodeOk E N0 w0 C (.region id arr true) s e s' := by
  intro ρ rr a w S hrd
  unfold mkPlan mkPlan2 at h
  generalize closure arr.toList = B at h
  generalize order E arr arr.size [] = l at h
  cases hok : okL E arr B [] l with
  | false => rw [hok] at h; cases h
  | true =>
    rw [hok] at h
    obtain ⟨rfl, ix, op, st, v, h1, h2, h3, h4⟩ := trace_of l [] s hok h
    have T : Tr9 E rec C arr B l.length ix op st v := ⟨h3, fun i hi => mem_doneFrom.1 (subN_iff.1 h4 i (List.mem_range.2 hi))⟩
    subst h1 h2
    refine wpIn_region_any ok.mixed ?_
    have S' : SR E.G N0 w0 C (st 0) ρ a { w with drawn := w.drawn + 1 } := ⟨S.wr.drawn _, S.nt, S.tm, S.df⟩
    obtain ⟨K, I⟩ := Inv.start T S'
    refine drawn_any ok hrec T arr.size _ ρ K a _ I ?_
    unfold cnt
    exact Nat.le_trans (List.length_filter_le _ _) (by simp)
/-! ### the whole -/
def isC : Res → Prop
  | .out _ _ => False
  | .pan _ _ => False
  | _ => True
theorem oPut_isC {k : St → Res} (hk : ∀ s, isC (k s)) (df : List CD) (H : Hp) (o : Option (Tr Value)) : isC (oPut k df H o) := by
  cases o with
  | none => trivial
  | some tm => exact hk _
theorem oOut_isC {k : St → Res} (hk : ∀ s, isC (k s)) (dst : Option Nat) (s : St) (r : Res) : isC (oOut k C dst s r) := by
  cases r <;> first | trivial | exact oPut_isC hk _ _ _
theorem oCons_isC {k : St → Res} (hk : ∀ s, isC (k s)) (s : St) (o : Oper) (b : Option Bool) : isC (oCons E rec k C s o b) := by
  cases b with
  | none => trivial
  | some b =>
    cases b with
    | false => exact oPut_isC hk _ _ _
    | true =>
      simp only [oCons]
      cases cexec E (evalO E s.tm) s.H o.op with
      | none => trivial
      | some x =>
        obtain ⟨cn, H⟩ := x
        cases cn with
        | val v => exact oPut_isC hk _ _ _
        | skip => exact oPut_isC hk _ _ _
        | enter f args => exact oOut_isC hk _ _ _
        | round l args => exact oOut_isC hk _ _ _
        | panic v => trivial
        | defer d =>
          simp only [oRes, oNext]
          split
          · exact oPut_isC hk _ _ _
          · trivial
theorem runOps_isC (arr : Array Oper) : ∀ (l : List Oper) (s : St), isC (runOps E rec C arr l s)
  | [], _ => trivial
  | o :: l, s => oCons_isC (runOps_isC arr l) s o _
theorem dOut_isC {k : St → Res} (hk : ∀ s, isC (k s)) (dst : Option Nat) (s : St) (r : Res) : isC (dOut k C dst s r) := by
  cases r <;> first | trivial | exact oPut_isC hk _ _ _
theorem dCons_isC {k : St → Res} (hk : ∀ s, isC (k s)) (s : St) (o : Oper) (b : Option Bool) : isC (dCons E rec k C s o b) := by
  cases b with
  | none => trivial
  | some b =>
    cases b with
    | false => exact oPut_isC hk _ _ _
    | true =>
      simp only [dCons]
      cases cexec E (evalO E s.tm) s.H o.op with
      | none => trivial
      | some x =>
        obtain ⟨cn, H⟩ := x
        cases cn with
        | val v => exact oPut_isC hk _ _ _
        | skip => exact oPut_isC hk _ _ _
        | enter f args => exact dOut_isC hk _ _ _
        | round l args => exact dOut_isC hk _ _ _
        | panic v => trivial
        | defer d => trivial
theorem runPlan_isC (arr : Array Oper) : ∀ (l : List PS) (s : St), isC (runPlan E rec C arr l s)
  | [], _ => trivial
  | p :: l, s => dCons_isC (fun s => by
      cases h : reOk E arr s p.re with
      | true => exact runPlan_isC arr l s
      | false => exact trivial) s p.o _
theorem rec_isC (hrec : SoundRec E N0 w0 rec) (c : Code) (s : St) : isC (rec (.code C c s)) := by
  rcases not_code hrec (c := c) (C := C) (s := s) rfl with h | ⟨e, s', h⟩ <;> rw [h] <;> trivial
theorem rf_isC (hrec : SoundRec E N0 w0 rec) (tm : Tr Value) (df : List CD) (l : Nat) (H : Hp) (v : Value) : isC (rfCall E rec C tm df l H v) := by
  unfold rfCall
  split
  · cases hasBody (E.ft.get _) with
    | false => trivial
    | true =>
      simp only [cond_true]
      unfold rfEnd
      split
      · unfold rfEnd2
        split
        · rename_i st pend d _
          cases isBusy _ with
          | true => trivial
          | false =>
            simp only [cond_false]
            unfold rfJump
            split
            · trivial
            · exact rec_isC hrec _ _
        · trivial
      · trivial
      · trivial
  · trivial
theorem sCode_isC (hrec : SoundRec E N0 w0 rec) (s : St) (c : Code) : isC (sCode E rec C s c) := by
  cases c <;> try trivial
  case seq x y =>
    simp only [sCode, sSeq]
    split
    · split
      · exact rec_isC hrec _ _
      · trivial
    · trivial
  case cond c x y =>
    simp only [sCode, sCond]
    split
    · exact rec_isC hrec _ _
    · exact rec_isC hrec _ _
    · trivial
  case block id b =>
    simp only [sCode, sBlock]
    split
    · split
      · cases Nat.beq _ id <;> trivial
      · trivial
    · trivial
  case scope b =>
    simp only [sCode, sScope]
    split
    · split <;> trivial
    · trivial
  case loop b =>
    simp only [sCode, sLoop]
    split
    · split
      · exact rec_isC hrec _ _
      · trivial
    · trivial
  case region id ops d =>
    simp only [sCode]
    cases d with
    | false => exact runOps_isC _ _ _
    | true =>
      simp only [sRegion]
      unfold sDraw
      split
      · exact runPlan_isC _ _ _
      · trivial
  case rangeFunc f ps as bd =>
    simp only [sCode]
    cases C.rd with
    | none => exact rf_isC hrec _ _ _ _ _
    | some l =>
      simp only [sRange]
      unfold sRangeIn
      split
      · exact rf_isC hrec _ _ _ _ _
      · trivial
end
end Go.PE
namespace Go.PE
open Go Go.RowKit
section
variable {E : Env} {N0 : Nat} {w0 : World}
theorem code_ok (ok : EnvOk E) {n : Nat} (hlow : ∀ k, k < n + 1 → SoundRec E N0 w0 (ev E k)) {C : Ctx} {s : St} {c : Code} {e : Ex} {s' : St} (h : sCode E (ev E n) C s c = .code e s') : CodeOk E N0 w0 C c s e s' := by
  have hrec := hlow n (by omega)
  cases c with
  | skip =>
    simp only [sCode, Res.code.injEq] at h; obtain ⟨rfl, rfl⟩ := h
    intro ρ rr a w S _; exact wpIn_skip ⟨ρ, .normal, S, .refl _ _⟩
  | label l =>
    simp only [sCode, Res.code.injEq] at h; obtain ⟨rfl, rfl⟩ := h
    intro ρ rr a w S _; exact wpIn_label ⟨ρ, .normal, S, .refl _ _⟩
  | exit id =>
    simp only [sCode, Res.code.injEq] at h; obtain ⟨rfl, rfl⟩ := h
    intro ρ rr a w S _; exact wpIn_exit ⟨ρ, .exit id, S, .refl _ _⟩
  | goto l =>
    simp only [sCode, Res.code.injEq] at h; obtain ⟨rfl, rfl⟩ := h
    intro ρ rr a w S _; exact wpIn_goto ⟨ρ, .goto l, S, .refl _ _⟩
  | ret =>
    simp only [sCode, Res.code.injEq] at h; obtain ⟨rfl, rfl⟩ := h
    intro ρ rr a w S _; exact wpIn_ret ⟨ρ, .ret, S, .refl _ _⟩
  | seq x y =>
    simp only [sCode] at h
    rcases not_code hrec (c := x) (C := C) (s := s) rfl with hx | ⟨e1, s1, hx⟩
    · rw [hx] at h; cases h
    · have hcx := code_of hrec hx
      rw [hx] at h
      by_cases he : e1 = .normal
      · subst he
        exact seq_ok hcx (fun _ => code_of hrec h) (fun h => absurd rfl h)
      · have : e1 = e ∧ s1 = s' := by
          cases e1 <;> first | exact absurd rfl he | (simp only [sSeq, Res.code.injEq] at h; exact h)
        obtain ⟨rfl, rfl⟩ := this
        exact seq_ok hcx (fun h => absurd h he) (fun _ => ⟨rfl, rfl⟩)
  | cond c x y =>
    simp only [sCode] at h
    unfold sCond at h
    split at h
    · rename_i hc; exact cond_ok ok hc (code_of hrec h)
    · rename_i hc; exact cond_ok ok hc (code_of hrec h)
    · cases h
  | block id b =>
    simp only [sCode] at h
    rcases not_code hrec (c := b) (C := C) (s := s) rfl with hx | ⟨e1, s1, hx⟩
    · rw [hx] at h; cases h
    · have hcx := code_of hrec hx
      rw [hx] at h
      by_cases he : ∃ j, e1 = .exit j
      · obtain ⟨j, rfl⟩ := he
        simp only [sBlock] at h
        cases hj : Nat.beq j id with
        | true =>
          rw [hj] at h
          simp only [cond_true, Res.code.injEq] at h
          obtain ⟨rfl, rfl⟩ := h
          have := beq_eq hj; subst this
          exact block_ok hcx (fun _ => rfl) (fun h => absurd rfl h)
        | false =>
          rw [hj] at h
          simp only [cond_false, Res.code.injEq] at h
          obtain ⟨rfl, rfl⟩ := h
          exact block_ok hcx (fun h => by cases h; rw [Nat.beq_refl] at hj; cases hj) (fun _ => rfl)
      · have : e1 = e ∧ s1 = s' := by
          cases e1 <;> first | (exfalso; exact he ⟨_, rfl⟩) | (simp only [sBlock, Res.code.injEq] at h; exact h)
        obtain ⟨rfl, rfl⟩ := this
        exact block_ok hcx (fun h => absurd ⟨_, h⟩ he) (fun _ => rfl)
  | scope b =>
    simp only [sCode] at h
    rcases not_code hrec (c := b) (C := C) (s := s) rfl with hx | ⟨e1, s1, hx⟩
    · rw [hx] at h; cases h
    · have hcx := code_of hrec hx
      rw [hx] at h
      have hng : ∀ l, e1 ≠ .goto l := by intro l e; subst e; cases h
      have : e1 = e ∧ s1 = s' := by
        cases e1 <;> first | (exact absurd rfl (hng _)) | (simp only [sScope, Res.code.injEq] at h; exact h)
      obtain ⟨rfl, rfl⟩ := this
      exact scope_ok hcx hng
  | loop b => exact loop_ok (n + 1) hlow s h
  | region id ops d =>
    simp only [sCode] at h
    cases d with
    | false => exact fun ρ rr a w S hrd => region_sound ok hrec S hrd h
    | true => exact drawn_ok ok hrec h
  | rangeFunc f ps as bd => exact range_ok ok hrec h
  | _ => simp [sCode] at h
theorem ev_sound (ok : EnvOk E) (ans : AnsOk E N0 w0) (n : Nat) : SoundRec E N0 w0 (ev E n) := by
  induction n using Nat.strongRecOn with
  | _ n ih =>
    cases n with
    | zero => intro t; cases t <;> exact trivial
    | succ n =>
      have hrec := ih n (by omega)
      intro t
      show Sound E N0 w0 t (step E (ev E n) t)
      cases t with
      | code C c s =>
        show Sound E N0 w0 (.code C c s) (sCode E (ev E n) C s c)
        have h1 := sCode_isC (C := C) hrec s c
        have h2 := fun e s' => code_ok (C := C) (s := s) (c := c) (e := e) (s' := s') ok (n := n) ih
        generalize sCode E (ev E n) C s c = r at h1 h2
        cases r with
        | fail => exact trivial
        | code e s' => exact h2 e s' rfl
        | out _ _ => exact h1.elim
        | pan _ _ => exact h1.elim
      | call f args H => exact orc_ok ans (fun r hr => by rw [hr]; exact call_ok ok hrec)
      | leave fn tm df pan H => exact leave_ok ok hrec df
      | round l args H => exact round_ok hrec
/-- **A CLOSED CALL**: if the evaluator, begun on the package-level variables' blocks alone, answers a value without an address, the program's call returns that value, in every world that holds these blocks; nothing that lay below N0 is changed. -/
theorem calls_of_ev (ok : EnvOk E) {n f : Nat} {H H' : Hp} {v : Value} (h : ev E n (.call f [] H) = .out v H') (hf : flat' v = true) {w : World} (ans : AnsOk E w.heap.size w) (W : ∃ ρ, WR E.G w.heap.size w ρ H w) :
    Calls E.P f #[] w fun e w' => e = .returned v ∧ Below w.heap.size w w' := by
  obtain ⟨ρ, W⟩ := W
  have hs := ev_sound (E := E) (N0 := w.heap.size) (w0 := w) ok ans n (.call f [] H)
  rw [h] at hs
  have := callsIn_wide.1 (hs ρ #[] w W .nil)
  refine Calls.mono this fun e w' hp => ?_
  obtain ⟨ρ', v', rfl, hv, W', _⟩ := hp
  exact ⟨by rw [flat'_eq hf hv], W'.below⟩
end
end Go.PE
namespace Go.PE
open Go Go.RowKit
/-- what is asked of a program, decided -/
def tyOk (P : Program) (t : Nat) : Bool := match P.types[t]? with
  | some i => (P.underlying t).isSome && (P.info? t).isSome && Nat.ble i.bytes 1048576 && (match P.info? t with
      | some j => Nat.ble j.bytes 1048576
      | none => false) && (match P.underlying t with
      | some (.struct fs) => fs.toList.all fun f => (P.info? f.type).isSome && (P.underlying f.type).isSome
      | _ => true)
  | none => false
def fnOk (fn : Func) : Bool := !(fn.body.isSome && fn.name == "runtime.NumGoroutine")
theorem envOk_of {P : Program} {ext : Tr (Nat × Nat)} {gl : Nat} {G : Nat → Option Nat} {ans : Tr (List Value → Option Value)} {eff : Tr (List Value → Hp → Option (Value × Hp))} (hg : ∀ g, g < gl → G g = some g)
    (h1 : (List.range P.types.size).all (tyOk P) = true) (h2 : P.funcs.toList.all fnOk = true) (h3 : P.follows .mixedOrders = true)
    (h4 : ∀ f k ty, ext.get f = some (k, ty) → ∃ sl, (k = 2 → P.underlying sl = some (.slice ty)) ∧ ∀ args w, (callFunc f args).run P w = ((extSem P sl k args).run P w).andThen fun v w => .ok (.value v) w) :
    EnvOk ⟨P, typeTable P, funcTable P, ext, gl, G, ans, eff⟩ := by
  have ht : ∀ t ti, (typeTable P).get t = some ti → tyOk P t = true ∧ ti = tiOf P t := by
    intro t ti h
    unfold typeTable at h
    rw [Tr.of_get _ _ (by simp)] at h
    rw [List.getElem?_map] at h
    cases hr : (List.range P.types.size)[t]? with
    | none => rw [hr] at h; cases h
    | some x =>
      rw [hr] at h
      simp only [Option.map_some, Option.some.injEq] at h
      have hx : x = t := by
        rw [List.getElem?_eq_some_iff] at hr
        obtain ⟨h0, h1⟩ := hr
        simpa using h1.symm
      subst hx
      exact ⟨List.all_eq_true.1 h1 x (List.mem_of_getElem? hr), h.symm⟩
  have hty : ∀ t, tyOk P t = true → (∃ i, P.info? t = some i ∧ i.bytes ≤ 1048576) ∧ (∃ d, P.underlying t = some d) ∧ (∀ fs, P.underlying t = some (.struct fs) → ∀ f ∈ fs.toList, (∃ i, P.info? f.type = some i) ∧ (∃ d, P.underlying f.type = some d)) := by
    intro t h
    unfold tyOk at h
    split at h
    · simp only [Bool.and_eq_true] at h
      obtain ⟨⟨⟨⟨a1, a2⟩, a3⟩, a4⟩, a5⟩ := h
      obtain ⟨i, hi⟩ := Option.isSome_iff_exists.1 a2
      obtain ⟨d, hd⟩ := Option.isSome_iff_exists.1 a1
      refine ⟨⟨i, hi, ?_⟩, ⟨d, hd⟩, ?_⟩
      · rw [hi] at a4; exact ble_le a4
      · intro fs hfs f hf
        rw [hfs] at a5
        have := List.all_eq_true.1 a5 f hf
        simp only [Bool.and_eq_true] at this
        exact ⟨Option.isSome_iff_exists.1 this.1, Option.isSome_iff_exists.1 this.2⟩
    · cases h
  refine ⟨?_, ?_, ?_, h3, hg, ?_, h4⟩
  · intro t ti h
    obtain ⟨a, b⟩ := ht t ti h
    obtain ⟨⟨i, hi, _⟩, hd, _⟩ := hty t a
    exact ⟨⟨i, hi⟩, hd, b⟩
  · intro f fn h
    have h : (funcTable P).get f = some fn := h
    unfold funcTable at h
    rw [Tr.of_get _ _ (by simp)] at h
    refine ⟨by simpa using h, fun hb => ?_⟩
    have := List.all_eq_true.1 h2 fn (List.mem_of_getElem? h)
    unfold fnOk at this
    rw [hb] at this
    simpa using this
  · intro t ti i h hi
    obtain ⟨⟨j, hj, hjb⟩, _⟩ := hty t (ht t ti h).1
    have hi : P.info? t = some i := hi
    rw [hj] at hi; cases hi; exact hjb
  · intro t ti fs h hu f hf
    exact (hty t (ht t ti h).1).2.2 fs hu f hf
/-- begun on no block at all: numbers that are given alone -/
theorem WR.marks {w : World} {G : Nat → Option Nat} {n : Nat} (hG : ∀ b k, G b = some k → b < n) : WR G w.heap.size w (fun b => (G b).map fun k => ⟨k, 0, 0, none⟩) ⟨.e, n⟩ w :=
  ⟨⟨rfl, rfl, rfl, Nat.le_refl _, fun _ _ => rfl⟩, fun b o m h => by simp [Hp.get, Tr.get_e] at h, fun b b' o o' m m' h => by simp [Hp.get, Tr.get_e] at h, fun b o h => by simp [Hp.get, Tr.get_e] at h,
    fun b m h => by
      cases hb : G b with
      | none => rw [hb] at h; cases h
      | some k => exact hG b k hb,
    fun b o m h => by simp [Hp.get, Tr.get_e] at h, fun g k h => ⟨⟨k, 0, 0, none⟩, by simp [h], rfl, rfl⟩, Nat.le_refl _⟩
/-- **a call that answers true**: its arguments' pictures are values without an address, and numbers that are given -/
theorem calls_true {E : Env} (ok : EnvOk E) {n f n0 : Nat} {args : List Value} {args' : Array Value} (hG : ∀ b k, E.G b = some k → b < n0) (ha : VL (fun b => (E.G b).map fun k => ⟨k, 0, 0, none⟩) args args'.toList)
    (h : okTrue (ev E n (.call f args ⟨.e, n0⟩)) = true) (w : World) (ans : AnsOk E w.heap.size w) : Calls E.P f args' w fun e w' => e = .returned (.bool true) ∧ Below w.heap.size w w' := by
  cases hr : ev E n (.call f args ⟨.e, n0⟩) with
  | out v H' =>
    rw [hr] at h
    cases v <;> first | (cases h; done) | skip
    rename_i b
    have hb : b = true := h
    subst hb
    have hs := ev_sound (E := E) (N0 := w.heap.size) (w0 := w) ok ans n (.call f args ⟨.e, n0⟩)
    rw [hr] at hs
    have := callsIn_wide.1 (hs _ args' w (WR.marks hG) ha)
    refine Calls.mono this fun e w' hp => ?_
    obtain ⟨ρ', v', rfl, hv, W', _⟩ := hp
    cases hv
    exact ⟨rfl, W'.below⟩
  | _ => rw [hr] at h; cases h
end Go.PE
