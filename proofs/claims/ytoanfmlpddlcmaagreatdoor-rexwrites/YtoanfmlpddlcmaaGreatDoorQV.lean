/- The text of an expression, by the program, walked (no statement of the program is proved here). -/
import Derived.Test.YtoanfmlpddlcmaaGreatDoorQU
import Derived.Lib.Join
namespace Go.Proofs
open Go Go.PE
noncomputable section
variable {ans : Tr (List Value → Option Value)} {eff : Tr (List Value → Hp → Option (Value × Hp))}
def signB (op : Int) : UInt8 := if op = 5 then 42 else if op = 6 then 43 else 63
mutual
def printT : RexT → List UInt8
  | .node op set subs => if op = 1 then [40, 41] else if op = 2 then printSet set else if op = 4 then Lib.join (partsL op subs) [124] else if op = 3 then Lib.join (partsL op subs) [] else (partsL op subs).flatten ++ [signB op]
def partsL : Int → RexL → List (List UInt8)
  | _, .nil => []
  | op, .cons x l => (if wrapV op x.op then 40 :: (printT x ++ [41]) else printT x) :: partsL op l
end
def innerB (op : Int) (x : RexT) : List UInt8 := if wrapV op x.op then 40 :: (printT x ++ [41]) else printT x
theorem partsL_cons {op : Int} {x : RexT} {l : RexL} : partsL op (.cons x l) = innerB op x :: partsL op l := by rw [partsL]; rfl
theorem printSet_len' (l : List (Int × Int)) : (printSet l).length ≤ 2 + 11 * l.length := by
  by_cases h : l = []
  · subst h; decide
  · exact printSet_len h
theorem join_len {l : List (List UInt8)} {sep : List UInt8} (h : sep.length ≤ 1) : (Lib.join l sep).length ≤ (l.map List.length).sum + l.length := by
  cases l with
  | nil => rw [Lib.join_nil]; simp
  | cons x r =>
    rw [Lib.join_cons, List.length_append, Lib.joinTail_length]
    have : sep.length * r.length ≤ 1 * r.length := Nat.mul_le_mul_right _ h
    unfold Lib.lens
    rw [show (List.map (fun x : List UInt8 => x.length) r) = List.map List.length r from rfl]
    simp only [List.map_cons, List.sum_cons, List.length_cons]
    omega
mutual
theorem print_len : ∀ (t : RexT), (printT t).length + 10 ≤ 30 * wtT t
  | .node op set subs => by
    have h1 := parts_len op subs
    have h2 := printSet_len' set
    have h3 := join_len (l := partsL op subs) (sep := [124]) (by decide)
    have h4 := join_len (l := partsL op subs) (sep := []) (by decide)
    rw [printT, wtT]
    by_cases o1 : op = 1
    · rw [if_pos o1]; simp only [List.length_cons, List.length_nil]; omega
    rw [if_neg o1]
    by_cases o2 : op = 2
    · rw [if_pos o2]; omega
    rw [if_neg o2]
    by_cases o4 : op = 4
    · rw [if_pos o4]; omega
    rw [if_neg o4]
    by_cases o3 : op = 3
    · rw [if_pos o3]; omega
    rw [if_neg o3, List.length_append, List.length_flatten, List.length_singleton]
    omega
theorem parts_len : ∀ (op : Int) (l : RexL), ((partsL op l).map List.length).sum + (partsL op l).length ≤ 30 * wtL l
  | op, .nil => by rw [partsL, wtL]; simp
  | op, .cons x l => by
    have h1 := print_len x
    have h2 := parts_len op l
    have h3 : (innerB op x).length ≤ (printT x).length + 2 := by
      unfold innerB
      split <;> simp
    rw [partsL_cons, wtL]
    simp only [List.map_cons, List.sum_cons, List.length_cons]
    omega
end
/-! ### a row of texts that a function made itself -/
def strC (s : List UInt8) : Value := .string (bs s)
def OwnS (N : Nat) (H : Hp) (v : Value) (l : List (List UInt8)) (ob : Option Nat) : Prop :=
  (l = [] ∧ v = .slice none 0 0 ∧ ob = none) ∨ (l ≠ [] ∧ ∃ b, v = .slice (some ⟨b, 0, none⟩) l.length l.length ∧ ob = some b ∧ N ≤ b ∧ b < H.n ∧ H.get b = some (.cells (l.map strC) 9 (some 1) 0))
theorem OwnS.keep {N : Nat} {H H' : Hp} {v : Value} {l : List (List UInt8)} {ob : Option Nat} (o : OwnS N H v l ob) (k : Keep H H') : OwnS N H' v l ob := by
  rcases o with h | ⟨h0, b, h1, h2, h3, h4, h5⟩
  · exact .inl h
  · exact .inr ⟨h0, b, h1, h2, h3, Nat.lt_of_lt_of_le h4 k.le, by rw [k.get h4]; exact h5⟩
theorem OwnS.lt {N : Nat} {H : Hp} {v : Value} {l : List (List UInt8)} {ob : Option Nat} (o : OwnS N H v l ob) {k : Nat} (hk : ob = some k) : N ≤ k ∧ k < H.n := by
  rcases o with ⟨_, _, h⟩ | ⟨h0, b, h1, h2, h3, h4, h5⟩
  · rw [h] at hk; cases hk
  · rw [h2] at hk; cases hk; exact ⟨h3, h4⟩
set_option maxRecDepth 100000 in
theorem GX_appS {N : Nat} {H : Hp} {v : Value} {l : List (List UInt8)} {p : List UInt8} {ob : Option Nat} {C : Ctx} {Q : Ex → St → Prop} {ks : List Kt} {dd : Bool} {s : St} {dst : Option Nat} {bx : Nat} (o : OwnS N H v l ob) (hN : N ≤ H.n) (hx : H.get bx = some (.cells [strC p] 9 none 0)) (hl : l.length ≤ 8000000)
    (h : ∀ v' H', OwnS N H' v' (l ++ [p]) (some H.n) → H'.n = H.n + 1 → (∀ k, k < H.n → ob ≠ some k → H'.get k = H.get k) → GP (tE ans eff) C Q ks s.df H' (put C.nt v' s.tm dst)) :
    GX (tE ans eff) C Q ks dd s dst (xbuiltin (tE ans eff) #[64, 64] H .append [v, .slice (some ⟨bx, 0, none⟩) 1 1]) := by
  have hlimN : limN = 16777216 := rfl
  rcases o with ⟨rfl, rfl, rfl⟩ | ⟨h0, b, rfl, rfl, h3, h4, h5⟩
  · rw [(bi_app (E := tE ans eff) tt64 tt64 rfl rfl tt9 hx rfl rfl rfl 0 rfl (by decide)).trans (capp_nil (by decide))]
    refine h _ _ ?_ rfl fun k hk _ => get_new_ne (by omega)
    exact .inr ⟨by simp, H.n, rfl, rfl, hN, Nat.lt_succ_self _, get_new_eq rfl⟩
  · rw [(bi_app (E := tE ans eff) tt64 tt64 rfl rfl tt9 hx rfl rfl rfl l.length rfl (by rw [hlimN]; show (l.length + 1) * 2 ≤ _; omega)).trans (capp_grow (by decide) h5 (by rw [List.length_map]; show _ = l.length * 1; omega) rfl)]
    refine h _ _ ?_ rfl fun k hk hne => ?_
    · refine .inr ⟨by simp, H.n, by rw [List.length_append]; rfl, rfl, hN, Nat.lt_succ_self _, ?_⟩
      rw [get_new_eq (by rw [n_put]), List.map_append]; rfl
    · rw [get_new_ne (by rw [n_put]; omega), get_put_ne (fun e => hne (by rw [e]))]
theorem Keep.appS {H H2 H3 : Hp} {N : Nat} {v : Value} {l : List (List UInt8)} {ob : Option Nat} (k : Keep H H2) (o : OwnS N H2 v l ob) (hN : H.n ≤ N) (hn : H3.n = H2.n + 1) (hf : ∀ k, k < H2.n → ob ≠ some k → H3.get k = H2.get k) : Keep H H3 :=
  ⟨by have := k.le; omega, fun {j} hj => by rw [hf j (by have := k.le; omega) (fun e => by have := (o.lt e).1; omega)]; exact k.get hj⟩
/-- what is asked of strings.Join -/
def JoinOk (ans : Tr (List Value → Option Value)) (eff : Tr (List Value → Hp → Option (Value × Hp))) : Prop :=
  ∀ (H : Hp) (b n : Nat) (l : List (List UInt8)) (sep : List UInt8), H.get b = some (.cells (l.map strC) 9 (some 1) 0) → l.length = n → n ≤ 8000000 → (Lib.join l sep).length ≤ limN →
    Has (tE ans eff) 35 [.slice (some ⟨b, 0, none⟩) n n, .string (bs sep)] H fun r H' => r = .string (bs (Lib.join l sep)) ∧ Keep H H'
theorem csl_sg0 {H : Hp} : cslice (tE ans eff) H (some (.int .i64 0)) (some (.int .i64 1)) (some ⟨false, 1, [(Value.string ⟨#[]⟩)], 1, 0, 0, 0, [], some (Value.string ⟨#[]⟩), true⟩) (.string (bs [42, 43, 63])) = some (.string (bs [42])) := by kernel_rfl
theorem csl_sg1 {H : Hp} : cslice (tE ans eff) H (some (.int .i64 1)) (some (.int .i64 2)) (some ⟨false, 1, [(Value.string ⟨#[]⟩)], 1, 0, 0, 0, [], some (Value.string ⟨#[]⟩), true⟩) (.string (bs [42, 43, 63])) = some (.string (bs [43])) := by kernel_rfl
theorem csl_sg2 {H : Hp} : cslice (tE ans eff) H (some (.int .i64 2)) (some (.int .i64 3)) (some ⟨false, 1, [(Value.string ⟨#[]⟩)], 1, 0, 0, 0, [], some (Value.string ⟨#[]⟩), true⟩) (.string (bs [42, 43, 63])) = some (.string (bs [63])) := by kernel_rfl
theorem fitS_ok {l : List (Int × Int)} (h : fitS l = true) : l ≠ [] ∧ ∀ p ∈ l, okp p := by
  have := of_decide_eq_true h
  exact ⟨this.1, this.2.1⟩
theorem strbs {s : List UInt8} : Value.string (bs s) = strC s := rfl
abbrev Pr (f : Nat) (ans : Tr (List Value → Option Value)) (eff : Tr (List Value → Hp → Option (Value × Hp))) (x : RexT) : Prop :=
  ∀ (H : Hp) (cs : List Value), shapedT x = true → wtT x ≤ 100000 → RX H x cs → Has (tE ans eff) f [.agg cs.toArray] H fun v H' => v = .string (bs (printT x)) ∧ Keep H H'
set_option maxRecDepth 100000 in
set_option maxHeartbeats 38000000 in
theorem has_print13 (N : NoText ans eff) (J : JoinOk ans eff) : ∀ x, Pr 13 ans eff x := by
  refine RexT.indT _ fun op set subs ih => ?_
  intro H cs hsh hwt hx
  obtain ⟨hws, hwl⟩ := set_wt hwt
  have hpl := print_len (.node op set subs)
  have hptl := parts_len op subs
  unfold RX at hx
  obtain ⟨sv, bv, els, rfl, hsv, hbv, hsub⟩ := hx
  obtain ⟨asv, rfl, hls⟩ := hsv.lenP
  obtain ⟨ab, rfl, hlb⟩ := hbv.len
  refine Has.of N.n13 ft13 rfl (Nat.le_of_ble_eq_true rfl) ?_
  have kH : Keep H (H.new (.cells [.int .i64 op, .slice asv set.length set.length, .slice ab els.length els.length] 25 none 0)) := (Keep.refl H).new _
  have hbx : ∀ H', Keep (H.new (.cells [.int .i64 op, .slice asv set.length set.length, .slice ab els.length els.length] 25 none 0)) H' → H'.get H.n = some (.cells [.int .i64 op, .slice asv set.length set.length, .slice ab els.length els.length] 25 none 0) := fun H' k => (k.get (Nat.lt_succ_self _)).trans (get_new_eq rfl)
  have hel := RXL.len hsub
  have hlim := limN_eq
  rw [shapedT] at hsh
  simp only [Bool.and_eq_true] at hsh
  obtain ⟨⟨har, hfs⟩, hss⟩ := hsh
  simp (config := { maxSteps := 1000000 }) (disch := first | omega | ((repeat (first | rw [n_new] | rw [n_put])) <;> omega) | fail) only [Tryz.f13, tt25, tt23, G_seq, G_block, G_region, G_onil, G_op, GG_true, GX_val, GP_some, put_lt, wantedG_none, eq_self, Nat.zero_add, tget_set, tget_of1, nbeq, evalO_tmp, evalO_int, evalO_str, evalO_nsl, oval_eq, xnew_eq, get_new_eq, cx_move, cx_assign, cx_box, cx_load, cx_fieldAddr, cx_builtin, loadAt_some, loadIn_cells, xfieldAddr_some, xfa_some, bi_len, tyAt0, xlen_sl, isJunk, takeN, Value.cells, List.toList_toArray, List.map_cons, List.map_nil, List.length_cons, List.length_nil, List.drop_zero, List.drop_succ_cons, List.head?_cons, List.getElem?_cons_zero, List.getElem?_cons_succ, Option.map_some, cond_true, cond_false, decide_true, decide_false, if_true, if_false, Nat.reduceEqDiff]
  refine G_loop_ind (fun k s => ∃ tm H2 i acc v ob, s = ⟨tm, [], H2⟩ ∧ k + i = els.length ∧ tget tm 1 = .pointer (some ⟨H.n, 0, none⟩) ∧ tget tm 9 = .slice ab els.length els.length ∧ tget tm 10 = .int .i64 ((els.length : Nat) : Int) ∧ tget tm 11 = .int .i64 ((i : Nat) : Int) ∧ tget tm 3 = v ∧ OwnS (H.n + 1) H2 v acc ob ∧ Keep (H.new (.cells [.int .i64 op, .slice asv set.length set.length, .slice ab els.length els.length] 25 none 0)) H2 ∧ acc.length = i ∧ acc ++ partsL op (subs.drop i) = partsL op subs) ?_ els.length _ ?_
  · rintro k ih2 s ⟨tm, H2, i, acc, v, ob, rfl, hk, h1, h9, h10, h11, h3, ho, k2, hai, hac⟩
    have g2 := hbx H2 k2
    have kH2 := kH.trans k2
    have hle := k2.le
    rw [n_new] at hle
    by_cases hi : (i : Int) < (els.length : Int)
    · obtain ⟨x, e, hdx, he, hxe⟩ := RXL.at hsub (i := i) (by omega)
      obtain ⟨b, ty, l, r, rfl, hb, hg, hdr, hl3⟩ := hbv.elem he
      have hg2 : H2.get b = some (.cells l ty (some 3) 3) := by rw [kH2.get hb]; exact hg
      have hwx := wt_at hwl hdx
      have hpx := print_len x
      have b1 : [40].length + (printT x).length ≤ limN := by simp; omega
      have b2 : ([40] ++ printT x).length + [41].length ≤ limN := by simp; omega
      have hacc : acc.length ≤ 8000000 := by
        have := congrArg List.length hac
        rw [List.length_append] at this; omega
      have hnx : partsL op (subs.drop i) = innerB op x :: partsL op (subs.drop (i + 1)) := by rw [hdx, partsL_cons]
      match e, hl3 with
      | [e0, e1, e2], _ =>
        have hdrx : l.drop (i * 3) = e0 :: e1 :: e2 :: r := hdr
        obtain ⟨a1, n1, a2, n2, rfl, rfl, rfl⟩ := hxe.shape
        simp (config := { maxSteps := 1000000 }) (disch := first | assumption | omega | ((repeat (first | rw [n_new] | rw [n_put])) <;> omega) | fail) only [tt25, tt23, h9, h10, h11, hg2, hdrx, decide_eq_true hi, ft13, cc13, G_skip, G_seq, G_cond, GIf_true, G_block, G_region, G_onil, G_op, GG_true, GX_val, GX_skip, GX_enter, GP_some, put_lt, put_none, wantedG_none, eq_self, Nat.zero_add, tget_set, nbeq, nble, evalO_tmp, evalO_func, oval_eq, oskip_some, xnew_eq, get_put_eq, get_new_eq, cx_alloc, cx_load, cx_store, cx_bin, cx_indexAddr, cx_call, xcallv_func, xalloc_some, loadAt_some, loadIn_cells, storeAt_some, storeIn_cells, xindexAddr_some, natOf_nat, xidx_sl, cbin_lss, isJunk, oneC, splice, takeN, Value.cells, List.toList_toArray, List.map_cons, List.map_nil, List.all_cons, List.all_nil, List.length_cons, List.length_nil, List.append_nil, List.nil_append, List.drop_zero, List.head?_cons, Option.map_some, cond_true, cond_false, Bool.and_true, decide_true, if_true, if_false, Nat.reduceAdd, Nat.reduceEqDiff, Nat.reduceLeDiff]
        refine GCall.of (ih i x _ hdx _ _ (shapedL_at hss hdx) hwx (RX.mono (Keep.trans kH2 (by repeat (first | assumption | exact Keep.refl _ | refine Keep.new ?_ _ | refine Keep.put ?_ _ (by first | omega | (simp only [n_new, n_put] <;> omega))))) _ _ hxe)) ?_
        rintro v1 H3 ⟨rfl, k3⟩
        have k23 : Keep H2 H3 := Keep.trans (by repeat (first | assumption | exact Keep.refl _ | refine Keep.new ?_ _ | refine Keep.put ?_ _ (by first | omega | (simp only [n_new, n_put] <;> omega)))) k3
        have g3 : H3.get H2.n = some (.cells [.int .i64 x.op, .slice a1 n1 n1, .slice a2 n2 n2] 25 none 0) := (k3.get (by simp only [n_put, n_new]; omega)).trans (get_put_eq rfl)
        have g4 := hbx H3 (k2.trans k23)
        simp (config := { maxSteps := 1000000 }) (disch := first | assumption | omega | ((repeat (first | rw [n_new] | rw [n_put])) <;> omega) | fail) only [tt25, tt3, h1, g3, g4, ft33, cc33, G_seq, G_region, G_onil, G_op, GG_true, GX_val, GX_enter, GP_some, put_lt, wantedG_none, eq_self, tget_set, nbeq, evalO_tmp, evalO_func, oval_eq, cx_assign, cx_load, cx_fieldAddr, cx_call, xcallv_func, loadAt_some, loadIn_cells, xfieldAddr_some, xfa_some, takeN, List.map_cons, List.map_nil, List.append_nil, List.nil_append, List.drop_zero, List.head?_cons, Nat.add_zero, List.getElem?_cons_zero, Option.map_some, cond_true, cond_false, decide_true, decide_false, if_true, if_false, Nat.reduceEqDiff]
        refine GCall.of (has_wrapped33 N.n33 rfl rfl) ?_
        rintro v1 H4 ⟨rfl, k4⟩
        have k24 := k23.trans k4
        have o4 := ho.keep k24
        have hle4 := k24.le
        cases hw : wrapV op x.op with
        | true =>
          rw [innerB, hw, if_pos rfl] at hnx
          simp (config := { maxSteps := 1000000 }) (disch := first | assumption | omega | ((repeat (first | rw [n_new] | rw [n_put])) <;> omega) | fail) only [tt64, tt9, h3, bsLit, cbin_sadd, G_cond, GIf_true, G_region, G_onil, G_op, GG_true, GX_val, GP_some, put_lt, wantedG_none, eq_self, Nat.zero_add, tget_set, nbeq, nble, evalO_tmp, evalO_str, oval_eq, xnewSl_eq, cx_move, cx_assign, cx_buildSlice, cx_bin, cx_builtin, cbin_sadd, isJunk, partsV, fillC, elemPl, splice, Value.cells, xbuildSlice, rep, limN, List.toList_toArray, List.map_cons, List.map_nil, List.length_cons, List.length_nil, List.append_nil, Nat.mul_one, cond_true, Bool.and_true, Bool.not_false, decide_true, if_true, if_false, List.size_toArray, Nat.reduceEqDiff, Nat.reduceLeDiff]
          rw [strbs]
          refine GX_appS (p := [40] ++ printT x ++ [41]) (o4.keep ((Keep.refl H4).new _)) (by simp only [n_new]; omega) (get_new_eq rfl) hacc ?_
          intro v5 H5 ho5 hn5 hf5
          have k5 := Keep.appS ((k2.trans k24).new _) (o4.keep ((Keep.refl H4).new _)) (by rw [n_new]; omega) hn5 hf5
          simp (config := { maxSteps := 1000000 }) (disch := first | omega | ((repeat (first | rw [n_new] | rw [n_put])) <;> omega) | fail) only [h11, G_again, G_region, G_blkN, G_onil, G_op, GG_true, GX_val, GP_some, put_lt, wantedG_none, eq_self, tget_set, evalO_tmp, evalO_int, oval_eq, cx_move, cx_assign, cx_bin, cbin_add, wrap_nat_add1, List.nil_append, List.cons_append, if_true, if_false, Nat.reduceEqDiff]
          refine ih2 (k - 1) _ (by omega) ⟨_, H5, i + 1, acc ++ [[40] ++ printT x ++ [41]], v5, _, rfl, by omega, ?_, ?_, ?_, ?_, ?_, ho5, k5, by simp; omega, ?_⟩
          · simp (config := { maxSteps := 1000000 }) (disch := first | omega | ((repeat (first | rw [n_new] | rw [n_put])) <;> omega) | fail) only [h1, eq_self, tget_set, if_false, Nat.reduceEqDiff]
          · simp (config := { maxSteps := 1000000 }) (disch := first | omega | ((repeat (first | rw [n_new] | rw [n_put])) <;> omega) | fail) only [h9, eq_self, tget_set, if_false, Nat.reduceEqDiff]
          · simp (config := { maxSteps := 1000000 }) (disch := first | omega | ((repeat (first | rw [n_new] | rw [n_put])) <;> omega) | fail) only [h10, eq_self, tget_set, if_false, Nat.reduceEqDiff]
          · simp (config := { maxSteps := 1000000 }) (disch := first | omega | ((repeat (first | rw [n_new] | rw [n_put])) <;> omega) | fail) only [h11, eq_self, tget_set, if_true, if_false, Nat.reduceEqDiff]
          · simp (config := { maxSteps := 1000000 }) (disch := first | omega | ((repeat (first | rw [n_new] | rw [n_put])) <;> omega) | fail) only [eq_self, tget_set, if_true, if_false, Nat.reduceEqDiff]
          · rw [← hac, hnx]; simp
        | false =>
          rw [innerB, hw, if_neg (by decide)] at hnx
          simp (config := { maxSteps := 1000000 }) (disch := first | assumption | omega | ((repeat (first | rw [n_new] | rw [n_put])) <;> omega) | fail) only [tt64, tt9, h3, bsLit, G_skip, G_cond, GIf_false, G_region, G_onil, G_op, GG_true, GX_val, GP_some, put_lt, wantedG_none, eq_self, Nat.zero_add, tget_set, nbeq, nble, evalO_tmp, xnewSl_eq, cx_move, cx_buildSlice, cx_builtin, isJunk, partsV, fillC, elemPl, splice, Value.cells, xbuildSlice, rep, limN, List.toList_toArray, List.map_cons, List.map_nil, List.length_cons, List.length_nil, List.append_nil, Nat.mul_one, cond_true, Bool.and_true, Bool.not_false, decide_true, if_true, if_false, List.size_toArray, Nat.reduceEqDiff, Nat.reduceLeDiff]
          rw [strbs]
          refine GX_appS (p := printT x) (o4.keep ((Keep.refl H4).new _)) (by simp only [n_new]; omega) (get_new_eq rfl) hacc ?_
          intro v5 H5 ho5 hn5 hf5
          have k5 := Keep.appS ((k2.trans k24).new _) (o4.keep ((Keep.refl H4).new _)) (by rw [n_new]; omega) hn5 hf5
          simp (config := { maxSteps := 1000000 }) (disch := first | omega | ((repeat (first | rw [n_new] | rw [n_put])) <;> omega) | fail) only [h11, G_again, G_region, G_blkN, G_onil, G_op, GG_true, GX_val, GP_some, put_lt, wantedG_none, eq_self, tget_set, evalO_tmp, evalO_int, oval_eq, cx_move, cx_assign, cx_bin, cbin_add, wrap_nat_add1, if_true, if_false, Nat.reduceEqDiff]
          refine ih2 (k - 1) _ (by omega) ⟨_, H5, i + 1, acc ++ [printT x], v5, _, rfl, by omega, ?_, ?_, ?_, ?_, ?_, ho5, k5, by simp; omega, ?_⟩
          · simp (config := { maxSteps := 1000000 }) (disch := first | omega | ((repeat (first | rw [n_new] | rw [n_put])) <;> omega) | fail) only [h1, eq_self, tget_set, if_false, Nat.reduceEqDiff]
          · simp (config := { maxSteps := 1000000 }) (disch := first | omega | ((repeat (first | rw [n_new] | rw [n_put])) <;> omega) | fail) only [h9, eq_self, tget_set, if_false, Nat.reduceEqDiff]
          · simp (config := { maxSteps := 1000000 }) (disch := first | omega | ((repeat (first | rw [n_new] | rw [n_put])) <;> omega) | fail) only [h10, eq_self, tget_set, if_false, Nat.reduceEqDiff]
          · simp (config := { maxSteps := 1000000 }) (disch := first | omega | ((repeat (first | rw [n_new] | rw [n_put])) <;> omega) | fail) only [h11, eq_self, tget_set, if_true, if_false, Nat.reduceEqDiff]
          · simp (config := { maxSteps := 1000000 }) (disch := first | omega | ((repeat (first | rw [n_new] | rw [n_put])) <;> omega) | fail) only [eq_self, tget_set, if_true, if_false, Nat.reduceEqDiff]
          · rw [← hac, hnx]; simp
    · have e1 : subs.drop i = .nil := RexL.drop_len (by rw [← RXL.len hsub]; omega)
      rw [e1, partsL, List.append_nil] at hac
      subst hac
      unfold arOk at har
      by_cases o1 : op = 1
      · simp (config := { maxSteps := 1000000 }) (disch := first | assumption | omega | ((repeat (first | rw [n_new] | rw [n_put])) <;> omega) | fail) only [tt25, tt3, h1, h10, h11, g2, decide_eq_false hi, decide_eq_true o1, bsLit, G_nil, G_seq, G_cond, GIf_true, GIf_false, G_block, G_exit, G_ret, G_region, G_codeE, G_codeR, G_lpE, G_blkE, G_blkR, G_onil, G_op, GG_true, GX_val, GP_some, put_lt, wantedG_none, eq_self, tget_set, nbeq, evalO_tmp, evalO_int, evalO_str, oval_eq, cx_assign, cx_load, cx_bin, cx_fieldAddr, loadAt_some, loadIn_cells, xfieldAddr_some, xfa_some, cbin_eql, cbin_lss, takeN, resAll, resOne, tupV1, Outs_ret, OutR_some, List.drop_zero, List.head?_cons, Nat.add_zero, List.getElem?_cons_zero, Option.map_some, cond_true, cond_false, decide_true, decide_false, if_true, if_false, Nat.reduceEqDiff]
        exact ⟨trivial, by rw [printT, if_pos o1], kH2⟩
      by_cases o2 : op = 2
      · rw [if_pos o2] at hfs
        obtain ⟨hne, hok⟩ := fitS_ok hfs
        have hws' : set.length ≤ 100000 := by rw [wtT] at hwt; omega
        simp (config := { maxSteps := 1000000 }) (disch := first | assumption | omega | ((repeat (first | rw [n_new] | rw [n_put])) <;> omega) | fail) only [tt25, tt22, tt3, h1, h10, h11, g2, decide_eq_false hi, decide_eq_false o1, decide_eq_true o2, ft34, cc34, G_seq, G_cond, GIf_true, GIf_false, G_block, G_exit, G_region, G_codeE, G_lpE, G_blkE, G_onil, G_op, GG_true, GX_val, GX_enter, GP_some, put_lt, wantedG_none, eq_self, Nat.zero_add, tget_set, nbeq, evalO_tmp, evalO_int, evalO_func, oval_eq, cx_assign, cx_load, cx_bin, cx_fieldAddr, cx_call, xcallv_func, loadAt_some, loadIn_cells, xfieldAddr_some, xfa_some, cbin_eql, cbin_lss, takeN, List.map_cons, List.map_nil, List.append_nil, List.nil_append, List.drop_zero, List.drop_succ_cons, List.head?_cons, Nat.add_zero, List.getElem?_cons_zero, List.getElem?_cons_succ, Option.map_some, cond_true, cond_false, decide_true, decide_false, if_true, if_false, Nat.reduceEqDiff]
        refine GCall.of (has_printSet34 N ((StA.of hsv).mono kH2) hne hok hws') ?_
        rintro v1 H3 ⟨rfl, k3⟩
        simp (config := { maxSteps := 1000000 }) (disch := first | omega | ((repeat (first | rw [n_new] | rw [n_put])) <;> omega) | fail) only [G_nil, G_ret, G_codeR, G_blkR, G_onil, G_op, GG_true, GX_val, GP_some, put_lt, wantedG_none, eq_self, tget_set, evalO_tmp, cx_assign, resAll, resOne, tupV1, Outs_ret, OutR_some, if_true, if_false, Nat.reduceEqDiff]
        exact ⟨trivial, by rw [printT, if_neg o1, if_pos o2], kH2.trans k3⟩
      have hpn : 0 < (partsL op subs).length := by
        rw [if_neg (by omega)] at har
        have : 1 ≤ subs.len := by
          split at har
          · rw [decide_eq_true_eq] at har; omega
          · split at har
            · rw [decide_eq_true_eq] at har; omega
            · cases har
        omega
      have hbl : (partsL op subs).length ≤ 8000000 := by omega
      rcases ho with ⟨e0, _⟩ | ⟨_, b, hv, _, hNb, hb, hgb⟩
      · rw [e0] at hpn; exact absurd hpn (Nat.lt_irrefl _)
      subst hv
      by_cases o4 : op = 4
      · have hj : (Lib.join (partsL op subs) [124]).length ≤ limN := by
          have := join_len (l := partsL op subs) (sep := [124]) (by decide)
          omega
        simp (config := { maxSteps := 1000000 }) (disch := first | assumption | omega | ((repeat (first | rw [n_new] | rw [n_put])) <;> omega) | fail) only [tt25, tt3, h1, h10, h11, h3, g2, decide_eq_false hi, decide_eq_false o1, decide_eq_false o2, decide_eq_true o4, bsLit, ft35, cc35, G_seq, G_cond, GIf_true, GIf_false, G_block, G_exit, G_region, G_codeE, G_lpE, G_blkE, G_onil, G_op, GG_true, GX_val, GX_enter, GP_some, put_lt, wantedG_none, eq_self, tget_set, nbeq, evalO_tmp, evalO_int, evalO_str, evalO_func, oval_eq, cx_move, cx_assign, cx_load, cx_bin, cx_fieldAddr, cx_call, xcallv_func, loadAt_some, loadIn_cells, xfieldAddr_some, xfa_some, cbin_eql, cbin_lss, takeN, List.map_cons, List.map_nil, List.append_nil, List.nil_append, List.drop_zero, List.head?_cons, Nat.add_zero, List.getElem?_cons_zero, Option.map_some, cond_true, cond_false, decide_true, decide_false, if_true, if_false, Nat.reduceEqDiff]
        refine GCall.of (J _ _ _ (partsL op subs) [124] hgb rfl hbl hj) ?_
        rintro v1 H3 ⟨rfl, k3⟩
        simp (config := { maxSteps := 1000000 }) (disch := first | omega | ((repeat (first | rw [n_new] | rw [n_put])) <;> omega) | fail) only [G_nil, G_ret, G_codeR, G_blkR, G_onil, G_op, GG_true, GX_val, GP_some, put_lt, wantedG_none, eq_self, tget_set, evalO_tmp, cx_assign, resAll, resOne, tupV1, Outs_ret, OutR_some, if_true, if_false, Nat.reduceEqDiff]
        exact ⟨trivial, by rw [printT, if_neg o1, if_neg o2, if_pos o4], kH2.trans k3⟩
      by_cases o3 : op = 3
      · have hj : (Lib.join (partsL op subs) []).length ≤ limN := by
          have := join_len (l := partsL op subs) (sep := []) (by decide)
          omega
        simp (config := { maxSteps := 1000000 }) (disch := first | assumption | omega | ((repeat (first | rw [n_new] | rw [n_put])) <;> omega) | fail) only [tt25, tt3, h1, h10, h11, h3, g2, decide_eq_false hi, decide_eq_false o1, decide_eq_false o2, decide_eq_true o3, decide_eq_false o4, ft35, cc35, G_seq, G_cond, GIf_true, GIf_false, G_block, G_exit, G_region, G_codeE, G_lpE, G_blkE, G_onil, G_op, GG_true, GX_val, GX_enter, GP_some, put_lt, wantedG_none, eq_self, tget_set, nbeq, evalO_tmp, evalO_int, evalO_str, evalO_func, oval_eq, cx_move, cx_assign, cx_load, cx_bin, cx_fieldAddr, cx_call, xcallv_func, loadAt_some, loadIn_cells, xfieldAddr_some, xfa_some, cbin_eql, cbin_lss, takeN, List.map_cons, List.map_nil, List.append_nil, List.nil_append, List.drop_zero, List.head?_cons, Nat.add_zero, List.getElem?_cons_zero, Option.map_some, cond_true, cond_false, decide_true, decide_false, if_true, if_false, Nat.reduceEqDiff]
        refine GCall.of (J _ _ _ (partsL op subs) [] hgb rfl hbl hj) ?_
        rintro v1 H3 ⟨rfl, k3⟩
        simp (config := { maxSteps := 1000000 }) (disch := first | omega | ((repeat (first | rw [n_new] | rw [n_put])) <;> omega) | fail) only [G_nil, G_ret, G_codeR, G_blkR, G_onil, G_op, GG_true, GX_val, GP_some, put_lt, wantedG_none, eq_self, tget_set, evalO_tmp, cx_assign, resAll, resOne, tupV1, Outs_ret, OutR_some, if_true, if_false, Nat.reduceEqDiff]
        exact ⟨trivial, by rw [printT, if_neg o1, if_neg o2, if_neg o4, if_pos o3], kH2.trans k3⟩
      rw [if_neg (by omega), if_neg (by omega)] at har
      split at har
      case isFalse => cases har
      rename_i hop
      rw [decide_eq_true_eq] at har
      obtain ⟨x, rfl⟩ := len_one har
      have hp1 : partsL op (.cons x .nil) = [innerB op x] := by rw [partsL_cons, partsL]
      have hpt : printT (.node op set (.cons x .nil)) = innerB op x ++ [signB op] := by rw [printT, if_neg o1, if_neg o2, if_neg o4, if_neg o3, hp1]; simp
      rw [hpt]
      rw [hpt] at hpl
      rw [hp1] at hgb h3
      replace h3 : tget tm 3 = .slice (some ⟨b, 0, none⟩) 1 1 := h3
      have hcell : List.map strC [innerB op x] = [.string (bs (innerB op x))] := rfl
      rw [hcell] at hgb
      have b1 : ∀ c : UInt8, (innerB op x).length + [c].length ≤ limN := by intro c; rw [List.length_append] at hpl; simp at *; omega
      rcases hop with rfl | rfl | rfl
      all_goals
        have b42 := b1 42
        have b43 := b1 43
        have b63 := b1 63
        simp (config := { maxSteps := 1000000 }) (disch := first | assumption | omega | ((repeat (first | rw [n_new] | rw [n_put])) <;> omega) | fail) only [tt25, tt3, h1, h10, h11, g2, decide_eq_false hi, G_skip, G_seq, G_cond, GIf_false, G_block, G_exit, G_region, G_codeE, G_lpE, G_blkN, G_blkE, G_onil, G_op, GG_true, GX_val, GP_some, put_lt, wantedG_none, eq_self, Int.reduceEq, Int.reduceSub, tget_set, nbeq, evalO_tmp, evalO_int, oval_eq, cx_assign, cx_load, cx_bin, cx_fieldAddr, loadAt_some, loadIn_cells, xfieldAddr_some, xfa_some, cbin_sub, cbin_eql, cbin_lss, wrap0, wrap1, wrap2, takeN, List.drop_zero, List.head?_cons, Nat.add_zero, List.getElem?_cons_zero, Option.map_some, cond_true, cond_false, decide_true, decide_false, if_true, if_false, Nat.reduceEqDiff]
        rw [G_draw (by kernel_rfl)]
        simp (config := { maxSteps := 1000000 }) (disch := first | assumption | omega | ((repeat (first | rw [n_new] | rw [n_put])) <;> omega) | fail) only [tt64, tt9, h3, hgb, csl_sg0, csl_sg1, csl_sg2, cbin_sadd, bsLit, wr3, G_nil, G_ret, G_onil, G_op, GG_true, GX_val, GP_some, put_lt, wantedG_none, eq_self, Int.reduceAdd, tget_set, nbeq, evalO_tmp, evalO_int, evalO_str, oval_eq, cx_move, cx_assign, cx_load, cx_bin, cx_slice, cx_indexAddr, loadAt_some, loadIn_cells, xindexAddr_some, natOf_lit, xidx_sl, cbin_add, cbin_sadd, wrap1, wrap2, takeN, resAll, resOne, tupV1, Outs_ret, OutR_some, List.drop_zero, List.head?_cons, Nat.mul_one, Nat.add_zero, Option.map_some, cond_true, cond_false, decide_true, if_true, if_false, Nat.reduceEqDiff]
        exact ⟨trivial, (by first | trivial | rfl), kH2⟩
  · refine ⟨_, _, 0, [], .slice none 0 0, none, rfl, rfl, ?_, ?_, ?_, ?_, ?_, .inl ⟨rfl, rfl, rfl⟩, Keep.refl _, rfl, rfl⟩
    all_goals (simp (config := { maxSteps := 1000000 }) (disch := first | omega | ((repeat (first | rw [n_new] | rw [n_put])) <;> omega) | fail) only [cast_lit, eq_self, tget_set, tget_of1, List.getElem?_cons_succ, if_true, if_false, Nat.reduceEqDiff]; done)
end
end Go.Proofs
