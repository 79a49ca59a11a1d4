/- Whether two expressions are the same, by the reference; whether nothing is one of the texts, walked (no statement of the program is proved here). -/
import Derived.Test.YtoanfmlpddlcmaaGreatDoorQF
namespace Go.Proofs
open Go Go.PE
noncomputable section
variable {ans : Tr (List Value → Option Value)} {eff : Tr (List Value → Hp → Option (Value × Hp))}
set_option maxRecDepth 100000 in
set_option maxHeartbeats 8000000 in
theorem has_same12 (hn : NoA ans eff 12) (hn32 : NoA ans eff 32) : ∀ x, Same11 12 ans eff x := by
  refine RexT.indT _ fun op set subs ih => ?_
  intro H cs y cs' hx hx'
  cases y with | node op' set' subs' =>
  unfold RX at hx
  obtain ⟨sv, bv, els, rfl, hsv, hbv, hsub⟩ := hx
  obtain ⟨asv, rfl, hls⟩ := hsv.lenP
  obtain ⟨ab, rfl, hlb⟩ := hbv.len
  unfold RX at hx'
  obtain ⟨sv', bv', els', rfl, hsv', hbv', hsub'⟩ := hx'
  obtain ⟨asv', rfl, hls'⟩ := hsv'.lenP
  obtain ⟨ab', rfl, hlb'⟩ := hbv'.len
  refine Has.of hn ft12 rfl (Nat.le_of_ble_eq_true rfl) ?_
  have hbx : ∀ H', Keep ((H.new (.cells [.int .i64 op, .slice asv set.length set.length, .slice ab els.length els.length] 25 none 0)).new (.cells [.int .i64 op', .slice asv' set'.length set'.length, .slice ab' els'.length els'.length] 25 none 0)) H' → H'.get H.n = some (.cells [.int .i64 op, .slice asv set.length set.length, .slice ab els.length els.length] 25 none 0) ∧ H'.get (H.n + 1) = some (.cells [.int .i64 op', .slice asv' set'.length set'.length, .slice ab' els'.length els'.length] 25 none 0) := fun H' k => ⟨((k.get (by simp only [n_new]; omega)).trans (get_new_ne (by rw [n_new]; omega))).trans (get_new_eq rfl), (k.get (by simp only [n_new]; omega)).trans (get_new_eq rfl)⟩
  unfold sameT
  by_cases ho : op = op'
  · simp (config := { maxSteps := 1000000 }) (disch := first | omega | ((repeat (first | rw [n_new] | rw [n_put])) <;> omega) | fail) only [Tryz.f12, tt25, tt22, tt3, decide_eq_true ho, ft32, cc32, G_seq, G_region, G_onil, G_op, GG_true, GX_val, GX_enter, GP_some, put_lt, wantedG_none, wantedG_some, wG_some, isB_bool, List.getElem?_toArray, eq_self, Nat.zero_add, tget_set, tget_of2, nbeq, evalO_tmp, evalO_bool, evalO_func, Tr.get_set, oval_eq, xnew_eq, get_new_eq, get_new_ne, n_new, cx_move, cx_assign, cx_box, cx_load, cx_bin, cx_fieldAddr, cx_call, xcallv_func, loadAt_some, loadIn_cells, xfieldAddr_some, xfa_some, cbin_neq, isJunk, takeN, Value.cells, List.toList_toArray, List.map_cons, List.map_nil, List.length_cons, List.length_nil, List.append_nil, List.nil_append, List.drop_zero, List.drop_succ_cons, List.head?_cons, Nat.add_zero, List.getElem?_cons_zero, List.getElem?_cons_succ, Option.map_some, cond_true, cond_false, Bool.true_and, Bool.not_true, Bool.not_false, decide_true, decide_false, if_true, if_false, Nat.reduceAdd, Nat.reduceEqDiff]
    have hs1 := StA.of hsv
    have hs2 := StA.of hsv'
    refine GCall.of (has_same32 hn32 (hs1.mono ?_) (hs2.mono ?_)) ?_
    · exact (by repeat (first | assumption | exact Keep.refl _ | refine Keep.new ?_ _ | refine Keep.put ?_ _ (by first | omega | (simp only [n_new, n_put] <;> omega))))
    · exact (by repeat (first | assumption | exact Keep.refl _ | refine Keep.new ?_ _ | refine Keep.put ?_ _ (by first | omega | (simp only [n_new, n_put] <;> omega))))
    rintro v H3 ⟨rfl, k3⟩
    obtain ⟨g1, g2⟩ := hbx H3 k3
    have kH : Keep H H3 := Keep.trans (by repeat (first | assumption | exact Keep.refl _ | refine Keep.new ?_ _ | refine Keep.put ?_ _ (by first | omega | (simp only [n_new, n_put] <;> omega)))) k3
    by_cases hs : set = set'
    · by_cases hlm : (els.length : Int) = (els'.length : Int)
      · simp (config := { maxSteps := 1000000 }) (disch := first | omega | ((repeat (first | rw [n_new] | rw [n_put])) <;> omega) | fail) only [tt25, tt23, g1, g2, decide_eq_true hs, decide_eq_true hlm, G_skip, G_seq, G_cond, GIf_false, G_block, G_region, G_onil, G_op, GG_true, GX_val, GP_some, put_lt, wantedG_none, wantedG_some, wG_some, isB_bool, List.getElem?_toArray, eq_self, Nat.zero_add, tget_set, tget_of2, nbeq, evalO_tmp, evalO_int, evalO_bool, Tr.get_set, oval_eq, cx_move, cx_assign, cx_pick, xpick_false, cx_load, cx_bin, cx_un, cx_fieldAddr, cx_builtin, loadAt_some, loadIn_cells, xfieldAddr_some, xfa_some, cbin_neq, bi_len, tyAt0, xlen_sl, takeN, un_not, List.map_cons, List.map_nil, List.drop_zero, List.drop_succ_cons, List.head?_cons, List.getElem?_cons_zero, List.getElem?_cons_succ, Option.map_some, cond_true, cond_false, Bool.true_and, Bool.not_true, Bool.not_false, decide_true, decide_false, if_true, if_false, Nat.reduceEqDiff]
        refine G_loop_ind (fun k s => ∃ tm H2 i, s = ⟨tm, [], H2⟩ ∧ k + i = els.length ∧ tget tm 2 = .pointer (some ⟨H.n, 0, none⟩) ∧ tget tm 3 = .pointer (some ⟨H.n + 1, 0, none⟩) ∧ tget tm 5 = .int .i64 ((i : Nat) : Int) ∧ Keep H3 H2 ∧ sameL (subs.drop i) (subs'.drop i) = sameL subs subs') ?_ els.length _ ?_
        · rintro k ih2 s ⟨tm, H2, i, rfl, hk, h2, h3, h5, k2, hd⟩
          obtain ⟨g1, g2⟩ := hbx H2 (k3.trans k2)
          have kH := kH.trans k2
          by_cases hi : (i : Int) < (els.length : Int)
          · obtain ⟨x, e, hdx, he, hxe⟩ := RXL.at hsub (i := i) (by omega)
            obtain ⟨b, ty, l, r, rfl, hb, hg, hdr, hl3⟩ := hbv.elem he
            have hg2 : H2.get b = some (.cells l ty (some 3) 3) := by rw [kH.get hb]; exact hg
            obtain ⟨y, e', hdy, he', hye⟩ := RXL.at hsub' (i := i) (by omega)
            obtain ⟨b', ty', l', r', rfl, hb', hg', hdr', hl3'⟩ := hbv'.elem he'
            have hg2' : H2.get b' = some (.cells l' ty' (some 3) 3) := by rw [kH.get hb']; exact hg'
            match e, hl3, e', hl3' with
            | [e0, e1, e2], _, [f0, f1, f2], _ =>
              have hdrx : l.drop (i * 3) = e0 :: e1 :: e2 :: r := hdr
              have hdry : l'.drop (i * 3) = f0 :: f1 :: f2 :: r' := hdr'
              obtain ⟨a1, n1, a2, n2, rfl, rfl, rfl⟩ := hxe.shape
              obtain ⟨a3, n3, a4, n4, rfl, rfl, rfl⟩ := hye.shape
              simp (config := { maxSteps := 1000000 }) (disch := first | omega | ((repeat (first | rw [n_new] | rw [n_put])) <;> omega) | fail) only [tt25, tt23, h2, h5, g1, decide_eq_true hi, G_skip, G_seq, G_cond, GIf_true, G_block, G_region, G_onil, G_op, GG_true, GX_val, GP_some, put_lt, wantedG_none, eq_self, Nat.zero_add, tget_set, nbeq, evalO_tmp, oval_eq, cx_move, cx_load, cx_bin, cx_fieldAddr, cx_builtin, loadAt_some, loadIn_cells, xfieldAddr_some, xfa_some, cbin_lss, bi_len, tyAt0, xlen_sl, takeN, List.map_cons, List.map_nil, List.drop_zero, List.drop_succ_cons, List.head?_cons, List.getElem?_cons_zero, List.getElem?_cons_succ, Option.map_some, cond_true, cond_false, decide_true, decide_false, if_true, if_false, Nat.reduceEqDiff]
              rw [G_draw (by kernel_rfl)]
              simp (config := { maxSteps := 1000000 }) (disch := first | omega | ((repeat (first | rw [n_new] | rw [n_put])) <;> omega) | fail) only [tt25, tt23, h2, h3, h5, g1, g2, hg2, hg2', hdrx, hdry, ft12, cc12, G_op, GG_true, GX_val, GX_enter, GP_some, put_lt, wantedG_none, eq_self, Nat.zero_add, tget_set, nbeq, evalO_tmp, evalO_func, oval_eq, cx_move, cx_load, cx_fieldAddr, cx_indexAddr, cx_call, xcallv_func, loadAt_some, loadIn_cells, xfieldAddr_some, xfa_some, xindexAddr_some, natOf_nat, xidx_sl, takeN, List.map_cons, List.map_nil, List.append_nil, List.nil_append, List.drop_zero, List.drop_succ_cons, List.head?_cons, List.getElem?_cons_zero, List.getElem?_cons_succ, Option.map_some, cond_true, cond_false, decide_true, decide_false, if_true, if_false, Nat.reduceEqDiff]
              refine GCall.of (ih i x _ hdx _ _ y _ (RX.mono kH _ _ hxe) (RX.mono kH _ _ hye)) ?_
              rintro v H4 ⟨rfl, k4⟩
              cases hs : sameT x y with
              | true =>
                simp (config := { maxSteps := 1000000 }) (disch := first | omega | ((repeat (first | rw [n_new] | rw [n_put])) <;> omega) | fail) only [h5, G_skip, G_cond, GIf_false, G_again, G_region, G_blkN, G_onil, G_op, GG_true, GX_val, GP_some, put_lt, wantedG_none, eq_self, tget_set, evalO_tmp, evalO_int, oval_eq, cx_move, cx_assign, cx_bin, cx_un, cbin_add, wrap_nat_add1, un_not, Bool.not_true, if_true, if_false, Nat.reduceEqDiff]
                refine ih2 (k - 1) _ (by omega) ⟨_, H4, i + 1, rfl, by omega, ?_, ?_, ?_, k2.trans k4, ?_⟩
                · simp (config := { maxSteps := 1000000 }) (disch := first | omega | ((repeat (first | rw [n_new] | rw [n_put])) <;> omega) | fail) only [h2, eq_self, tget_set, if_false, Nat.reduceEqDiff]
                · simp (config := { maxSteps := 1000000 }) (disch := first | omega | ((repeat (first | rw [n_new] | rw [n_put])) <;> omega) | fail) only [h3, eq_self, tget_set, if_false, Nat.reduceEqDiff]
                · simp (config := { maxSteps := 1000000 }) (disch := first | omega | ((repeat (first | rw [n_new] | rw [n_put])) <;> omega) | fail) only [h5, eq_self, tget_set, if_true, if_false, Nat.reduceEqDiff]
                · rw [← hd, hdx, hdy, sameL, hs, Bool.true_and]
              | false =>
                simp (config := { maxSteps := 1000000 }) (disch := first | omega | ((repeat (first | rw [n_new] | rw [n_put])) <;> omega) | fail) only [G_nil, G_seq, G_cond, GIf_true, G_ret, G_region, G_codeR, G_lpR, G_blkR, G_onil, G_op, GG_true, GX_val, GP_some, put_lt, wantedG_none, eq_self, tget_set, evalO_tmp, evalO_bool, oval_eq, cx_assign, cx_un, resAll, resOne, tupV1, Outs_ret, OutR_some, un_not, Bool.not_false, if_true, if_false, Nat.reduceEqDiff]
                refine ⟨trivial, ?_, kH.trans k4⟩
                rw [← hd, hdx, hdy, sameL, hs, Bool.false_and]
          · simp (config := { maxSteps := 1000000 }) (disch := first | omega | ((repeat (first | rw [n_new] | rw [n_put])) <;> omega) | fail) only [tt25, tt23, h2, h5, g1, decide_eq_false hi, G_nil, G_seq, G_cond, GIf_false, G_exit, G_ret, G_region, G_codeE, G_lpE, G_blkE, G_onil, G_op, GG_true, GX_val, GP_some, put_lt, wantedG_none, eq_self, Nat.zero_add, tget_set, nbeq, evalO_tmp, evalO_bool, oval_eq, cx_move, cx_assign, cx_load, cx_bin, cx_fieldAddr, cx_builtin, loadAt_some, loadIn_cells, xfieldAddr_some, xfa_some, cbin_lss, bi_len, tyAt0, xlen_sl, takeN, resAll, resOne, tupV1, Outs_ret, OutR_some, List.map_cons, List.map_nil, List.drop_zero, List.drop_succ_cons, List.head?_cons, List.getElem?_cons_zero, List.getElem?_cons_succ, Option.map_some, cond_true, cond_false, decide_true, decide_false, if_true, if_false, Nat.reduceEqDiff]
            refine ⟨trivial, ?_, kH⟩
            have e1 : subs.drop i = .nil := RexL.drop_len (by rw [← RXL.len hsub]; omega)
            have e2 : subs'.drop i = .nil := RexL.drop_len (by rw [← RXL.len hsub']; omega)
            rw [← hd, e1, e2, sameL]
        · refine ⟨_, _, 0, rfl, rfl, ?_, ?_, ?_, Keep.refl _, rfl⟩
          all_goals (simp (config := { maxSteps := 1000000 }) (disch := first | omega | ((repeat (first | rw [n_new] | rw [n_put])) <;> omega) | fail) only [cast_lit, eq_self, tget_set, tget_of2, List.getElem?_cons_succ, if_true, if_false, Nat.reduceEqDiff]; done)
      · simp (config := { maxSteps := 1000000 }) (disch := first | omega | ((repeat (first | rw [n_new] | rw [n_put])) <;> omega) | fail) only [tt25, tt23, g1, g2, decide_eq_true hs, decide_eq_false hlm, G_nil, G_seq, G_cond, GIf_true, G_ret, G_region, G_codeR, G_onil, G_op, GG_true, GX_val, GP_some, put_lt, wantedG_none, wantedG_some, wG_some, isB_bool, List.getElem?_toArray, eq_self, Nat.zero_add, tget_set, tget_of2, nbeq, evalO_tmp, evalO_bool, Tr.get_set, oval_eq, cx_move, cx_assign, cx_pick, xpick_false, cx_load, cx_bin, cx_un, cx_fieldAddr, cx_builtin, loadAt_some, loadIn_cells, xfieldAddr_some, xfa_some, cbin_neq, bi_len, tyAt0, xlen_sl, takeN, resAll, resOne, tupV1, Outs_ret, OutR_some, un_not, List.map_cons, List.map_nil, List.drop_zero, List.drop_succ_cons, List.head?_cons, List.getElem?_cons_zero, List.getElem?_cons_succ, Option.map_some, cond_true, cond_false, Bool.true_and, Bool.not_true, Bool.not_false, decide_true, decide_false, if_true, if_false, Nat.reduceEqDiff]
        refine ⟨trivial, ?_, kH⟩
        cases hs : sameL subs subs' with
        | false => rfl
        | true => exact absurd (by rw [RXL.len hsub, RXL.len hsub', sameL_len hs]) hlm
    · simp (config := { maxSteps := 1000000 }) (disch := first | omega | ((repeat (first | rw [n_new] | rw [n_put])) <;> omega) | fail) only [decide_eq_false hs, G_nil, G_seq, G_cond, GIf_true, G_ret, G_region, G_codeR, G_onil, G_op, GG_true, GG_false, GX_val, GP_some, put_lt, wantedG_none, wantedG_some, wG_some, isB_bool, List.getElem?_toArray, eq_self, tget_set, tget_of2, evalO_tmp, evalO_bool, Tr.get_set, oval_eq, cx_move, cx_assign, cx_pick, xpick_true, xpick_false, cx_un, resAll, resOne, tupV1, Outs_ret, OutR_some, un_not, List.getElem?_cons_zero, List.getElem?_cons_succ, cond_true, cond_false, Bool.false_and, Bool.not_false, if_true, if_false, Nat.reduceEqDiff]
      exact ⟨trivial, (by first | trivial | rfl), kH⟩
  · simp (config := { maxSteps := 1000000 }) (disch := first | omega | ((repeat (first | rw [n_new] | rw [n_put])) <;> omega) | fail) only [Tryz.f12, tt25, tt3, decide_eq_false ho, G_nil, G_seq, G_cond, GIf_true, G_ret, G_region, G_codeR, G_onil, G_op, GG_true, GG_false, GX_val, GP_some, put_lt, wantedG_none, wantedG_some, wG_some, isB_bool, List.getElem?_toArray, eq_self, Nat.zero_add, tget_set, tget_of2, nbeq, evalO_tmp, evalO_bool, Tr.get_set, oval_eq, xnew_eq, get_new_eq, get_new_ne, n_new, cx_move, cx_assign, cx_pick, xpick_true, cx_box, cx_load, cx_bin, cx_fieldAddr, loadAt_some, loadIn_cells, xfieldAddr_some, xfa_some, cbin_neq, isJunk, takeN, Value.cells, resAll, resOne, tupV1, Outs_ret, OutR_some, List.toList_toArray, List.length_cons, List.length_nil, List.drop_zero, List.head?_cons, Nat.add_zero, List.getElem?_cons_zero, List.getElem?_cons_succ, Option.map_some, cond_true, cond_false, Bool.false_and, Bool.not_false, decide_true, decide_false, if_true, if_false, Nat.reduceAdd, Nat.reduceEqDiff]
    exact ⟨trivial, (by first | trivial | rfl), (by repeat (first | assumption | exact Keep.refl _ | refine Keep.new ?_ _ | refine Keep.put ?_ _ (by first | omega | (simp only [n_new, n_put] <;> omega))))⟩
/-! ### which expressions are shaped; is nothing one of the texts -/
/-- letters alone, of the normal form -/
def okp (p : Int × Int) : Prop := 0 ≤ p.1 ∧ p.1 ≤ p.2 ∧ p.2 ≤ 1114111 ∧ (p.2 < 55296 ∨ 57343 < p.1)
instance (p : Int × Int) : Decidable (okp p) := by unfold okp; infer_instance
def NormP (l : List (Int × Int)) : Prop := (∀ p ∈ l, okp p) ∧ l.Pairwise fun p q => p.2 + 1 < q.1
instance (l : List (Int × Int)) : Decidable (NormP l) := by unfold NormP; infer_instance
def fitS (l : List (Int × Int)) : Bool := decide (l ≠ [] ∧ NormP l)
def arOk (op : Int) (n : Nat) : Bool := if op = 1 ∨ op = 2 then decide (n = 0) else if op = 3 ∨ op = 4 then decide (2 ≤ n) else if op = 5 ∨ op = 6 ∨ op = 7 then decide (n = 1) else false
mutual
def shapedT : RexT → Bool
  | .node op set subs => arOk op subs.len && (if op = 2 then fitS set else set.isEmpty) && shapedL subs
def shapedL : RexL → Bool
  | .nil => true
  | .cons x l => shapedT x && shapedL l
end
theorem shapedL_at : ∀ {l : RexL} {i : Nat} {x : RexT} {r : RexL}, shapedL l = true → l.drop i = .cons x r → shapedT x = true
  | .nil, 0, _, _, _, h => by cases h
  | .nil, _ + 1, _, _, _, h => by cases h
  | .cons y l, 0, x, r, hs, h => by
    cases h
    unfold shapedL at hs
    rw [Bool.and_eq_true] at hs; exact hs.1
  | .cons y l, i + 1, x, r, hs, h => by
    unfold shapedL at hs
    rw [Bool.and_eq_true] at hs; exact shapedL_at (l := l) (i := i) hs.2 h
mutual
def emptyT : RexT → Bool
  | .node op _ subs => if op = 2 then false else if op = 6 then anyE subs else if op = 4 then anyE subs else if op = 3 then !notE subs else true
def anyE : RexL → Bool
  | .nil => false
  | .cons x l => emptyT x || anyE l
def notE : RexL → Bool
  | .nil => false
  | .cons x l => !emptyT x || notE l
end
abbrev Em (f : Nat) (b : Bool) (ans : Tr (List Value → Option Value)) (eff : Tr (List Value → Hp → Option (Value × Hp))) (x : RexT) : Prop :=
  ∀ (H : Hp) (cs : List Value), RX H x cs → Has (tE ans eff) f [.agg cs.toArray] H fun v H' => v = .bool (xor b (emptyT x)) ∧ Keep H H'
/-- one function for both: what is asked for -/
def hasE (b : Bool) : RexL → Bool
  | .nil => false
  | .cons x l => xor b (emptyT x) || hasE b l
theorem hasE_false : ∀ l, hasE false l = anyE l
  | .nil => by unfold hasE anyE; rfl
  | .cons x l => by unfold hasE anyE; rw [hasE_false l, Bool.false_xor]
theorem hasE_true : ∀ l, hasE true l = notE l
  | .nil => by unfold hasE notE; rfl
  | .cons x l => by unfold hasE notE; rw [hasE_true l, Bool.true_xor]
abbrev CallOk (f : Nat) (ans : Tr (List Value → Option Value)) (eff : Tr (List Value → Hp → Option (Value × Hp))) : Prop := ∀ (args : List Value) (H : Hp), ccall (tE ans eff) f args H ((tE ans eff).ft.get f) = some (.enter f args, H)
theorem call15 : CallOk 15 ans eff := fun _ _ => by rw [ft15]; exact cc15
theorem call39 : CallOk 39 ans eff := fun _ _ => by rw [ft39]; exact cc39
set_option maxRecDepth 100000 in
set_option maxHeartbeats 8000000 in
theorem has_empty39 (hn : NoA ans eff 39) {x : RexT} (ih : Em 15 false ans eff x) : Em 39 true ans eff x := by
  intro H cs hx
  cases x with | node op set subs =>
  have hx' := hx
  unfold RX at hx
  obtain ⟨sv, bv, els, rfl, hsv, hbv, hsub⟩ := hx
  obtain ⟨asv, rfl, hls⟩ := hsv.lenP
  obtain ⟨ab, rfl, hlb⟩ := hbv.len
  refine Has.of hn ft39 rfl (Nat.le_of_ble_eq_true rfl) ?_
  have kH : Keep H (H.new (.cells [.int .i64 op, .slice asv set.length set.length, .slice ab els.length els.length] 25 none 0)) := (Keep.refl H).new _
  simp (config := { maxSteps := 1000000 }) (disch := first | omega | ((repeat (first | rw [n_new] | rw [n_put])) <;> omega) | fail) only [Tryz.f39, tt25, ft15, cc15, G_seq, G_region, G_onil, G_op, GG_true, GX_val, GX_enter, GP_some, put_lt, wantedG_none, eq_self, Nat.zero_add, tget_set, tget_of1, evalO_tmp, evalO_bool, evalO_func, oval_eq, xnew_eq, get_new_eq, cx_assign, cx_box, cx_load, cx_call, xcallv_func, loadAt_some, loadIn_cells, isJunk, takeN, Value.cells, List.toList_toArray, List.map_cons, List.map_nil, List.length_cons, List.length_nil, List.append_nil, List.nil_append, List.drop_zero, List.head?_cons, List.getElem?_cons_zero, List.getElem?_cons_succ, Option.map_some, cond_true, cond_false, if_true, if_false, Nat.reduceEqDiff]
  refine GCall.of (ih _ _ (RX.mono kH _ _ hx')) ?_
  rintro v H3 ⟨rfl, k3⟩
  simp (config := { maxSteps := 1000000 }) (disch := first | omega | ((repeat (first | rw [n_new] | rw [n_put])) <;> omega) | fail) only [G_nil, G_ret, G_onil, G_op, GG_true, GX_val, GP_some, put_lt, wantedG_none, eq_self, tget_set, tget_of1, evalO_tmp, oval_eq, cx_assign, cx_un, resAll, resOne, tupV1, Outs_ret, OutR_some, un_not, List.getElem?_cons_succ, if_true, if_false, Nat.reduceEqDiff]
  exact ⟨trivial, by rw [Bool.false_xor, Bool.true_xor], kH.trans k3⟩
set_option maxRecDepth 100000 in
set_option maxHeartbeats 8000000 in
theorem has_idx55 {f : Nat} {bl : Bool} (hn : NoA ans eff 55) (hcc : CallOk f ans eff) {subs : RexL} (ih : ∀ i x r, subs.drop i = .cons x r → Em f bl ans eff x) {H : Hp} {v : Value} {els : List (List Value)} (hbv : SlAt 3 anyP H v els) (hsub : RXL H subs els) :
    Has (tE ans eff) 55 [v, .func (.func f) #[] #[]] H fun r H' => (∃ k : Int, r = .int .i64 k ∧ decide (k ≥ 0) = hasE bl subs) ∧ Keep H H' := by
  obtain ⟨ab, rfl, hlb⟩ := hbv.len
  refine Has.of hn ft55 rfl (Nat.le_of_ble_eq_true rfl) ?_
  unfold CallOk at hcc
  simp (config := { maxSteps := 1000000 }) (disch := first | omega | ((repeat (first | rw [n_new] | rw [n_put])) <;> omega) | fail) only [Tryz.f55, tt23, G_seq, G_block, G_region, G_onil, G_op, GG_true, GX_val, GP_some, put_lt, wantedG_none, eq_self, Int.reduceNeg, Nat.zero_add, tget_set, tget_of2, nbeq, evalO_tmp, evalO_int, cx_move, cx_assign, cx_builtin, bi_len, tyAt0, xlen_sl, List.toList_toArray, List.map_cons, List.map_nil, List.length_cons, List.length_nil, List.getElem?_cons_zero, List.getElem?_cons_succ, cond_true, decide_true, if_true, if_false, Nat.reduceAdd, Nat.reduceEqDiff]
  refine G_loop_ind (fun k s => ∃ tm H2 i, s = ⟨tm, [], H2⟩ ∧ k + i = els.length ∧ tget tm 0 = .slice ab els.length els.length ∧ tget tm 1 = .func (.func f) #[] #[] ∧ tget tm 7 = .int .i64 ((els.length : Nat) : Int) ∧ tget tm 8 = .int .i64 ((i : Nat) : Int) ∧ Keep H H2 ∧ hasE bl (subs.drop i) = hasE bl subs) ?_ els.length _ ?_
  · rintro k ih2 s ⟨tm, H2, i, rfl, hk, h0, h1, h7, h8, kH, hd⟩
    by_cases hi : (i : Int) < (els.length : Int)
    · obtain ⟨x, e, hdx, he, hxe⟩ := RXL.at hsub (i := i) (by omega)
      obtain ⟨b, ty, l, r, rfl, hb, hg, hdr, hl3⟩ := hbv.elem he
      have hg2 : H2.get b = some (.cells l ty (some 3) 3) := by rw [kH.get hb]; exact hg
      match e, hl3 with
      | [e0, e1, e2], _ =>
        have hdrx : l.drop (i * 3) = e0 :: e1 :: e2 :: r := hdr
        simp (config := { maxSteps := 1000000 }) (disch := first | omega | ((repeat (first | rw [n_new] | rw [n_put])) <;> omega) | fail) only [tt25, tt23, h0, h1, h7, h8, hg2, hdrx, decide_eq_true hi, hcc, G_skip, G_seq, G_cond, GIf_true, G_block, G_region, G_onil, G_op, GG_true, GX_val, GX_enter, GP_some, put_lt, wantedG_none, eq_self, Int.reduceNeg, Nat.zero_add, tget_set, nbeq, evalO_tmp, oval_eq, cx_move, cx_assign, cx_load, cx_bin, cx_indexAddr, cx_call, xcallv_func, loadAt_some, loadIn_cells, xindexAddr_some, natOf_nat, xidx_sl, cbin_lss, takeN, List.map_cons, List.map_nil, List.append_nil, List.nil_append, List.head?_cons, Option.map_some, cond_true, decide_true, if_true, if_false, Nat.reduceEqDiff]
        refine GCall.of (ih i x _ hdx _ _ (RX.mono kH _ _ hxe)) ?_
        rintro v H3 ⟨rfl, k3⟩
        cases hs : xor bl (emptyT x) with
        | true =>
          simp (config := { maxSteps := 1000000 }) (disch := first | omega | ((repeat (first | rw [n_new] | rw [n_put])) <;> omega) | fail) only [G_nil, G_seq, G_cond, GIf_true, G_ret, G_region, G_codeR, G_lpR, G_blkR, G_onil, G_op, GG_true, GX_val, GP_some, put_lt, wantedG_none, eq_self, Int.reduceNeg, tget_set, evalO_tmp, cx_move, cx_assign, resAll, resOne, tupV1, Outs_ret, OutR_some, if_true, if_false, Nat.reduceEqDiff]
          refine ⟨trivial, ⟨_, rfl, ?_⟩, kH.trans k3⟩
          rw [← hd, hdx, hasE, hs, Bool.true_or, decide_eq_true (by omega)]
        | false =>
          simp (config := { maxSteps := 1000000 }) (disch := first | omega | ((repeat (first | rw [n_new] | rw [n_put])) <;> omega) | fail) only [h8, G_skip, G_cond, GIf_false, G_again, G_region, G_blkN, G_onil, G_op, GG_true, GX_val, GP_some, put_lt, wantedG_none, eq_self, Int.reduceNeg, tget_set, evalO_tmp, evalO_int, oval_eq, cx_move, cx_bin, cbin_add, wrap_nat_add1, if_true, if_false, Nat.reduceEqDiff]
          refine ih2 (k - 1) _ (by omega) ⟨_, H3, i + 1, rfl, by omega, ?_, ?_, ?_, ?_, kH.trans k3, ?_⟩
          · simp (config := { maxSteps := 1000000 }) (disch := first | omega | ((repeat (first | rw [n_new] | rw [n_put])) <;> omega) | fail) only [h0, eq_self, tget_set, if_false, Nat.reduceEqDiff]
          · simp (config := { maxSteps := 1000000 }) (disch := first | omega | ((repeat (first | rw [n_new] | rw [n_put])) <;> omega) | fail) only [h1, eq_self, tget_set, if_false, Nat.reduceEqDiff]
          · simp (config := { maxSteps := 1000000 }) (disch := first | omega | ((repeat (first | rw [n_new] | rw [n_put])) <;> omega) | fail) only [h7, eq_self, tget_set, if_false, Nat.reduceEqDiff]
          · simp (config := { maxSteps := 1000000 }) (disch := first | omega | ((repeat (first | rw [n_new] | rw [n_put])) <;> omega) | fail) only [h8, eq_self, tget_set, if_true, if_false, Nat.reduceEqDiff]
          · rw [← hd, hdx, hasE, hs, Bool.false_or]
    · simp (config := { maxSteps := 1000000 }) (disch := first | omega | ((repeat (first | rw [n_new] | rw [n_put])) <;> omega) | fail) only [h7, h8, decide_eq_false hi, G_nil, G_seq, G_cond, GIf_false, G_exit, G_ret, G_region, G_codeE, G_lpE, G_blkE, G_onil, G_op, GG_true, GX_val, GP_some, put_lt, wantedG_none, eq_self, Int.reduceNeg, tget_set, evalO_tmp, evalO_int, oval_eq, cx_assign, cx_bin, cbin_lss, resAll, resOne, tupV1, Outs_ret, OutR_some, if_true, if_false, Nat.reduceEqDiff]
      refine ⟨trivial, ⟨_, rfl, ?_⟩, kH⟩
      have e1 : subs.drop i = .nil := RexL.drop_len (by rw [← RXL.len hsub]; omega)
      rw [← hd, e1, hasE]; rfl
  · refine ⟨_, _, 0, rfl, rfl, ?_, ?_, ?_, ?_, Keep.refl _, rfl⟩
    all_goals (simp (config := { maxSteps := 1000000 }) (disch := first | omega | ((repeat (first | rw [n_new] | rw [n_put])) <;> omega) | fail) only [cast_lit, eq_self, tget_set, tget_of2, List.getElem?_cons_zero, List.getElem?_cons_succ, if_true, if_false, Nat.reduceEqDiff]; done)
set_option maxRecDepth 100000 in
set_option maxHeartbeats 8000000 in
theorem has_any38 {f : Nat} {bl : Bool} (hn : NoA ans eff 38) (hn55 : NoA ans eff 55) (hcc : CallOk f ans eff) {subs : RexL} (ih : ∀ i x r, subs.drop i = .cons x r → Em f bl ans eff x) {H : Hp} {v : Value} {els : List (List Value)} (hbv : SlAt 3 anyP H v els) (hsub : RXL H subs els) :
    Has (tE ans eff) 38 [v, .func (.func f) #[] #[]] H fun r H' => r = .bool (hasE bl subs) ∧ Keep H H' := by
  obtain ⟨ab, rfl, hlb⟩ := id hbv.len
  refine Has.of hn ft38 rfl (Nat.le_of_ble_eq_true rfl) ?_
  simp (config := { maxSteps := 1000000 }) (disch := first | omega | ((repeat (first | rw [n_new] | rw [n_put])) <;> omega) | fail) only [Tryz.f38, ft55, cc55, G_seq, G_region, G_onil, G_op, GG_true, GX_val, GX_enter, GP_some, put_lt, wantedG_none, eq_self, Nat.zero_add, tget_set, tget_of2, evalO_tmp, evalO_bool, evalO_func, cx_move, cx_assign, cx_call, xcallv_func, List.toList_toArray, List.map_cons, List.map_nil, List.length_cons, List.length_nil, List.append_nil, List.nil_append, List.getElem?_cons_zero, List.getElem?_cons_succ, if_true, if_false, Nat.reduceAdd, Nat.reduceEqDiff]
  refine GCall.of (has_idx55 hn55 hcc ih hbv hsub) ?_
  rintro v H3 ⟨⟨k, rfl, hk⟩, k3⟩
  simp (config := { maxSteps := 1000000 }) (disch := first | omega | ((repeat (first | rw [n_new] | rw [n_put])) <;> omega) | fail) only [G_nil, G_ret, G_onil, G_op, GG_true, GX_val, GP_some, put_lt, wantedG_none, eq_self, tget_set, tget_of2, evalO_tmp, evalO_int, oval_eq, cx_assign, cx_bin, cbin_geq, resAll, resOne, tupV1, Outs_ret, OutR_some, List.getElem?_cons_succ, if_true, if_false, Nat.reduceEqDiff]
  exact ⟨trivial, by rw [← hk], k3⟩
set_option maxRecDepth 100000 in
set_option maxHeartbeats 8000000 in
theorem has_empty (hn : NoA ans eff 15) (hn38 : NoA ans eff 38) (hn39 : NoA ans eff 39) (hn55 : NoA ans eff 55) : ∀ x, Em 15 false ans eff x := by
  refine RexT.indT _ fun op set subs ih => ?_
  have ih' : ∀ i x r, subs.drop i = .cons x r → Em 39 true ans eff x := fun i x r h => has_empty39 hn39 (ih i x r h)
  intro H cs hx
  unfold RX at hx
  obtain ⟨sv, bv, els, rfl, hsv, hbv, hsub⟩ := hx
  obtain ⟨asv, rfl, hls⟩ := hsv.lenP
  obtain ⟨ab, rfl, hlb⟩ := hbv.len
  refine Has.of hn ft15 rfl (Nat.le_of_ble_eq_true rfl) ?_
  have kH : Keep H (H.new (.cells [.int .i64 op, .slice asv set.length set.length, .slice ab els.length els.length] 25 none 0)) := (Keep.refl H).new _
  unfold emptyT
  by_cases o2 : op = 2
  · simp (config := { maxSteps := 1000000 }) (disch := first | omega | ((repeat (first | rw [n_new] | rw [n_put])) <;> omega) | fail) only [Tryz.f15, tt25, tt3, decide_eq_true o2, if_pos o2, G_nil, G_seq, G_cond, GIf_true, G_block, G_ret, G_region, G_codeR, G_blkR, G_onil, G_op, GG_true, GX_val, GP_some, put_lt, wantedG_none, eq_self, Nat.zero_add, tget_set, tget_of1, nbeq, evalO_tmp, evalO_int, evalO_bool, oval_eq, xnew_eq, get_new_eq, cx_assign, cx_box, cx_load, cx_bin, cx_fieldAddr, loadAt_some, loadIn_cells, xfieldAddr_some, xfa_some, cbin_eql, isJunk, takeN, Value.cells, resAll, resOne, tupV1, Outs_ret, OutR_some, List.toList_toArray, List.length_cons, List.length_nil, List.drop_zero, List.head?_cons, Nat.add_zero, List.getElem?_cons_zero, List.getElem?_cons_succ, Option.map_some, cond_true, cond_false, decide_true, decide_false, if_true, if_false, Nat.reduceEqDiff]
    exact ⟨trivial, (by first | trivial | rfl), (by repeat (first | assumption | exact Keep.refl _ | refine Keep.new ?_ _ | refine Keep.put ?_ _ (by first | omega | (simp only [n_new, n_put] <;> omega))))⟩
  · by_cases o6 : op = 6
    · simp (config := { maxSteps := 1000000 }) (disch := first | omega | ((repeat (first | rw [n_new] | rw [n_put])) <;> omega) | fail) only [Tryz.f15, tt25, tt23, tt3, decide_eq_false o2, decide_eq_true o6, if_neg o2, if_pos o6, ft38, cc38, G_skip, G_seq, G_cond, GIf_true, GIf_false, G_block, G_region, G_onil, G_op, GG_true, GX_val, GX_enter, GP_some, put_lt, wantedG_none, eq_self, Nat.zero_add, tget_set, tget_of1, nbeq, evalO_tmp, evalO_int, evalO_bool, evalO_func, oval_eq, xnew_eq, get_new_eq, cx_assign, cx_box, cx_load, cx_bin, cx_fieldAddr, cx_call, xcallv_func, loadAt_some, loadIn_cells, xfieldAddr_some, xfa_some, cbin_eql, isJunk, takeN, Value.cells, List.toList_toArray, List.map_cons, List.map_nil, List.length_cons, List.length_nil, List.append_nil, List.nil_append, List.drop_zero, List.drop_succ_cons, List.head?_cons, Nat.add_zero, List.getElem?_cons_zero, List.getElem?_cons_succ, Option.map_some, cond_true, cond_false, decide_true, decide_false, if_true, if_false, Nat.reduceEqDiff]
      refine GCall.of (has_any38 (f := 15) hn38 hn55 call15 ih (hbv.mono anyP_mono kH) (RXL.mono kH _ _ hsub)) ?_
      rintro v H3 ⟨rfl, k3⟩
      simp (config := { maxSteps := 1000000 }) (disch := first | omega | ((repeat (first | rw [n_new] | rw [n_put])) <;> omega) | fail) only [G_nil, G_ret, G_codeR, G_blkR, G_onil, G_op, GG_true, GX_val, GP_some, put_lt, wantedG_none, eq_self, tget_set, tget_of1, evalO_tmp, cx_assign, resAll, resOne, tupV1, Outs_ret, OutR_some, List.getElem?_cons_succ, if_true, if_false, Nat.reduceEqDiff]
      exact ⟨trivial, by rw [hasE_false]; simp, kH.trans k3⟩
    · by_cases o4 : op = 4
      · simp (config := { maxSteps := 1000000 }) (disch := first | omega | ((repeat (first | rw [n_new] | rw [n_put])) <;> omega) | fail) only [Tryz.f15, tt25, tt23, tt3, decide_eq_false o2, decide_eq_false o6, decide_eq_true o4, if_neg o2, if_neg o6, if_pos o4, ft38, cc38, G_seq, G_cond, GIf_true, GIf_false, G_block, G_region, G_onil, G_op, GG_true, GX_val, GX_enter, GP_some, put_lt, wantedG_none, eq_self, Nat.zero_add, tget_set, tget_of1, nbeq, evalO_tmp, evalO_int, evalO_bool, evalO_func, oval_eq, xnew_eq, get_new_eq, cx_assign, cx_box, cx_load, cx_bin, cx_fieldAddr, cx_call, xcallv_func, loadAt_some, loadIn_cells, xfieldAddr_some, xfa_some, cbin_eql, isJunk, takeN, Value.cells, List.toList_toArray, List.map_cons, List.map_nil, List.length_cons, List.length_nil, List.append_nil, List.nil_append, List.drop_zero, List.drop_succ_cons, List.head?_cons, Nat.add_zero, List.getElem?_cons_zero, List.getElem?_cons_succ, Option.map_some, cond_true, cond_false, decide_true, decide_false, if_true, if_false, Nat.reduceEqDiff]
        refine GCall.of (has_any38 (f := 15) hn38 hn55 call15 ih (hbv.mono anyP_mono kH) (RXL.mono kH _ _ hsub)) ?_
        rintro v H3 ⟨rfl, k3⟩
        simp (config := { maxSteps := 1000000 }) (disch := first | omega | ((repeat (first | rw [n_new] | rw [n_put])) <;> omega) | fail) only [G_nil, G_ret, G_codeR, G_blkR, G_onil, G_op, GG_true, GX_val, GP_some, put_lt, wantedG_none, eq_self, tget_set, tget_of1, evalO_tmp, cx_assign, resAll, resOne, tupV1, Outs_ret, OutR_some, List.getElem?_cons_succ, if_true, if_false, Nat.reduceEqDiff]
        exact ⟨trivial, by rw [hasE_false]; simp, kH.trans k3⟩
      · by_cases o3 : op = 3
        · simp (config := { maxSteps := 1000000 }) (disch := first | omega | ((repeat (first | rw [n_new] | rw [n_put])) <;> omega) | fail) only [Tryz.f15, tt25, tt23, tt3, decide_eq_false o2, decide_eq_false o6, decide_eq_false o4, decide_eq_true o3, if_neg o2, if_neg o6, if_neg o4, if_pos o3, ft38, cc38, G_seq, G_cond, GIf_true, GIf_false, G_block, G_region, G_onil, G_op, GG_true, GX_val, GX_enter, GP_some, put_lt, wantedG_none, eq_self, Nat.zero_add, tget_set, tget_of1, nbeq, evalO_tmp, evalO_int, evalO_bool, evalO_func, oval_eq, xnew_eq, get_new_eq, cx_assign, cx_box, cx_load, cx_bin, cx_fieldAddr, cx_call, xcallv_func, loadAt_some, loadIn_cells, xfieldAddr_some, xfa_some, cbin_eql, isJunk, takeN, Value.cells, List.toList_toArray, List.map_cons, List.map_nil, List.length_cons, List.length_nil, List.append_nil, List.nil_append, List.drop_zero, List.drop_succ_cons, List.head?_cons, Nat.add_zero, List.getElem?_cons_zero, List.getElem?_cons_succ, Option.map_some, cond_true, cond_false, decide_true, decide_false, if_true, if_false, Nat.reduceEqDiff]
          refine GCall.of (has_any38 (f := 39) hn38 hn55 call39 ih' (hbv.mono anyP_mono kH) (RXL.mono kH _ _ hsub)) ?_
          rintro v H3 ⟨rfl, k3⟩
          simp (config := { maxSteps := 1000000 }) (disch := first | omega | ((repeat (first | rw [n_new] | rw [n_put])) <;> omega) | fail) only [G_nil, G_ret, G_codeR, G_blkR, G_onil, G_op, GG_true, GX_val, GP_some, put_lt, wantedG_none, eq_self, tget_set, tget_of1, evalO_tmp, oval_eq, cx_assign, cx_un, resAll, resOne, tupV1, Outs_ret, OutR_some, un_not, List.getElem?_cons_succ, if_true, if_false, Nat.reduceEqDiff]
          exact ⟨trivial, by rw [hasE_true]; simp, kH.trans k3⟩
        · simp (config := { maxSteps := 1000000 }) (disch := first | omega | ((repeat (first | rw [n_new] | rw [n_put])) <;> omega) | fail) only [Tryz.f15, tt25, tt3, decide_eq_false o2, decide_eq_false o6, decide_eq_false o4, decide_eq_false o3, if_neg o2, if_neg o6, if_neg o4, if_neg o3, G_nil, G_skip, G_seq, G_cond, GIf_false, G_block, G_ret, G_region, G_blkN, G_onil, G_op, GG_true, GX_val, GP_some, put_lt, wantedG_none, eq_self, Nat.zero_add, tget_set, tget_of1, nbeq, evalO_tmp, evalO_int, evalO_bool, oval_eq, xnew_eq, get_new_eq, cx_assign, cx_box, cx_load, cx_bin, cx_fieldAddr, loadAt_some, loadIn_cells, xfieldAddr_some, xfa_some, cbin_eql, isJunk, takeN, Value.cells, resAll, resOne, tupV1, Outs_ret, OutR_some, List.toList_toArray, List.length_cons, List.length_nil, List.drop_zero, List.head?_cons, Nat.add_zero, List.getElem?_cons_zero, List.getElem?_cons_succ, Option.map_some, cond_true, cond_false, decide_true, decide_false, if_true, if_false, Nat.reduceEqDiff]
          exact ⟨trivial, (by first | trivial | rfl), (by repeat (first | assumption | exact Keep.refl _ | refine Keep.new ?_ _ | refine Keep.put ?_ _ (by first | omega | (simp only [n_new, n_put] <;> omega))))⟩
end
end Go.Proofs
