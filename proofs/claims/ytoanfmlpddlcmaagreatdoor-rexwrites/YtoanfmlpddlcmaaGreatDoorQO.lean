/- The program's normal form of a set, walked (no statement of the program is proved here). -/
import Derived.Test.YtoanfmlpddlcmaaGreatDoorQN
namespace Go.Proofs
open Go Go.PE
noncomputable section
variable {ans : Tr (List Value → Option Value)} {eff : Tr (List Value → Hp → Option (Value × Hp))}
/-- what is asked of the sort -/
def SortOk (ans : Tr (List Value → Option Value)) (eff : Tr (List Value → Hp → Option (Value × Hp))) : Prop :=
  ∀ (N : Nat) (H : Hp) (v : Value) (l : List (Int × Int)) (ob : Option Nat), Own N H v l ob → N ≤ H.n → l.length ≤ 400000 →
    Has (tE ans eff) 101 [v, .func (.func 90) #[] #[]] H fun _ H' => (∃ s, s.Perm l ∧ LoS s ∧ Own N H' v s ob) ∧ H.n ≤ H'.n ∧ ∀ k, k < H.n → ob ≠ some k → H'.get k = H.get k
set_option maxRecDepth 100000 in
set_option maxHeartbeats 8000000 in
theorem has_collect100 (hn : NoA ans eff 100) (hn105 : NoA ans eff 105) (hn102 : NoA ans eff 102) {H : Hp} {bc : Nat} {a : Option Addr} {c : Nat} {L : List (Int × Int)} (hbc : bc < H.n) (gbc : H.get bc = some (.cells [.slice a L.length c] 22 none 0)) (hv : StA H (.slice a L.length c) L) (hlen : L.length ≤ 200000) :
    Has (tE ans eff) 100 [.func (.func 102) #[] #[.pointer (some ⟨bc, 0, none⟩)]] H fun r H' => (∃ ob, Own H.n H' r (piecesL L) ob) ∧ Keep H H' := by
  refine Has.of hn ft100 rfl (Nat.le_of_ble_eq_true rfl) ?_
  simp (config := { maxSteps := 1000000 }) (disch := first | omega | ((repeat (first | rw [n_new] | rw [n_put])) <;> omega) | fail) only [Tryz.f100, ft105, cc105, G_seq, G_region, G_onil, G_op, GG_true, GX_val, GX_enter, GP_some, put_lt, wantedG_none, eq_self, Nat.zero_add, tget_set, tget_of1, evalO_tmp, evalO_nsl, evalO_func, cx_move, cx_assign, cx_call, xcallv_func, List.toList_toArray, List.map_cons, List.map_nil, List.length_cons, List.length_nil, List.append_nil, List.nil_append, List.getElem?_cons_zero, List.getElem?_cons_succ, if_true, if_false, Nat.reduceEqDiff]
  refine GCall.of (has_append105 hn105 hn102 hbc gbc hv hlen) ?_
  rintro r H1 ⟨ho, k1⟩
  simp (config := { maxSteps := 1000000 }) (disch := first | omega | ((repeat (first | rw [n_new] | rw [n_put])) <;> omega) | fail) only [G_nil, G_ret, G_onil, G_op, GG_true, GX_val, GP_some, put_lt, wantedG_none, eq_self, tget_set, tget_of1, evalO_tmp, cx_assign, resAll, resOne, tupV1, Outs_ret, OutR_some, List.getElem?_cons_succ, if_true, if_false, Nat.reduceEqDiff]
  exact ⟨trivial, ho, k1⟩
set_option maxRecDepth 100000 in
set_option maxHeartbeats 8000000 in
theorem has_sorted88 (hn : NoA ans eff 88) (hn100 : NoA ans eff 100) (hn105 : NoA ans eff 105) (hn102 : NoA ans eff 102) (hs : SortOk ans eff) {H : Hp} {bc : Nat} {a : Option Addr} {c : Nat} {L : List (Int × Int)} (hbc : bc < H.n) (gbc : H.get bc = some (.cells [.slice a L.length c] 22 none 0)) (hv : StA H (.slice a L.length c) L) (hlen : L.length ≤ 200000) :
    Has (tE ans eff) 88 [.func (.func 102) #[] #[.pointer (some ⟨bc, 0, none⟩)], .func (.func 90) #[] #[]] H fun r H' => (∃ s ob, s.Perm (piecesL L) ∧ LoS s ∧ Own H.n H' r s ob) ∧ Keep H H' := by
  refine Has.of hn ft88 rfl (Nat.le_of_ble_eq_true rfl) ?_
  have hpl := piecesL_len (l := L)
  simp (config := { maxSteps := 1000000 }) (disch := first | omega | ((repeat (first | rw [n_new] | rw [n_put])) <;> omega) | fail) only [Tryz.f88, ft100, cc100, G_seq, G_region, G_onil, G_op, GG_true, GX_val, GX_enter, GP_some, put_lt, wantedG_none, eq_self, Nat.zero_add, tget_set, tget_of2, evalO_tmp, evalO_nsl, evalO_func, cx_move, cx_assign, cx_call, xcallv_func, List.toList_toArray, List.map_cons, List.map_nil, List.length_cons, List.length_nil, List.append_nil, List.nil_append, List.getElem?_cons_zero, List.getElem?_cons_succ, if_true, if_false, Nat.reduceAdd, Nat.reduceEqDiff]
  refine GCall.of (has_collect100 hn100 hn105 hn102 hbc gbc hv hlen) ?_
  rintro r H1 ⟨⟨ob, ho⟩, k1⟩
  simp (config := { maxSteps := 1000000 }) (disch := first | omega | ((repeat (first | rw [n_new] | rw [n_put])) <;> omega) | fail) only [ft101, cc101, G_seq, G_region, G_onil, G_op, GG_true, GX_val, GX_enter, GP_some, put_lt, wantedG_none, eq_self, tget_set, tget_of2, evalO_tmp, evalO_func, cx_move, cx_assign, cx_call, xcallv_func, List.map_cons, List.map_nil, List.append_nil, List.nil_append, List.getElem?_cons_zero, List.getElem?_cons_succ, if_true, if_false, Nat.reduceEqDiff]
  refine GCall.of (hs H.n H1 r _ ob ho k1.le (by omega)) ?_
  rintro r2 H2 ⟨⟨s, h1, h2, h3⟩, hn2, hf⟩
  simp (config := { maxSteps := 1000000 }) (disch := first | omega | ((repeat (first | rw [n_new] | rw [n_put])) <;> omega) | fail) only [G_nil, G_seq, G_ret, G_region, G_onil, G_op, GG_true, GX_val, GP_some, put_lt, wantedG_none, eq_self, tget_set, tget_of2, evalO_tmp, cx_move, cx_assign, resAll, resOne, tupV1, Outs_ret, OutR_some, List.getElem?_cons_succ, if_true, if_false, Nat.reduceEqDiff]
  refine ⟨trivial, ⟨s, ob, h1, h2, h3⟩, by have := k1.le; omega, fun {k} hk => ?_⟩
  rw [hf k (by have := k1.le; omega) (fun e => by have := ho.lt e; omega), k1.get hk]
set_option maxRecDepth 100000 in
set_option maxHeartbeats 16000000 in
theorem has_norm78 (hn : NoA ans eff 78) (hn89 : NoA ans eff 89) (hn88 : NoA ans eff 88) (hn100 : NoA ans eff 100) (hn105 : NoA ans eff 105) (hn102 : NoA ans eff 102) (hs : SortOk ans eff) {H : Hp} {v : Value} {l : List (Int × Int)} (hv : StA H v l) (hval : ∀ p ∈ l, validP p) (hlen : l.length ≤ 200000) :
    Has (tE ans eff) 78 [v] H fun r H' => (∃ s, s.Perm (piecesL l) ∧ LoS s ∧ StA H' r (mergeL s)) ∧ Keep H H' := by
  obtain ⟨a, c, rfl, hl, _⟩ := id hv
  have hpl := piecesL_len (l := l)
  refine Has.of hn ft78 rfl (Nat.le_of_ble_eq_true rfl) ?_
  simp (config := { maxSteps := 1000000 }) (disch := first | omega | ((repeat (first | rw [n_new] | rw [n_put])) <;> omega) | fail) only [Tryz.f78, ft89, cc89, G_seq, G_region, G_onil, G_op, GG_true, GX_val, GX_enter, GP_some, put_lt, wantedG_none, eq_self, Nat.zero_add, tget_set, tget_of1, evalO_tmp, evalO_nsl, evalO_func, cx_move, cx_assign, cx_call, xcallv_func, List.toList_toArray, List.map_cons, List.map_nil, List.length_cons, List.length_nil, List.append_nil, List.nil_append, List.getElem?_cons_zero, List.getElem?_cons_succ, if_true, if_false, Nat.reduceEqDiff]
  refine GCall.of (has_pieces89 hn89) ?_
  rintro r H1 ⟨rfl, hH1⟩
  have k1 : Keep H H1 := by rw [hH1]; exact (Keep.refl _).new _
  have n1 : H1.n = H.n + 1 := by rw [hH1]; rfl
  have g1 : H1.get H.n = some (.cells [.slice a l.length c] 22 none 0) := by rw [hH1]; exact get_new_eq rfl
  clear hH1
  simp (config := { maxSteps := 1000000 }) (disch := first | omega | ((repeat (first | rw [n_new] | rw [n_put])) <;> omega) | fail) only [ft88, cc88, G_op, GG_true, GX_enter, GP_some, put_lt, wantedG_none, eq_self, tget_set, tget_of1, evalO_tmp, evalO_func, cx_call, xcallv_func, List.map_cons, List.map_nil, List.append_nil, List.nil_append, List.getElem?_cons_succ, if_true, if_false, Nat.reduceEqDiff]
  refine GCall.of (has_sorted88 hn88 hn100 hn105 hn102 hs (by omega) g1 (hv.mono k1) hlen) ?_
  rintro sv H2 ⟨⟨s', ob, hperm, hlo, ho⟩, k2⟩
  have kH := k1.trans k2
  replace ho : Own H.n H2 sv s' ob := by
    rcases ho with h | ⟨h0, b, e1, e2, e3, e4⟩
    · exact .inl h
    · exact .inr ⟨h0, b, e1, e2, by omega, e4⟩
  clear k1 k2 g1 n1
  have hsl : s'.length ≤ 400000 := by rw [hperm.length_eq]; omega
  have hsv : ∃ a, sv = .slice a s'.length s'.length := by
    rcases ho with ⟨rfl, rfl, _⟩ | ⟨_, b, rfl, _⟩
    · exact ⟨_, rfl⟩
    · exact ⟨_, rfl⟩
  obtain ⟨aS, rfl⟩ := hsv
  simp (config := { maxSteps := 1000000 }) (disch := first | omega | ((repeat (first | rw [n_new] | rw [n_put])) <;> omega) | fail) only [tt22, G_block, G_onil, G_op, GG_true, GX_val, GP_some, put_lt, wantedG_none, eq_self, tget_set, tget_of1, nbeq, evalO_tmp, evalO_int, cx_move, cx_builtin, bi_len, tyAt0, xlen_sl, List.map_cons, List.map_nil, List.getElem?_cons_succ, cond_true, decide_true, if_true, if_false, Nat.reduceEqDiff]
  refine G_loop_ind (fun k s => ∃ tm H2 i ov, s = ⟨tm, [], H2⟩ ∧ k + i = s'.length ∧ tget tm 9 = .slice aS s'.length s'.length ∧ tget tm 10 = .int .i64 ((s'.length : Nat) : Int) ∧ tget tm 11 = .int .i64 ((i : Nat) : Int) ∧ tget tm 3 = ov ∧ Own H.n H2 (.slice aS s'.length s'.length) s' ob ∧ (∃ ob', Own H.n H2 ov ((s'.take i).foldl mergeStep []) ob' ∧ ∀ b, ob = some b → ob' ≠ some b) ∧ NormP ((s'.take i).foldl mergeStep []) ∧ ((s'.take i).foldl mergeStep []).length ≤ i ∧ Keep H H2) ?_ s'.length _ ?_
  · clear ho kH H2
    rintro k ih2 s ⟨tm, H2, i, ov, rfl, hk, h9, h10, h11, h3, ho, ⟨ob', ho', hdis⟩, hnp, hml, kH⟩
    by_cases hi : (i : Int) < (s'.length : Int)
    · obtain ⟨x, hx, hxd⟩ := drop_at (l := s') (i := i) (by omega)
      have hxo : okp x := piecesL_ok hval x (hperm.mem_iff.1 (List.mem_of_getElem? hx))
      obtain ⟨b, e1, e2, hNb, hb, hg⟩ := ho.at (by omega)
      cases e1
      subst e2
      have hsd : (flatP s').drop (i * 2) = .int .i64 x.1 :: .int .i64 x.2 :: flatP (s'.drop (i + 1)) := by rw [flatP_drop, hxd, flatP_cons]
      have htk : (s'.take (i + 1)).foldl mergeStep [] = mergeStep ((s'.take i).foldl mergeStep []) x := by
        rw [List.take_add_one, hx]; simp [List.foldl_append]
      have hnp' : NormP ((s'.take (i + 1)).foldl mergeStep []) := by rw [htk]; exact mergeStep_norm hnp hxo
      rw [htk] at hnp'
      have hle := kH.le
      have kx : Keep H2 ((H2.new (.cells [.int .i64 0, .int .i64 0] 62 none 0)).put H2.n (.cells [.int .i64 x.1, .int .i64 x.2] 62 none 0)) := (by repeat (first | assumption | exact Keep.refl _ | refine Keep.new ?_ _ | refine Keep.put ?_ _ (by first | omega | (simp only [n_new, n_put] <;> omega))))
      obtain ⟨hx1, hx2, hx3, _⟩ := hxo
      have hw3 : IntKind.i64.wrap (x.1 - 1) = x.1 - 1 := wrap_ok (by omega) (by omega)
      rcases snoc_cases ((s'.take i).foldl mergeStep []) with he | ⟨d, q, he⟩
      · rw [he] at ho' htk hnp' hml
        obtain ⟨rfl, rfl⟩ := ho'.nil
        simp (config := { maxSteps := 1000000 }) (disch := first | omega | ((repeat (first | rw [n_new] | rw [n_put])) <;> omega) | fail) only [tt22, tt62, h3, h9, h10, h11, hg, hsd, decide_eq_true hi, G_skip, G_seq, G_cond, GIf_true, G_block, G_region, G_onil, G_op, GG_true, GX_val, GX_skip, GP_some, put_lt, put_none, wantedG_none, cast_lit, eq_self, Nat.zero_add, tget_set, nbeq, nble, evalO_tmp, oval_eq, oskip_some, xnew_eq, get_new_eq, cx_move, cx_assign, cx_alloc, cx_load, cx_store, cx_bin, cx_indexAddr, cx_builtin, xalloc_some, loadAt_some, loadIn_cells, storeAt_some, storeIn_cells, xindexAddr_some, natOf_nat, xidx_sl, cbin_lss, bi_len, tyAt0, xlen_sl, isJunk, oneC, splice, takeN, Value.cells, List.toList_toArray, List.map_cons, List.map_nil, List.all_cons, List.all_nil, List.length_cons, List.length_nil, List.head?_cons, Option.map_some, cond_true, cond_false, Bool.and_true, decide_true, if_true, if_false, Nat.reduceAdd, Nat.reduceEqDiff, Nat.reduceLeDiff]
        rw [G_draw (by kernel_rfl)]
        simp (config := { maxSteps := 1000000 }) (disch := first | omega | ((repeat (first | rw [n_new] | rw [n_put])) <;> omega) | fail) only [tt22, tt62, h3, G_skip, G_cond, GIf_false, G_region, G_onil, G_op, GG_true, GG_false, GX_val, GP_some, put_lt, wantedG_none, wantedG_some, wG_some, isB_bool, List.getElem?_toArray, eq_self, Int.reduceLT, Nat.zero_add, tget_set, nbeq, nble, evalO_tmp, evalO_int, evalO_bool, Tr.get_set, oval_eq, xnewSl_eq, get_put_eq, n_put, n_new, cx_move, cx_pick, xpick_false, cx_buildSlice, cx_load, cx_bin, cx_builtin, loadAt_some, loadIn_cells, cbin_gtr, isJunk, partsV, fillC, elemPl, splice, takeN, Value.cells, xbuildSlice, rep, limN, List.toList_toArray, List.map_cons, List.map_nil, List.length_cons, List.length_nil, List.append_nil, List.drop_zero, List.head?_cons, List.getElem?_cons_zero, List.getElem?_cons_succ, Option.map_some, cond_true, cond_false, Bool.and_true, Bool.not_true, Bool.not_false, decide_true, decide_false, if_true, if_false, List.size_toArray, Nat.reduceAdd, Nat.reduceEqDiff, Nat.reduceLeDiff, Nat.reduceMul]
        refine GX_app (p := x) (N := H.n) (ho'.keep (kx.new _)) (by simp only [n_new, n_put]; omega) (by rw [get_new_eq (by simp only [n_new, n_put])]) (by simp) ?_
        intro v1 H3 ho1 hn1 hf1
        have kH3 := Keep.app (H := H) (by repeat (first | assumption | exact Keep.refl _ | refine Keep.new ?_ _ | refine Keep.put ?_ _ (by first | omega | (simp only [n_new, n_put] <;> omega)))) (ho'.keep (kx.new _)) hn1 hf1
        simp only [n_new, n_put] at hn1
        simp (config := { maxSteps := 1000000 }) (disch := first | omega | ((repeat (first | rw [n_new] | rw [n_put])) <;> omega) | fail) only [h11, G_again, G_region, G_blkN, G_onil, G_op, GG_true, GX_val, GP_some, put_lt, wantedG_none, eq_self, tget_set, evalO_tmp, evalO_int, oval_eq, cx_move, cx_assign, cx_bin, cbin_add, wrap_nat_add1, if_true, if_false, Nat.reduceEqDiff]
        refine ih2 (k - 1) _ (by omega) ⟨_, H3, i + 1, v1, rfl, by omega, ?_, ?_, ?_, ?_, ?_, ?_, ?_, ?_, kH3⟩
        · simp (config := { maxSteps := 1000000 }) (disch := first | omega | ((repeat (first | rw [n_new] | rw [n_put])) <;> omega) | fail) only [h9, eq_self, tget_set, if_false, Nat.reduceEqDiff]
        · simp (config := { maxSteps := 1000000 }) (disch := first | omega | ((repeat (first | rw [n_new] | rw [n_put])) <;> omega) | fail) only [h10, eq_self, tget_set, if_false, Nat.reduceEqDiff]
        · simp (config := { maxSteps := 1000000 }) (disch := first | omega | ((repeat (first | rw [n_new] | rw [n_put])) <;> omega) | fail) only [h11, eq_self, tget_set, if_true, if_false, Nat.reduceEqDiff]
        · simp (config := { maxSteps := 1000000 }) (disch := first | omega | ((repeat (first | rw [n_new] | rw [n_put])) <;> omega) | fail) only [eq_self, tget_set, if_true, if_false, Nat.reduceEqDiff]
        · refine ho.frame (by omega) fun j hj => ?_
          cases hj
          rw [hf1 b (by simp only [n_new, n_put]; omega) (by simp)]
          simp (config := { maxSteps := 1000000 }) (disch := first | omega | ((repeat (first | rw [n_new] | rw [n_put])) <;> omega) | fail) only [get_new_ne, get_put_ne]
        · rw [htk, mergeStep_nil]
          refine ⟨_, ho1, fun b' hb' e => ?_⟩
          cases hb'
          simp only [n_new, n_put, Option.some.injEq] at e; omega
        · rw [htk]; exact hnp'
        · rw [htk, mergeStep_nil]; simp
      · rw [he] at ho' htk hnp' hml hnp
        obtain ⟨b', rfl, rfl, hNb', hb', hg'⟩ := ho'.snoc
        have hbb : b' ≠ b := fun e => hdis b rfl (by rw [e])
        rw [List.length_append, List.length_singleton] at hml
        have hqo := hnp.1 q (by simp)
        obtain ⟨hq1, hq2, hq3, hq4⟩ := hqo
        have hpos : decide (((d.length + 1 : Nat) : Int) > 0) = true := decide_eq_true (by omega)
        have hw : IntKind.i64.wrap (((d.length + 1 : Nat) : Int) - 1) = ((d.length : Nat) : Int) := by rw [wrap_ok (by omega) (by omega)]; omega
        have hd1 : (flatP (d ++ [q])).drop (d.length * 2 + 1) = .int .i64 q.2 :: flatP [] := flatP_at1
        by_cases hle2 : x.1 ≤ q.2 + 1
        · have hle3 : x.1 - 1 ≤ q.2 := by omega
          simp (config := { maxSteps := 1000000 }) (disch := first | omega | ((repeat (first | rw [n_new] | rw [n_put])) <;> omega) | fail) only [tt22, tt62, h3, h9, h10, h11, hg, hsd, decide_eq_true hi, G_skip, G_seq, G_cond, GIf_true, G_block, G_region, G_onil, G_op, GG_true, GX_val, GX_skip, GP_some, put_lt, put_none, wantedG_none, eq_self, Nat.zero_add, tget_set, nbeq, nble, evalO_tmp, oval_eq, oskip_some, xnew_eq, get_new_eq, cx_move, cx_assign, cx_alloc, cx_load, cx_store, cx_bin, cx_indexAddr, cx_builtin, xalloc_some, loadAt_some, loadIn_cells, storeAt_some, storeIn_cells, xindexAddr_some, natOf_nat, xidx_sl, cbin_lss, bi_len, tyAt0, xlen_sl, isJunk, oneC, splice, takeN, Value.cells, List.toList_toArray, List.map_cons, List.map_nil, List.all_cons, List.all_nil, List.length_cons, List.length_nil, List.head?_cons, Option.map_some, cond_true, cond_false, Bool.and_true, decide_true, if_true, if_false, Nat.reduceAdd, Nat.reduceEqDiff, Nat.reduceLeDiff]
          rw [G_draw (by kernel_rfl)]
          simp (config := { maxSteps := 1000000 }) (disch := first | omega | ((repeat (first | rw [n_new] | rw [n_put])) <;> omega) | fail) only [tt22, tt62, tt3, h3, hg', hd1, hw, hw3, hpos, decide_eq_true hle3, G_seq, G_cond, GIf_true, G_onil, G_op, GG_true, GX_val, GP_some, put_lt, wantedG_none, wantedG_some, wG_some, isB_bool, List.getElem?_toArray, eq_self, Nat.zero_add, tget_set, nbeq, evalO_tmp, evalO_int, evalO_bool, Tr.get_set, oval_eq, get_put_eq, get_put_ne, get_new_ne, cx_move, cx_pick, xpick_true, cx_load, cx_bin, cx_fieldAddr, cx_indexAddr, loadAt_some, loadIn_cells, xfieldAddr_some, xfa_some, xindexAddr_some, natOf_nat, xidx_sl, cbin_sub, cbin_leq, cbin_gtr, takeN, List.drop_zero, List.head?_cons, Nat.add_zero, List.getElem?_cons_zero, List.getElem?_cons_succ, Option.map_some, cond_true, cond_false, Bool.not_true, decide_true, decide_false, if_true, if_false, Nat.reduceEqDiff]
          rw [G_draw (by kernel_rfl)]
          have p1 : splice (flatP (d ++ [q])) (d.length * 2 + 1) [.int .i64 (if x.2 > q.2 then x.2 else q.2)] = some (flatP (d ++ [(q.1, if x.2 > q.2 then x.2 else q.2)])) := flatP_put1
          simp (config := { maxSteps := 1000000 }) (disch := first | omega | ((repeat (first | rw [n_new] | rw [n_put])) <;> omega) | fail) only [tt22, tt62, tt3, h3, h11, hg', hd1, hw, bi_max, p1, G_again, G_exit, G_region, G_codeE, G_blkE, G_onil, G_op, GG_true, GX_val, GX_skip, GP_some, put_lt, put_none, wantedG_none, eq_self, Nat.zero_add, tget_set, nbeq, nble, evalO_tmp, evalO_int, oval_eq, oskip_some, get_put_eq, get_put_ne, get_new_ne, cx_move, cx_load, cx_store, cx_bin, cx_fieldAddr, cx_indexAddr, cx_builtin, loadAt_some, loadIn_cells, storeAt_some, storeIn_cells, xfieldAddr_some, xfa_some, xindexAddr_some, natOf_nat, xidx_sl, cbin_add, cbin_sub, wrap_nat_add1, isJunk, oneC, takeN, Value.cells, List.toList_toArray, List.map_cons, List.map_nil, List.all_cons, List.all_nil, List.length_cons, List.length_nil, List.drop_zero, List.drop_succ_cons, List.head?_cons, List.getElem?_cons_zero, List.getElem?_cons_succ, Option.map_some, cond_true, cond_false, Bool.and_true, decide_true, decide_false, if_true, if_false, Nat.reduceEqDiff, Nat.reduceLeDiff]
          refine ih2 (k - 1) _ (by omega) ⟨_, _, i + 1, .slice (some ⟨b', 0, none⟩) (d.length + 1) (d.length + 1), rfl, by omega, ?_, ?_, ?_, ?_, ?_, ?_, ?_, ?_, ?_⟩
          · simp (config := { maxSteps := 1000000 }) (disch := first | omega | ((repeat (first | rw [n_new] | rw [n_put])) <;> omega) | fail) only [h9, eq_self, tget_set, if_false, Nat.reduceEqDiff]
          · simp (config := { maxSteps := 1000000 }) (disch := first | omega | ((repeat (first | rw [n_new] | rw [n_put])) <;> omega) | fail) only [h10, eq_self, tget_set, if_false, Nat.reduceEqDiff]
          · simp (config := { maxSteps := 1000000 }) (disch := first | omega | ((repeat (first | rw [n_new] | rw [n_put])) <;> omega) | fail) only [h11, eq_self, tget_set, if_true, if_false, Nat.reduceEqDiff]
          · simp (config := { maxSteps := 1000000 }) (disch := first | omega | ((repeat (first | rw [n_new] | rw [n_put])) <;> omega) | fail) only [h3, eq_self, tget_set, if_false, Nat.reduceEqDiff]
          · refine ho.frame (by simp only [n_put, n_new]; omega) fun j hj => ?_
            cases hj
            rw [get_put_ne (fun e => hbb e.symm)]
            simp (config := { maxSteps := 1000000 }) (disch := first | omega | ((repeat (first | rw [n_new] | rw [n_put])) <;> omega) | fail) only [get_new_ne, get_put_ne]
          · rw [htk, mergeStep_in hle2]
            refine ⟨some b', .inr ⟨by simp, b', by rw [List.length_append]; rfl, rfl, hNb', by simp only [n_put, n_new]; omega, ?_⟩, hdis⟩
            rw [get_put_eq rfl]
          · rw [htk]; exact hnp'
          · rw [htk, mergeStep_in hle2, List.length_append, List.length_singleton]; omega
          · exact (kH.trans kx).put _ hNb'
        · have hle3 : ¬ x.1 - 1 ≤ q.2 := by omega
          simp (config := { maxSteps := 1000000 }) (disch := first | omega | ((repeat (first | rw [n_new] | rw [n_put])) <;> omega) | fail) only [tt22, tt62, h3, h9, h10, h11, hg, hsd, decide_eq_true hi, G_skip, G_seq, G_cond, GIf_true, G_block, G_region, G_onil, G_op, GG_true, GX_val, GX_skip, GP_some, put_lt, put_none, wantedG_none, eq_self, Nat.zero_add, tget_set, nbeq, nble, evalO_tmp, oval_eq, oskip_some, xnew_eq, get_new_eq, cx_move, cx_assign, cx_alloc, cx_load, cx_store, cx_bin, cx_indexAddr, cx_builtin, xalloc_some, loadAt_some, loadIn_cells, storeAt_some, storeIn_cells, xindexAddr_some, natOf_nat, xidx_sl, cbin_lss, bi_len, tyAt0, xlen_sl, isJunk, oneC, splice, takeN, Value.cells, List.toList_toArray, List.map_cons, List.map_nil, List.all_cons, List.all_nil, List.length_cons, List.length_nil, List.head?_cons, Option.map_some, cond_true, cond_false, Bool.and_true, decide_true, if_true, if_false, Nat.reduceAdd, Nat.reduceEqDiff, Nat.reduceLeDiff]
          rw [G_draw (by kernel_rfl)]
          simp (config := { maxSteps := 1000000 }) (disch := first | omega | ((repeat (first | rw [n_new] | rw [n_put])) <;> omega) | fail) only [tt22, tt62, tt3, h3, hg', hd1, hw, hw3, hpos, decide_eq_false hle3, G_skip, G_cond, GIf_false, G_region, G_onil, G_op, GG_true, GX_val, GP_some, put_lt, wantedG_none, wantedG_some, wG_some, isB_bool, List.getElem?_toArray, eq_self, Nat.zero_add, tget_set, nbeq, nble, evalO_tmp, evalO_int, evalO_bool, Tr.get_set, oval_eq, xnewSl_eq, get_put_eq, get_put_ne, get_new_ne, n_put, n_new, cx_move, cx_pick, xpick_true, cx_buildSlice, cx_load, cx_bin, cx_fieldAddr, cx_indexAddr, cx_builtin, loadAt_some, loadIn_cells, xfieldAddr_some, xfa_some, xindexAddr_some, natOf_nat, xidx_sl, cbin_sub, cbin_leq, cbin_gtr, isJunk, partsV, fillC, elemPl, splice, takeN, Value.cells, xbuildSlice, rep, limN, List.toList_toArray, List.map_cons, List.map_nil, List.length_cons, List.length_nil, List.append_nil, List.drop_zero, List.head?_cons, Nat.add_zero, List.getElem?_cons_zero, List.getElem?_cons_succ, Option.map_some, cond_true, cond_false, Bool.and_true, Bool.not_true, Bool.not_false, decide_true, decide_false, if_true, if_false, List.size_toArray, Nat.reduceAdd, Nat.reduceEqDiff, Nat.reduceLeDiff, Nat.reduceMul]
          refine GX_app (p := x) (N := H.n) (l := d ++ [q]) (ho'.keep (kx.new _)) (by simp only [n_new, n_put]; omega) (by rw [get_new_eq (by simp only [n_new, n_put])]) (by rw [List.length_append, List.length_singleton]; omega) ?_
          intro v1 H3 ho1 hn1 hf1
          have kH3 := Keep.app (H := H) (by repeat (first | assumption | exact Keep.refl _ | refine Keep.new ?_ _ | refine Keep.put ?_ _ (by first | omega | (simp only [n_new, n_put] <;> omega)))) (ho'.keep (kx.new _)) hn1 hf1
          simp only [n_new, n_put] at hn1
          simp (config := { maxSteps := 1000000 }) (disch := first | omega | ((repeat (first | rw [n_new] | rw [n_put])) <;> omega) | fail) only [h11, G_again, G_region, G_blkN, G_onil, G_op, GG_true, GX_val, GP_some, put_lt, wantedG_none, eq_self, tget_set, evalO_tmp, evalO_int, oval_eq, cx_move, cx_assign, cx_bin, cbin_add, wrap_nat_add1, if_true, if_false, Nat.reduceEqDiff]
          refine ih2 (k - 1) _ (by omega) ⟨_, H3, i + 1, v1, rfl, by omega, ?_, ?_, ?_, ?_, ?_, ?_, ?_, ?_, kH3⟩
          · simp (config := { maxSteps := 1000000 }) (disch := first | omega | ((repeat (first | rw [n_new] | rw [n_put])) <;> omega) | fail) only [h9, eq_self, tget_set, if_false, Nat.reduceEqDiff]
          · simp (config := { maxSteps := 1000000 }) (disch := first | omega | ((repeat (first | rw [n_new] | rw [n_put])) <;> omega) | fail) only [h10, eq_self, tget_set, if_false, Nat.reduceEqDiff]
          · simp (config := { maxSteps := 1000000 }) (disch := first | omega | ((repeat (first | rw [n_new] | rw [n_put])) <;> omega) | fail) only [h11, eq_self, tget_set, if_true, if_false, Nat.reduceEqDiff]
          · simp (config := { maxSteps := 1000000 }) (disch := first | omega | ((repeat (first | rw [n_new] | rw [n_put])) <;> omega) | fail) only [eq_self, tget_set, if_true, if_false, Nat.reduceEqDiff]
          · refine ho.frame (by omega) fun j hj => ?_
            cases hj
            rw [hf1 b (by simp only [n_new, n_put]; omega) (fun e => hbb (Option.some.inj e))]
            simp (config := { maxSteps := 1000000 }) (disch := first | omega | ((repeat (first | rw [n_new] | rw [n_put])) <;> omega) | fail) only [get_new_ne, get_put_ne]
          · rw [htk, mergeStep_out hle2]
            refine ⟨_, ho1, fun b'' hb'' e => ?_⟩
            cases hb''
            simp only [n_new, n_put, Option.some.injEq] at e; omega
          · rw [htk]; exact hnp'
          · rw [htk, mergeStep_out hle2, List.length_append, List.length_append, List.length_singleton, List.length_singleton]; omega
    · simp (config := { maxSteps := 1000000 }) (disch := first | omega | ((repeat (first | rw [n_new] | rw [n_put])) <;> omega) | fail) only [h3, h10, h11, decide_eq_false hi, G_nil, G_seq, G_cond, GIf_false, G_exit, G_ret, G_region, G_codeE, G_lpE, G_blkE, G_onil, G_op, GG_true, GX_val, GP_some, put_lt, wantedG_none, eq_self, tget_set, evalO_tmp, oval_eq, cx_move, cx_assign, cx_bin, cbin_lss, resAll, resOne, tupV1, Outs_ret, OutR_some, if_true, if_false, Nat.reduceEqDiff]
      rw [List.take_of_length_le (by omega)] at ho' hml
      exact ⟨trivial, ⟨s', hperm, hlo, ho'.st (by omega)⟩, kH⟩
  · refine ⟨_, _, 0, .slice none 0 0, rfl, rfl, ?_, ?_, ?_, ?_, ho, ⟨none, .inl ⟨rfl, rfl, rfl⟩, fun b _ e => by cases e⟩, ⟨(fun p hp => by cases hp), List.Pairwise.nil⟩, Nat.le_refl _, kH⟩
    all_goals (simp (config := { maxSteps := 1000000 }) (disch := first | omega | ((repeat (first | rw [n_new] | rw [n_put])) <;> omega) | fail) only [cast_lit, eq_self, tget_set, tget_of1, List.getElem?_cons_succ, if_true, if_false, Nat.reduceEqDiff]; done)
end
end Go.Proofs
