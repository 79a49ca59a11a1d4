/- The reference's normal form of a set, walked (no statement of the program is proved here). -/
import Derived.Test.YtoanfmlpddlcmaaGreatDoorQI
namespace Go.Proofs
open Go Go.PE
noncomputable section
variable {ans : Tr (List Value → Option Value)} {eff : Tr (List Value → Hp → Option (Value × Hp))}
theorem splice_app {k : Nat} {vs B : List Value} : ∀ {A : List Value} {r : List Value}, splice B k vs = some r → splice (A ++ B) (A.length + k) vs = some (A ++ r)
  | [], r, h => by simpa using h
  | a :: A, r, h => by
    have ih := splice_app (A := A) h
    rw [List.length_cons, Nat.add_right_comm, List.cons_append, splice, ih]; rfl
theorem splice_two {a b c d : Value} {R : List Value} : splice (a :: b :: R) 0 [c, d] = some (c :: d :: R) := by
  simp only [splice]
theorem splice_snd {a b c : Value} {R : List Value} : splice (a :: b :: R) 1 [c] = some (a :: c :: R) := by
  simp only [splice]
theorem flatP_snoc {d : List (Int × Int)} {q : Int × Int} {R : List (Int × Int)} : flatP (d ++ q :: R) = flatP d ++ .int .i64 q.1 :: .int .i64 q.2 :: flatP R := by rw [flatP_append, flatP_cons]
theorem flatP_at {d : List (Int × Int)} {q : Int × Int} {R : List (Int × Int)} : (flatP (d ++ q :: R)).drop (d.length * 2) = .int .i64 q.1 :: .int .i64 q.2 :: flatP R := by
  rw [flatP_snoc, ← flatP_len, List.drop_left]
theorem flatP_at1 {d : List (Int × Int)} {q : Int × Int} {R : List (Int × Int)} : (flatP (d ++ q :: R)).drop (d.length * 2 + 1) = .int .i64 q.2 :: flatP R := by
  rw [← List.drop_drop, flatP_at]; rfl
theorem flatP_put {d : List (Int × Int)} {q p : Int × Int} {R : List (Int × Int)} : splice (flatP (d ++ q :: R)) (d.length * 2) [.int .i64 p.1, .int .i64 p.2] = some (flatP (d ++ p :: R)) := by
  have := splice_app (A := flatP d) (splice_two (a := .int .i64 q.1) (b := .int .i64 q.2) (c := .int .i64 p.1) (d := .int .i64 p.2) (R := flatP R))
  rw [flatP_snoc, flatP_snoc, ← flatP_len]; exact this
theorem flatP_put1 {d : List (Int × Int)} {q : Int × Int} {h : Int} {R : List (Int × Int)} : splice (flatP (d ++ q :: R)) (d.length * 2 + 1) [.int .i64 h] = some (flatP (d ++ (q.1, h) :: R)) := by
  have := splice_app (A := flatP d) (splice_snd (a := .int .i64 q.1) (b := .int .i64 q.2) (c := .int .i64 h) (R := flatP R))
  rw [flatP_snoc, flatP_snoc, ← flatP_len]; exact this
/-- a set that the function made itself -/
def Own (N : Nat) (H : Hp) (v : Value) (l : List (Int × Int)) (ob : Option Nat) : Prop :=
  (l = [] ∧ v = .slice none 0 0 ∧ ob = none) ∨ (l ≠ [] ∧ ∃ b, v = .slice (some ⟨b, 0, none⟩) l.length l.length ∧ ob = some b ∧ N ≤ b ∧ b < H.n ∧ H.get b = some (.cells (flatP l) 62 (some 2) 0))
theorem Own.frame {N : Nat} {H H' : Hp} {v : Value} {l : List (Int × Int)} {ob : Option Nat} (o : Own N H v l ob) (hn : H.n ≤ H'.n) (hg : ∀ k, ob = some k → H'.get k = H.get k) : Own N H' v l ob := by
  rcases o with h | ⟨h0, b, h1, h2, h3, h4, h5⟩
  · exact .inl h
  · exact .inr ⟨h0, b, h1, h2, h3, Nat.lt_of_lt_of_le h4 hn, by rw [hg b h2]; exact h5⟩
theorem Own.keep {N : Nat} {H H' : Hp} {v : Value} {l : List (Int × Int)} {ob : Option Nat} (o : Own N H v l ob) (k : Keep H H') : Own N H' v l ob := by
  rcases o with h | ⟨h0, b, h1, h2, h3, h4, h5⟩
  · exact .inl h
  · exact .inr ⟨h0, b, h1, h2, h3, Nat.lt_of_lt_of_le h4 k.le, by rw [k.get h4]; exact h5⟩
theorem Own.st {N : Nat} {H : Hp} {v : Value} {l : List (Int × Int)} {ob : Option Nat} (o : Own N H v l ob) (hl : l.length ≤ 2000000) : StA H v l := by
  rcases o with ⟨rfl, rfl, _⟩ | ⟨h0, b, h1, h2, h3, h4, h5⟩
  · exact ⟨_, _, rfl, by decide, .inl rfl⟩
  · exact ⟨_, _, h1, by omega, .inr ⟨b, _, _, _, [], rfl, h4, by rw [List.append_nil]; exact h5⟩⟩
theorem Own.lt {N : Nat} {H : Hp} {v : Value} {l : List (Int × Int)} {ob : Option Nat} (o : Own N H v l ob) {k : Nat} (hk : ob = some k) : N ≤ k ∧ k < H.n := by
  rcases o with ⟨_, _, h⟩ | ⟨h0, b, h1, h2, h3, h4, h5⟩
  · rw [h] at hk; cases hk
  · rw [h2] at hk; cases hk; exact ⟨h3, h4⟩
theorem Own.nil {N : Nat} {H : Hp} {v : Value} {ob : Option Nat} (o : Own N H v [] ob) : v = .slice none 0 0 ∧ ob = none := by
  rcases o with ⟨_, h⟩ | ⟨h0, _⟩
  · exact h
  · exact absurd rfl h0
theorem Own.at {N : Nat} {H : Hp} {v : Value} {l : List (Int × Int)} {ob : Option Nat} (o : Own N H v l ob) (h0 : 0 < l.length) : ∃ b, v = .slice (some ⟨b, 0, none⟩) l.length l.length ∧ ob = some b ∧ N ≤ b ∧ b < H.n ∧ H.get b = some (.cells (flatP l) 62 (some 2) 0) := by
  rcases o with ⟨rfl, _⟩ | ⟨_, h⟩
  · cases h0
  · exact h
theorem Own.snoc {N : Nat} {H : Hp} {v : Value} {d : List (Int × Int)} {q : Int × Int} {ob : Option Nat} (o : Own N H v (d ++ [q]) ob) : ∃ b, v = .slice (some ⟨b, 0, none⟩) (d.length + 1) (d.length + 1) ∧ ob = some b ∧ N ≤ b ∧ b < H.n ∧ H.get b = some (.cells (flatP (d ++ [q])) 62 (some 2) 0) := by
  have := o.at (by simp)
  rw [List.length_append] at this
  exact this
set_option maxRecDepth 100000 in
theorem GX_app {N : Nat} {H : Hp} {v : Value} {l : List (Int × Int)} {p : Int × Int} {ob : Option Nat} {C : Ctx} {Q : Ex → St → Prop} {ks : List Kt} {dd : Bool} {s : St} {dst : Option Nat} {bx : Nat} (o : Own N H v l ob) (hN : N ≤ H.n) (hx : H.get bx = some (.cells [.int .i64 p.1, .int .i64 p.2] 62 none 0)) (hl : l.length ≤ 2000000)
    (h : ∀ v' H', Own N H' v' (l ++ [p]) (some H.n) → H'.n = H.n + 1 → (∀ k, k < H.n → ob ≠ some k → H'.get k = H.get k) → GP (tE ans eff) C Q ks s.df H' (put C.nt v' s.tm dst)) :
    GX (tE ans eff) C Q ks dd s dst (xbuiltin (tE ans eff) #[22, 22] H .append [v, .slice (some ⟨bx, 0, none⟩) 1 1]) := by
  have hlimN : limN = 16777216 := rfl
  rcases o with ⟨rfl, rfl, rfl⟩ | ⟨h0, b, rfl, rfl, h3, h4, h5⟩
  · rw [(bi_app (E := tE ans eff) tt22 tt22 rfl rfl tt62 hx rfl rfl rfl 0 rfl (by decide)).trans (capp_nil (by decide))]
    refine h _ _ ?_ rfl fun k hk _ => get_new_ne (by omega)
    exact .inr ⟨by simp, H.n, rfl, rfl, hN, Nat.lt_succ_self _, get_new_eq rfl⟩
  · rw [(bi_app (E := tE ans eff) tt22 tt22 rfl rfl tt62 hx rfl rfl rfl l.length rfl (by rw [hlimN]; show (l.length + 1) * 3 ≤ _; omega)).trans (capp_grow (by decide) h5 (by rw [flatP_len]) rfl)]
    refine h _ _ ?_ rfl fun k hk hne => ?_
    · refine .inr ⟨by simp, H.n, by rw [List.length_append]; rfl, rfl, hN, Nat.lt_succ_self _, ?_⟩
      rw [get_new_eq (by rw [n_put]), flatP_append]; rfl
    · rw [get_new_ne (by rw [n_put]; omega), get_put_ne (fun e => hne (by rw [e]))]
theorem Keep.app {H H2 H3 : Hp} {v : Value} {l : List (Int × Int)} {ob : Option Nat} (k : Keep H H2) (o : Own H.n H2 v l ob) (hn : H3.n = H2.n + 1) (hf : ∀ k, k < H2.n → ob ≠ some k → H3.get k = H2.get k) : Keep H H3 :=
  ⟨by have := k.le; omega, fun {j} hj => by rw [hf j (by have := k.le; omega) (fun e => by have := (o.lt e).1; omega)]; exact k.get hj⟩
set_option maxRecDepth 100000 in
set_option maxHeartbeats 16000000 in
theorem has_norm66 (hn : NoA ans eff 66) {H : Hp} {v : Value} {l : List (Int × Int)} (hv : StA H v l) (hval : ∀ p ∈ l, validP p) (hlen : l.length ≤ 200000) :
    Has (tE ans eff) 66 [v] H fun r H' => (∃ s, s.Perm (piecesL l) ∧ LoS s ∧ StA H' r (mergeL s)) ∧ Keep H H' := by
  obtain ⟨a, c, rfl, hl, _⟩ := id hv
  refine Has.of hn ft66 rfl (Nat.le_of_ble_eq_true rfl) ?_
  simp (config := { maxSteps := 1000000 }) (disch := first | omega | ((repeat (first | rw [n_new] | rw [n_put])) <;> omega) | fail) only [Tryz.f66, G_seq, G_block, G_region, G_onil, G_op, GG_true, GX_val, GP_some, put_lt, wantedG_none, Nat.zero_add, evalO_int, evalO_nsl, cx_assign, List.toList_toArray, List.length_cons, List.length_nil]
  refine G.cut (fun e s => e = .exit 0 ∧ ∃ tm H2 sv ob, s = ⟨tm, [], H2⟩ ∧ tget tm 3 = sv ∧ Own H.n H2 sv (piecesL l) ob ∧ Keep H H2) ?_ ?_
  · refine G_loop_ind (fun k s => ∃ tm H2 i sv, s = ⟨tm, [], H2⟩ ∧ k + i = l.length ∧ tget tm 0 = .slice a l.length c ∧ tget tm 4 = .int .i64 ((i : Nat) : Int) ∧ tget tm 3 = sv ∧ (∃ ob, Own H.n H2 sv (piecesL (l.take i)) ob) ∧ Keep H H2) ?_ l.length _ ?_
    · rintro k ih2 s ⟨tm, H2, i, sv, rfl, hk, h0, h4, h3, ⟨ob, ho⟩, kH⟩
      by_cases hi : (i : Int) < (l.length : Int)
      · obtain ⟨p, hp, hpd⟩ := drop_at (l := l) (i := i) (by omega)
        obtain ⟨b, cs, ty, es, fl, r, rfl, hb, hg, hdr⟩ := hv.elem hp
        have hg2 : H2.get b = some (.cells cs ty es fl) := by rw [kH.get hb]; exact hg
        have hdr1 : cs.drop (i * 2 + 1) = .int .i64 p.2 :: r := by rw [← List.drop_drop, hdr]; rfl
        have hle := kH.le
        have hpt := piecesL_take hp
        have htl : (l.take i).length ≤ 200000 := by rw [List.length_take]; omega
        have hpl := piecesL_len (l := l.take i)
        simp (config := { maxSteps := 1000000 }) (disch := first | omega | ((repeat (first | rw [n_new] | rw [n_put])) <;> omega) | fail) only [tt22, h0, h4, decide_eq_true hi, G_skip, G_seq, G_cond, GIf_true, G_block, G_region, G_onil, G_op, GG_true, GX_val, GP_some, put_lt, wantedG_none, eq_self, tget_set, nbeq, evalO_tmp, oval_eq, cx_move, cx_bin, cx_builtin, cbin_lss, bi_len, tyAt0, xlen_sl, List.map_cons, List.map_nil, cond_true, decide_true, if_true, if_false, Nat.reduceEqDiff]
        rw [G_draw (by kernel_rfl)]
        simp (config := { maxSteps := 1000000 }) (disch := first | omega | ((repeat (first | rw [n_new] | rw [n_put])) <;> omega) | fail) only [tt22, tt62, tt3, h0, h4, hg2, hdr, hdr1, bi_min, show (if (55295 : Int) < p.2 then (55295 : Int) else p.2) = mnS p.2 from rfl, G_seq, G_onil, G_op, GG_true, GX_val, GX_skip, GP_some, put_lt, put_none, wantedG_none, eq_self, Nat.zero_add, tget_set, nbeq, nble, evalO_tmp, evalO_int, oval_eq, oskip_some, xnew_eq, get_new_eq, cx_move, cx_alloc, cx_build, cx_load, cx_store, cx_fieldAddr, cx_indexAddr, cx_builtin, xalloc_some, loadAt_some, loadIn_cells, storeAt_some, storeIn_cells, xfieldAddr_some, xfa_some, xindexAddr_some, natOf_nat, xidx_sl, isJunk, oneC, cbuild, partsV, fillC, fieldPl, elemPl, splice, takeN, Value.cells, List.toList_toArray, List.map_cons, List.map_nil, List.all_cons, List.all_nil, List.length_cons, List.length_nil, List.head?_cons, Nat.add_zero, List.getElem?_cons_zero, List.getElem?_cons_succ, Option.map_some, cond_true, cond_false, Bool.and_true, Bool.not_true, Bool.not_false, decide_true, decide_false, if_true, if_false, List.size_toArray, Nat.reduceAdd, Nat.reduceEqDiff, Nat.reduceLeDiff]
        rw [G_draw (by kernel_rfl)]
        by_cases hA : p.1 ≤ mnS p.2
        · by_cases hB : mxS p.1 ≤ p.2
          · simp (config := { maxSteps := 1000000 }) (disch := first | omega | ((repeat (first | rw [n_new] | rw [n_put])) <;> omega) | fail) only [tt22, tt62, tt3, h0, h3, h4, hg2, hdr, hdr1, bi_max, show (if (57344 : Int) > p.1 then (57344 : Int) else p.1) = mxS p.1 from rfl, decide_eq_true hA, G_seq, G_cond, GIf_true, G_region, G_onil, G_op, GG_true, GX_val, GX_skip, GP_some, put_lt, put_none, wantedG_none, eq_self, Nat.zero_add, tget_set, nbeq, nble, evalO_tmp, evalO_int, oval_eq, oskip_some, xnew_eq, xnewSl_eq, get_put_eq, get_put_ne, get_new_eq, get_new_ne, n_put, n_new, cx_move, cx_alloc, cx_build, cx_buildSlice, cx_load, cx_store, cx_bin, cx_fieldAddr, cx_indexAddr, cx_builtin, xalloc_some, loadAt_some, loadIn_cells, storeAt_some, storeIn_cells, xfieldAddr_some, xfa_some, xindexAddr_some, natOf_nat, xidx_sl, cbin_leq, isJunk, oneC, cbuild, partsV, fillC, fieldPl, elemPl, splice, takeN, Value.cells, xbuildSlice, rep, limN, List.toList_toArray, List.map_cons, List.map_nil, List.all_cons, List.all_nil, List.length_cons, List.length_nil, List.append_nil, List.drop_zero, List.drop_succ_cons, List.head?_cons, Nat.add_zero, List.getElem?_cons_zero, List.getElem?_cons_succ, Option.map_some, cond_true, cond_false, Bool.and_true, Bool.not_true, Bool.not_false, decide_true, decide_false, if_true, if_false, List.size_toArray, Nat.reduceAdd, Nat.reduceEqDiff, Nat.reduceLeDiff, Nat.reduceMul]
            refine GX_app (p := (p.1, mnS p.2)) (l := piecesL (l.take i)) (ob := ob) (N := H.n) (ho.keep (by repeat (first | assumption | exact Keep.refl _ | refine Keep.new ?_ _ | refine Keep.put ?_ _ (by first | omega | (simp only [n_new, n_put] <;> omega))))) (by simp only [n_new, n_put]; omega) (by rw [get_new_eq (by simp only [n_new, n_put])]) (by omega) ?_
            intro v1 H3 ho1 hn1 hf1
            have kH3 := Keep.app (H := H) (by repeat (first | assumption | exact Keep.refl _ | refine Keep.new ?_ _ | refine Keep.put ?_ _ (by first | omega | (simp only [n_new, n_put] <;> omega)))) (ho.keep (by repeat (first | assumption | exact Keep.refl _ | refine Keep.new ?_ _ | refine Keep.put ?_ _ (by first | omega | (simp only [n_new, n_put] <;> omega))))) hn1 hf1
            have q1 : H3.get (H2.n + 1) = some (.cells [.int .i64 (mxS p.1), .int .i64 p.2] 62 none 0) := by
              rw [hf1 _ (by simp only [n_new, n_put]; omega) (fun e => by have := (ho.lt e).2; omega)]
              simp (config := { maxSteps := 1000000 }) (disch := first | omega | ((repeat (first | rw [n_new] | rw [n_put])) <;> omega) | fail) only [get_new_ne, get_put_eq]
            simp only [n_new, n_put] at hn1
            simp (config := { maxSteps := 1000000 }) (disch := first | omega | ((repeat (first | rw [n_new] | rw [n_put])) <;> omega) | fail) only [tt22, tt62, tt3, q1, decide_eq_true hB, G_seq, G_cond, GIf_true, G_region, G_onil, G_op, GG_true, GX_val, GP_some, put_lt, wantedG_none, eq_self, Nat.zero_add, tget_set, nbeq, nble, evalO_tmp, oval_eq, xnewSl_eq, cx_move, cx_assign, cx_buildSlice, cx_load, cx_bin, cx_fieldAddr, cx_builtin, loadAt_some, loadIn_cells, xfieldAddr_some, xfa_some, cbin_leq, isJunk, partsV, fillC, elemPl, splice, takeN, Value.cells, xbuildSlice, rep, limN, List.toList_toArray, List.map_cons, List.map_nil, List.length_cons, List.length_nil, List.append_nil, List.drop_zero, List.drop_succ_cons, List.head?_cons, Nat.add_zero, List.getElem?_cons_zero, List.getElem?_cons_succ, Option.map_some, cond_true, cond_false, Bool.and_true, Bool.not_false, decide_true, decide_false, if_true, if_false, List.size_toArray, Nat.reduceAdd, Nat.reduceEqDiff, Nat.reduceLeDiff, Nat.reduceMul]
            refine GX_app (p := (mxS p.1, p.2)) (N := H.n) (ho1.keep ((Keep.refl _).new _)) (by have := kH3.le; simp only [n_new]; omega) (by rw [get_new_eq rfl]) (by rw [List.length_append, List.length_singleton]; omega) ?_
            intro v2 H4 ho2 hn2 hf2
            have kH4 := Keep.app (H := H) (by repeat (first | assumption | exact Keep.refl _ | refine Keep.new ?_ _ | refine Keep.put ?_ _ (by first | omega | (simp only [n_new, n_put] <;> omega)))) (ho1.keep ((Keep.refl _).new _)) hn2 hf2
            simp (config := { maxSteps := 1000000 }) (disch := first | omega | ((repeat (first | rw [n_new] | rw [n_put])) <;> omega) | fail) only [h4, G_again, G_region, G_blkN, G_onil, G_op, GG_true, GX_val, GP_some, put_lt, wantedG_none, eq_self, tget_set, evalO_tmp, evalO_int, oval_eq, cx_move, cx_assign, cx_bin, cbin_add, wrap_nat_add1, if_true, if_false, Nat.reduceEqDiff]
            refine ih2 (k - 1) _ (by omega) ⟨_, H4, i + 1, v2, rfl, by omega, ?_, ?_, ?_, ?_, kH4⟩
            · simp (config := { maxSteps := 1000000 }) (disch := first | omega | ((repeat (first | rw [n_new] | rw [n_put])) <;> omega) | fail) only [h0, eq_self, tget_set, if_false, Nat.reduceEqDiff]
            · simp (config := { maxSteps := 1000000 }) (disch := first | omega | ((repeat (first | rw [n_new] | rw [n_put])) <;> omega) | fail) only [h4, eq_self, tget_set, if_true, if_false, Nat.reduceEqDiff]
            · simp (config := { maxSteps := 1000000 }) (disch := first | omega | ((repeat (first | rw [n_new] | rw [n_put])) <;> omega) | fail) only [eq_self, tget_set, if_true, if_false, Nat.reduceEqDiff]
            · rw [hpt, pieceOf, if_pos hA, if_pos hB, ← List.append_assoc]; exact ⟨_, ho2⟩
          · simp (config := { maxSteps := 1000000 }) (disch := first | omega | ((repeat (first | rw [n_new] | rw [n_put])) <;> omega) | fail) only [tt22, tt62, tt3, h0, h3, h4, hg2, hdr, hdr1, bi_max, show (if (57344 : Int) > p.1 then (57344 : Int) else p.1) = mxS p.1 from rfl, decide_eq_true hA, G_seq, G_cond, GIf_true, G_region, G_onil, G_op, GG_true, GX_val, GX_skip, GP_some, put_lt, put_none, wantedG_none, eq_self, Nat.zero_add, tget_set, nbeq, nble, evalO_tmp, evalO_int, oval_eq, oskip_some, xnew_eq, xnewSl_eq, get_put_eq, get_put_ne, get_new_eq, get_new_ne, n_put, n_new, cx_move, cx_alloc, cx_build, cx_buildSlice, cx_load, cx_store, cx_bin, cx_fieldAddr, cx_indexAddr, cx_builtin, xalloc_some, loadAt_some, loadIn_cells, storeAt_some, storeIn_cells, xfieldAddr_some, xfa_some, xindexAddr_some, natOf_nat, xidx_sl, cbin_leq, isJunk, oneC, cbuild, partsV, fillC, fieldPl, elemPl, splice, takeN, Value.cells, xbuildSlice, rep, limN, List.toList_toArray, List.map_cons, List.map_nil, List.all_cons, List.all_nil, List.length_cons, List.length_nil, List.append_nil, List.drop_zero, List.drop_succ_cons, List.head?_cons, Nat.add_zero, List.getElem?_cons_zero, List.getElem?_cons_succ, Option.map_some, cond_true, cond_false, Bool.and_true, Bool.not_true, Bool.not_false, decide_true, decide_false, if_true, if_false, List.size_toArray, Nat.reduceAdd, Nat.reduceEqDiff, Nat.reduceLeDiff, Nat.reduceMul]
            refine GX_app (p := (p.1, mnS p.2)) (l := piecesL (l.take i)) (ob := ob) (N := H.n) (ho.keep (by repeat (first | assumption | exact Keep.refl _ | refine Keep.new ?_ _ | refine Keep.put ?_ _ (by first | omega | (simp only [n_new, n_put] <;> omega))))) (by simp only [n_new, n_put]; omega) (by rw [get_new_eq (by simp only [n_new, n_put])]) (by omega) ?_
            intro v1 H3 ho1 hn1 hf1
            have kH3 := Keep.app (H := H) (by repeat (first | assumption | exact Keep.refl _ | refine Keep.new ?_ _ | refine Keep.put ?_ _ (by first | omega | (simp only [n_new, n_put] <;> omega)))) (ho.keep (by repeat (first | assumption | exact Keep.refl _ | refine Keep.new ?_ _ | refine Keep.put ?_ _ (by first | omega | (simp only [n_new, n_put] <;> omega))))) hn1 hf1
            have q1 : H3.get (H2.n + 1) = some (.cells [.int .i64 (mxS p.1), .int .i64 p.2] 62 none 0) := by
              rw [hf1 _ (by simp only [n_new, n_put]; omega) (fun e => by have := (ho.lt e).2; omega)]
              simp (config := { maxSteps := 1000000 }) (disch := first | omega | ((repeat (first | rw [n_new] | rw [n_put])) <;> omega) | fail) only [get_new_ne, get_put_eq]
            simp (config := { maxSteps := 1000000 }) (disch := first | omega | ((repeat (first | rw [n_new] | rw [n_put])) <;> omega) | fail) only [tt62, tt3, h4, q1, decide_eq_false hB, G_skip, G_seq, G_cond, GIf_false, G_again, G_region, G_blkN, G_onil, G_op, GG_true, GX_val, GP_some, put_lt, wantedG_none, eq_self, Nat.zero_add, tget_set, nbeq, evalO_tmp, evalO_int, oval_eq, cx_move, cx_assign, cx_load, cx_bin, cx_fieldAddr, loadAt_some, loadIn_cells, xfieldAddr_some, xfa_some, cbin_add, cbin_leq, wrap_nat_add1, takeN, List.drop_zero, List.drop_succ_cons, List.head?_cons, Nat.add_zero, List.getElem?_cons_zero, List.getElem?_cons_succ, Option.map_some, cond_true, cond_false, decide_true, decide_false, if_true, if_false, Nat.reduceEqDiff]
            refine ih2 (k - 1) _ (by omega) ⟨_, H3, i + 1, v1, rfl, by omega, ?_, ?_, ?_, ?_, kH3⟩
            · simp (config := { maxSteps := 1000000 }) (disch := first | omega | ((repeat (first | rw [n_new] | rw [n_put])) <;> omega) | fail) only [h0, eq_self, tget_set, if_false, Nat.reduceEqDiff]
            · simp (config := { maxSteps := 1000000 }) (disch := first | omega | ((repeat (first | rw [n_new] | rw [n_put])) <;> omega) | fail) only [h4, eq_self, tget_set, if_true, if_false, Nat.reduceEqDiff]
            · simp (config := { maxSteps := 1000000 }) (disch := first | omega | ((repeat (first | rw [n_new] | rw [n_put])) <;> omega) | fail) only [eq_self, tget_set, if_true, if_false, Nat.reduceEqDiff]
            · rw [hpt, pieceOf, if_pos hA, if_neg hB, List.append_nil]; exact ⟨_, ho1⟩
        · by_cases hB : mxS p.1 ≤ p.2
          · simp (config := { maxSteps := 1000000 }) (disch := first | omega | ((repeat (first | rw [n_new] | rw [n_put])) <;> omega) | fail) only [tt22, tt62, tt3, h0, h3, h4, hg2, hdr, hdr1, bi_max, show (if (57344 : Int) > p.1 then (57344 : Int) else p.1) = mxS p.1 from rfl, decide_eq_false hA, decide_eq_true hB, G_skip, G_seq, G_cond, GIf_true, GIf_false, G_region, G_onil, G_op, GG_true, GX_val, GX_skip, GP_some, put_lt, put_none, wantedG_none, eq_self, Nat.zero_add, tget_set, nbeq, nble, evalO_tmp, evalO_int, oval_eq, oskip_some, xnew_eq, xnewSl_eq, get_put_eq, get_put_ne, get_new_eq, get_new_ne, n_put, n_new, cx_move, cx_alloc, cx_build, cx_buildSlice, cx_load, cx_store, cx_bin, cx_fieldAddr, cx_indexAddr, cx_builtin, xalloc_some, loadAt_some, loadIn_cells, storeAt_some, storeIn_cells, xfieldAddr_some, xfa_some, xindexAddr_some, natOf_nat, xidx_sl, cbin_leq, isJunk, oneC, cbuild, partsV, fillC, fieldPl, elemPl, splice, takeN, Value.cells, xbuildSlice, rep, limN, List.toList_toArray, List.map_cons, List.map_nil, List.all_cons, List.all_nil, List.length_cons, List.length_nil, List.append_nil, List.drop_zero, List.drop_succ_cons, List.head?_cons, Nat.add_zero, List.getElem?_cons_zero, List.getElem?_cons_succ, Option.map_some, cond_true, cond_false, Bool.and_true, Bool.not_true, Bool.not_false, decide_true, decide_false, if_true, if_false, List.size_toArray, Nat.reduceAdd, Nat.reduceEqDiff, Nat.reduceLeDiff, Nat.reduceMul]
            refine GX_app (p := (mxS p.1, p.2)) (l := piecesL (l.take i)) (ob := ob) (N := H.n) (ho.keep (by repeat (first | assumption | exact Keep.refl _ | refine Keep.new ?_ _ | refine Keep.put ?_ _ (by first | omega | (simp only [n_new, n_put] <;> omega))))) (by simp only [n_new, n_put]; omega) (by rw [get_new_eq (by simp only [n_new, n_put])]) (by omega) ?_
            intro v1 H3 ho1 hn1 hf1
            have kH3 := Keep.app (H := H) (by repeat (first | assumption | exact Keep.refl _ | refine Keep.new ?_ _ | refine Keep.put ?_ _ (by first | omega | (simp only [n_new, n_put] <;> omega)))) (ho.keep (by repeat (first | assumption | exact Keep.refl _ | refine Keep.new ?_ _ | refine Keep.put ?_ _ (by first | omega | (simp only [n_new, n_put] <;> omega))))) hn1 hf1
            simp (config := { maxSteps := 1000000 }) (disch := first | omega | ((repeat (first | rw [n_new] | rw [n_put])) <;> omega) | fail) only [h4, G_again, G_region, G_blkN, G_onil, G_op, GG_true, GX_val, GP_some, put_lt, wantedG_none, eq_self, tget_set, evalO_tmp, evalO_int, oval_eq, cx_move, cx_assign, cx_bin, cbin_add, wrap_nat_add1, if_true, if_false, Nat.reduceEqDiff]
            refine ih2 (k - 1) _ (by omega) ⟨_, H3, i + 1, v1, rfl, by omega, ?_, ?_, ?_, ?_, kH3⟩
            · simp (config := { maxSteps := 1000000 }) (disch := first | omega | ((repeat (first | rw [n_new] | rw [n_put])) <;> omega) | fail) only [h0, eq_self, tget_set, if_false, Nat.reduceEqDiff]
            · simp (config := { maxSteps := 1000000 }) (disch := first | omega | ((repeat (first | rw [n_new] | rw [n_put])) <;> omega) | fail) only [h4, eq_self, tget_set, if_true, if_false, Nat.reduceEqDiff]
            · simp (config := { maxSteps := 1000000 }) (disch := first | omega | ((repeat (first | rw [n_new] | rw [n_put])) <;> omega) | fail) only [eq_self, tget_set, if_true, if_false, Nat.reduceEqDiff]
            · rw [hpt, pieceOf, if_neg hA, if_pos hB, List.nil_append]; exact ⟨_, ho1⟩
          · simp (config := { maxSteps := 1000000 }) (disch := first | omega | ((repeat (first | rw [n_new] | rw [n_put])) <;> omega) | fail) only [tt22, tt62, tt3, h0, hg2, hdr, hdr1, bi_max, show (if (57344 : Int) > p.1 then (57344 : Int) else p.1) = mxS p.1 from rfl, decide_eq_false hA, decide_eq_false hB, h4, G_skip, G_seq, G_cond, GIf_false, G_again, G_region, G_blkN, G_onil, G_op, GG_true, GX_val, GX_skip, GP_some, put_lt, put_none, wantedG_none, eq_self, Nat.zero_add, tget_set, nbeq, nble, evalO_tmp, evalO_int, oval_eq, oskip_some, xnew_eq, get_put_eq, get_put_ne, get_new_eq, get_new_ne, n_put, n_new, cx_move, cx_assign, cx_alloc, cx_build, cx_load, cx_store, cx_bin, cx_fieldAddr, cx_indexAddr, cx_builtin, xalloc_some, loadAt_some, loadIn_cells, storeAt_some, storeIn_cells, xfieldAddr_some, xfa_some, xindexAddr_some, natOf_nat, xidx_sl, cbin_add, cbin_leq, wrap_nat_add1, isJunk, oneC, cbuild, partsV, fillC, fieldPl, elemPl, splice, takeN, Value.cells, List.toList_toArray, List.map_cons, List.map_nil, List.all_cons, List.all_nil, List.length_cons, List.length_nil, List.drop_zero, List.drop_succ_cons, List.head?_cons, Nat.add_zero, List.getElem?_cons_zero, List.getElem?_cons_succ, Option.map_some, cond_true, cond_false, Bool.and_true, Bool.not_true, Bool.not_false, decide_true, decide_false, if_true, if_false, List.size_toArray, Nat.reduceAdd, Nat.reduceEqDiff, Nat.reduceLeDiff]
            refine ih2 (k - 1) _ (by omega) ⟨_, _, i + 1, sv, rfl, by omega, ?_, ?_, ?_, ?_, ?_⟩
            · simp (config := { maxSteps := 1000000 }) (disch := first | omega | ((repeat (first | rw [n_new] | rw [n_put])) <;> omega) | fail) only [h0, eq_self, tget_set, if_false, Nat.reduceEqDiff]
            · simp (config := { maxSteps := 1000000 }) (disch := first | omega | ((repeat (first | rw [n_new] | rw [n_put])) <;> omega) | fail) only [h4, eq_self, tget_set, if_true, if_false, Nat.reduceEqDiff]
            · simp (config := { maxSteps := 1000000 }) (disch := first | omega | ((repeat (first | rw [n_new] | rw [n_put])) <;> omega) | fail) only [h3, eq_self, tget_set, if_false, Nat.reduceEqDiff]
            · rw [hpt, pieceOf, if_neg hA, if_neg hB, List.append_nil, List.append_nil]; exact ⟨ob, ho.keep (by repeat (first | assumption | exact Keep.refl _ | refine Keep.new ?_ _ | refine Keep.put ?_ _ (by first | omega | (simp only [n_new, n_put] <;> omega))))⟩
            · exact (by repeat (first | assumption | exact Keep.refl _ | refine Keep.new ?_ _ | refine Keep.put ?_ _ (by first | omega | (simp only [n_new, n_put] <;> omega))))
      · simp (config := { maxSteps := 1000000 }) (disch := first | omega | ((repeat (first | rw [n_new] | rw [n_put])) <;> omega) | fail) only [tt22, h0, h4, decide_eq_false hi, G_nil, G_seq, G_cond, GIf_false, G_exit, G_region, G_codeE, G_lpE, G_onil, G_op, GG_true, GX_val, GP_some, put_lt, wantedG_none, eq_self, tget_set, nbeq, evalO_tmp, oval_eq, cx_move, cx_bin, cx_builtin, cbin_lss, bi_len, tyAt0, xlen_sl, List.map_cons, List.map_nil, cond_true, decide_true, if_true, if_false, Nat.reduceEqDiff]
        rw [List.take_of_length_le (by omega)] at ho
        refine ⟨trivial, _, _, sv, ob, rfl, ?_, ho, kH⟩
        simp (config := { maxSteps := 1000000 }) (disch := first | omega | ((repeat (first | rw [n_new] | rw [n_put])) <;> omega) | fail) only [h3, eq_self, tget_set, if_false, Nat.reduceEqDiff]
    · refine ⟨_, _, 0, .slice none 0 0, rfl, rfl, ?_, ?_, ?_, ⟨none, .inl ⟨rfl, rfl, rfl⟩⟩, Keep.refl _⟩
      · simp (config := { maxSteps := 1000000 }) (disch := first | omega | ((repeat (first | rw [n_new] | rw [n_put])) <;> omega) | fail) only [eq_self, tget_set, tget_of1, List.getElem?_cons_zero, if_false, Nat.reduceEqDiff]
      · simp (config := { maxSteps := 1000000 }) (disch := first | omega | ((repeat (first | rw [n_new] | rw [n_put])) <;> omega) | fail) only [cast_lit, eq_self, tget_set, tget_of1, List.getElem?_cons_succ, if_true, if_false, Nat.reduceEqDiff]
      · simp (config := { maxSteps := 1000000 }) (disch := first | omega | ((repeat (first | rw [n_new] | rw [n_put])) <;> omega) | fail) only [eq_self, tget_set, tget_of1, List.getElem?_cons_succ, if_true, if_false, Nat.reduceEqDiff]
  rintro e s ⟨rfl, tm, H2, sv, ob, rfl, h3, ho, kH⟩
  have hpl := piecesL_len (l := l)
  simp (config := { maxSteps := 1000000 }) (disch := first | omega | ((repeat (first | rw [n_new] | rw [n_put])) <;> omega) | fail) only [G_seq, G_block, G_region, G_blkE, G_onil, G_op, GG_true, GX_val, GP_some, put_lt, wantedG_none, eq_self, evalO_int, cx_assign, if_true]
  refine G.cut (fun e s => e = .exit 2 ∧ ∃ tm H2 sv s' ob, s = ⟨tm, [], H2⟩ ∧ tget tm 3 = sv ∧ Own H.n H2 sv s' ob ∧ s'.Perm (piecesL l) ∧ LoS s' ∧ Keep H H2) ?_ ?_
  · rcases ho with ⟨hpe, rfl, rfl⟩ | ⟨hpe, b, rfl, rfl, hNb, hb, hg⟩
    · rw [G_loop]
      simp (config := { maxSteps := 1000000 }) (disch := first | omega | ((repeat (first | rw [n_new] | rw [n_put])) <;> omega) | fail) only [tt22, h3, G_nil, G_seq, G_cond, GIf_false, G_exit, G_region, G_codeE, G_lpE, G_onil, G_op, GG_true, GX_val, GP_some, put_lt, wantedG_none, cast_lit, eq_self, Int.reduceLT, tget_set, nbeq, evalO_tmp, oval_eq, cx_move, cx_bin, cx_builtin, cbin_lss, bi_len, tyAt0, xlen_sl, List.map_cons, List.map_nil, cond_true, decide_true, decide_false, if_true, if_false, Nat.reduceEqDiff]
      refine ⟨trivial, _, _, .slice none 0 0, [], none, rfl, ?_, .inl ⟨rfl, rfl, rfl⟩, by rw [hpe], List.Pairwise.nil, kH⟩
      simp (config := { maxSteps := 1000000 }) (disch := first | omega | ((repeat (first | rw [n_new] | rw [n_put])) <;> omega) | fail) only [h3, eq_self, tget_set, if_false, Nat.reduceEqDiff]
    · obtain ⟨n, hnn⟩ : ∃ n, n = (piecesL l).length := ⟨_, rfl⟩
      have hn1 : 1 ≤ n := by
        have := List.length_pos_iff.2 hpe
        omega
      rw [← hnn] at h3
      refine G_loop_ind (fun k s => ∃ tm H2 i A D, s = ⟨tm, [], H2⟩ ∧ k + i = n ∧ tget tm 3 = .slice (some ⟨b, 0, none⟩) n n ∧ tget tm 7 = .int .i64 ((i : Nat) : Int) ∧ b < H2.n ∧ H2.get b = some (.cells (flatP (A ++ D)) 62 (some 2) 0) ∧ A.length = i ∧ (A ++ D).Perm (piecesL l) ∧ LoS A ∧ Keep H H2) ?_ (n - 1) _ ?_
      · clear hg hb h3 kH tm H2
        rintro k ih2 s ⟨tm, H2, i, A, D, rfl, hk, h3, h7, hb, hg, hA, hperm, hlo, kH⟩
        have hlen2 := hperm.length_eq
        rw [List.length_append, ← hnn] at hlen2
        by_cases hi : (i : Int) < (n : Int)
        · obtain ⟨x, D0, hD0⟩ : ∃ x D0, D = x :: D0 := by
            cases D with
            | nil => exact absurd hlen2 (by simp; omega)
            | cons x D => exact ⟨x, D, rfl⟩
          subst hD0
          generalize hDD : D0 = D at *
          clear hDD D0
          · rw [List.length_cons] at hlen2
            simp (config := { maxSteps := 1000000 }) (disch := first | omega | ((repeat (first | rw [n_new] | rw [n_put])) <;> omega) | fail) only [tt22, h3, h7, decide_eq_true hi, G_skip, G_seq, G_cond, GIf_true, G_block, G_region, G_onil, G_op, GG_true, GX_val, GP_some, put_lt, wantedG_none, eq_self, tget_set, nbeq, evalO_tmp, oval_eq, cx_move, cx_assign, cx_bin, cx_builtin, cbin_lss, bi_len, tyAt0, xlen_sl, List.map_cons, List.map_nil, cond_true, decide_true, if_true, if_false, Nat.reduceEqDiff]
            refine G.cut (fun e s => e = .exit 4 ∧ ∃ tm H2 A', s = ⟨tm, [], H2⟩ ∧ tget tm 3 = .slice (some ⟨b, 0, none⟩) n n ∧ tget tm 7 = .int .i64 ((i : Nat) : Int) ∧ b < H2.n ∧ H2.get b = some (.cells (flatP (A' ++ D)) 62 (some 2) 0) ∧ A'.length = i + 1 ∧ (A' ++ D).Perm (piecesL l) ∧ LoS A' ∧ Keep H H2) ?_ ?_
            · refine G_loop_ind (fun k s => ∃ tm H2 A B, s = ⟨tm, [], H2⟩ ∧ A.length = k ∧ tget tm 8 = .int .i64 ((k : Nat) : Int) ∧ tget tm 3 = .slice (some ⟨b, 0, none⟩) n n ∧ tget tm 7 = .int .i64 ((i : Nat) : Int) ∧ b < H2.n ∧ H2.get b = some (.cells (flatP (A ++ x :: (B ++ D))) 62 (some 2) 0) ∧ A.length + B.length = i ∧ (A ++ x :: (B ++ D)).Perm (piecesL l) ∧ LoS (A ++ B) ∧ (∀ q ∈ B, x.1 ≤ q.1) ∧ Keep H H2) ?_ i _ ?_
              · clear hg hb h3 h7 kH tm H2 hlo hA hperm ih2 hk k hlen2 A
                rintro k ih2 s ⟨tm, H2, A, B, rfl, hk, h8, h3, h7, hb, hg, hAB, hperm, hlo, hB, kH⟩
                have hlen2 := hperm.length_eq
                rw [List.length_append, List.length_cons, List.length_append, ← hnn] at hlen2
                rcases snoc_cases A with rfl | ⟨d, q, rfl⟩
                · simp only [List.length_nil] at hk
                  subst hk
                  simp (config := { maxSteps := 1000000 }) (disch := first | omega | ((repeat (first | rw [n_new] | rw [n_put])) <;> omega) | fail) only [G_seq]
                  rw [G_draw (by kernel_rfl)]
                  simp (config := { maxSteps := 1000000 }) (disch := first | omega | ((repeat (first | rw [n_new] | rw [n_put])) <;> omega) | fail) only [h8, G_nil, G_cond, GIf_false, G_exit, G_codeE, G_lpE, G_onil, G_op, GG_true, GG_false, GX_val, GP_some, put_lt, wantedG_none, wantedG_some, wG_some, isB_bool, List.getElem?_toArray, cast_lit, eq_self, Int.reduceLT, tget_set, evalO_tmp, evalO_int, evalO_bool, Tr.get_set, oval_eq, cx_move, cx_pick, xpick_false, cx_bin, cbin_gtr, List.getElem?_cons_zero, List.getElem?_cons_succ, cond_false, Bool.not_true, decide_false, if_true, if_false, Nat.reduceEqDiff]
                  refine ⟨trivial, _, _, x :: B, rfl, ?_, ?_, hb, by simpa using hg, by simpa using hAB, by simpa using hperm, los_insert (A := []) hlo hB (.inl rfl), kH⟩
                  · simp (config := { maxSteps := 1000000 }) (disch := first | omega | ((repeat (first | rw [n_new] | rw [n_put])) <;> omega) | fail) only [h3, eq_self, tget_set, if_false, Nat.reduceEqDiff]
                  · simp (config := { maxSteps := 1000000 }) (disch := first | omega | ((repeat (first | rw [n_new] | rw [n_put])) <;> omega) | fail) only [h7, eq_self, tget_set, if_false, Nat.reduceEqDiff]
                · rw [List.length_append, List.length_singleton] at hk hlen2 hAB
                  subst hk
                  have e1 : d ++ [q] ++ x :: (B ++ D) = d ++ q :: x :: (B ++ D) := by simp
                  have e2 : d ++ [q] ++ x :: (B ++ D) = (d ++ [q]) ++ x :: (B ++ D) := rfl
                  have hd1 : (flatP (d ++ [q] ++ x :: (B ++ D))).drop ((d.length + 1) * 2) = .int .i64 x.1 :: .int .i64 x.2 :: flatP (B ++ D) := by
                    have := flatP_at (d := d ++ [q]) (q := x) (R := B ++ D)
                    rw [List.length_append, List.length_singleton] at this; exact this
                  have hd0 : (flatP (d ++ [q] ++ x :: (B ++ D))).drop (d.length * 2) = .int .i64 q.1 :: .int .i64 q.2 :: flatP (x :: (B ++ D)) := by rw [e1]; exact flatP_at
                  have hpos : decide (((d.length + 1 : Nat) : Int) > 0) = true := decide_eq_true (by omega)
                  have hw : IntKind.i64.wrap (((d.length + 1 : Nat) : Int) - 1) = ((d.length : Nat) : Int) := by rw [wrap_ok (by omega) (by omega)]; omega
                  simp (config := { maxSteps := 1000000 }) (disch := first | omega | ((repeat (first | rw [n_new] | rw [n_put])) <;> omega) | fail) only [G_seq]
                  rw [G_draw (by kernel_rfl)]
                  by_cases hlt : x.1 < q.1
                  · simp (config := { maxSteps := 1000000 }) (disch := first | omega | ((repeat (first | rw [n_new] | rw [n_put])) <;> omega) | fail) only [tt22, tt62, tt3, h3, h8, hg, hd1, hd0, hw, hpos, decide_eq_true hlt, G_skip, G_seq, G_cond, GIf_true, G_block, G_onil, G_op, GG_true, GX_val, GP_some, put_lt, wantedG_none, wantedG_some, wG_some, isB_bool, List.getElem?_toArray, eq_self, Nat.zero_add, tget_set, nbeq, evalO_tmp, evalO_int, evalO_bool, Tr.get_set, oval_eq, cx_move, cx_pick, xpick_true, cx_load, cx_bin, cx_fieldAddr, cx_indexAddr, loadAt_some, loadIn_cells, xfieldAddr_some, xfa_some, xindexAddr_some, natOf_nat, xidx_sl, cbin_sub, cbin_lss, cbin_gtr, takeN, List.head?_cons, Nat.add_zero, List.getElem?_cons_zero, List.getElem?_cons_succ, Option.map_some, cond_true, cond_false, Bool.not_true, decide_true, decide_false, if_true, if_false, Nat.reduceEqDiff]
                    rw [G_drawP [(0, []), (1, []), (2, []), (3, []), (4, []), (5, []), (6, []), (7, []), (8, []), (9, []), (10, []), (11, []), (12, []), (13, []), (14, []), (15, [4]), (16, []), (17, [])] (by kernel_rfl) (by kernel_rfl)]
                    simp only [planL, List.filterMap_cons, List.filterMap_nil, List.getElem?_toArray, List.getElem?_cons_zero, List.getElem?_cons_succ, Option.map_some]
                    have p1 : splice (flatP (d ++ [q] ++ x :: (B ++ D))) ((d.length + 1) * 2) [.int .i64 q.1, .int .i64 q.2] = some (flatP (d ++ q :: q :: (B ++ D))) := by
                      have := flatP_put (d := d ++ [q]) (q := x) (p := q) (R := B ++ D)
                      rw [List.length_append, List.length_singleton] at this; rw [this]; simp
                    have p2 : splice (flatP (d ++ q :: q :: (B ++ D))) (d.length * 2) [.int .i64 x.1, .int .i64 x.2] = some (flatP (d ++ x :: q :: (B ++ D))) := flatP_put
                    simp (config := { maxSteps := 1000000 }) (disch := first | omega | ((repeat (first | rw [n_new] | rw [n_put])) <;> omega) | fail) only [tt22, tt62, h3, h8, hg, hd1, hd0, hw, p1, G_planC, G_reN, G_onil, G_op, GG_true, GX_val, GX_skip, GP_some, put_lt, put_none, wantedG_none, eq_self, Nat.zero_add, tget_set, nbeq, nble, evalO_tmp, evalO_int, oval_eq, oskip_some, cx_move, cx_load, cx_store, cx_bin, cx_indexAddr, loadAt_some, loadIn_cells, storeAt_some, storeIn_cells, xindexAddr_some, natOf_nat, xidx_sl, cbin_sub, isJunk, oneC, takeN, Value.cells, List.toList_toArray, List.all_cons, List.all_nil, List.length_cons, List.length_nil, List.head?_cons, Option.map_some, cond_true, cond_false, Bool.and_true, decide_true, if_true, if_false, Nat.reduceAdd, Nat.reduceEqDiff, Nat.reduceLeDiff]
                    rw [G_reC (by simp (config := { maxSteps := 1000000 }) (disch := first | omega | ((repeat (first | rw [n_new] | rw [n_put])) <;> omega) | fail) only [reOne, hw, sameVal, veq, wantedG_none, eq_self, tget_set, evalO_tmp, evalO_int, Tr.get_set, oval_eq, cx_bin, cbin_sub, Bool.and_true, decide_true, if_true, if_false, Nat.reduceEqDiff])]
                    simp (config := { maxSteps := 1000000 }) (disch := first | omega | ((repeat (first | rw [n_new] | rw [n_put])) <;> omega) | fail) only [tt22, tt62, h8, hw, p2, G_planC, G_planN, G_reN, G_again, G_region, G_blkN, G_onil, G_op, GG_true, GX_val, GX_skip, GP_some, put_lt, put_none, wantedG_none, eq_self, Nat.zero_add, tget_set, nbeq, nble, evalO_tmp, evalO_int, oval_eq, oskip_some, get_put_eq, cx_move, cx_assign, cx_store, cx_bin, cx_indexAddr, storeAt_some, storeIn_cells, xindexAddr_some, natOf_nat, xidx_sl, cbin_sub, isJunk, oneC, Value.cells, List.toList_toArray, List.all_cons, List.all_nil, List.length_cons, List.length_nil, Option.map_some, cond_true, cond_false, Bool.and_true, decide_true, if_true, if_false, Nat.reduceAdd, Nat.reduceEqDiff, Nat.reduceLeDiff]
                    refine ih2 d.length _ (by omega) ⟨_, _, d, q :: B, rfl, rfl, ?_, ?_, ?_, ?_, ?_, ?_, ?_, ?_, ?_, ?_⟩
                    · simp (config := { maxSteps := 1000000 }) (disch := first | omega | ((repeat (first | rw [n_new] | rw [n_put])) <;> omega) | fail) only [h8, eq_self, tget_set, if_true, if_false, Nat.reduceEqDiff]
                    · simp (config := { maxSteps := 1000000 }) (disch := first | omega | ((repeat (first | rw [n_new] | rw [n_put])) <;> omega) | fail) only [h3, eq_self, tget_set, if_false, Nat.reduceEqDiff]
                    · simp (config := { maxSteps := 1000000 }) (disch := first | omega | ((repeat (first | rw [n_new] | rw [n_put])) <;> omega) | fail) only [h7, eq_self, tget_set, if_false, Nat.reduceEqDiff]
                    · simp only [n_put]; omega
                    · rw [get_put_eq rfl]; rfl
                    · rw [List.length_cons]; omega
                    · refine List.Perm.trans ?_ hperm
                      rw [e1]; exact (List.Perm.swap q x (B ++ D)).append_left d
                    · simpa using hlo
                    · intro q' hq'
                      rcases List.mem_cons.1 hq' with rfl | hq'
                      · omega
                      · exact hB q' hq'
                    · exact (kH.put _ hNb).put _ hNb
                  · simp (config := { maxSteps := 1000000 }) (disch := first | omega | ((repeat (first | rw [n_new] | rw [n_put])) <;> omega) | fail) only [tt22, tt62, tt3, h3, h8, hg, hd1, hd0, hw, hpos, decide_eq_false hlt, G_nil, G_cond, GIf_false, G_exit, G_codeE, G_lpE, G_onil, G_op, GG_true, GX_val, GP_some, put_lt, wantedG_none, wantedG_some, wG_some, isB_bool, List.getElem?_toArray, eq_self, Nat.zero_add, tget_set, nbeq, evalO_tmp, evalO_int, evalO_bool, Tr.get_set, oval_eq, cx_move, cx_pick, xpick_true, cx_load, cx_bin, cx_fieldAddr, cx_indexAddr, loadAt_some, loadIn_cells, xfieldAddr_some, xfa_some, xindexAddr_some, natOf_nat, xidx_sl, cbin_sub, cbin_lss, cbin_gtr, takeN, List.head?_cons, Nat.add_zero, List.getElem?_cons_zero, List.getElem?_cons_succ, Option.map_some, cond_true, cond_false, Bool.not_true, decide_true, decide_false, if_true, if_false, Nat.reduceEqDiff]
                    refine ⟨trivial, _, _, d ++ [q] ++ x :: B, rfl, ?_, ?_, hb, by simpa using hg, by simp; omega, by simpa using hperm, los_insert hlo hB (.inr ⟨d, q, rfl, by omega⟩), kH⟩
                    · simp (config := { maxSteps := 1000000 }) (disch := first | omega | ((repeat (first | rw [n_new] | rw [n_put])) <;> omega) | fail) only [h3, eq_self, tget_set, if_false, Nat.reduceEqDiff]
                    · simp (config := { maxSteps := 1000000 }) (disch := first | omega | ((repeat (first | rw [n_new] | rw [n_put])) <;> omega) | fail) only [h7, eq_self, tget_set, if_false, Nat.reduceEqDiff]
              · refine ⟨_, _, A, [], rfl, hA, ?_, ?_, ?_, hb, by simpa using hg, by simpa using hA, by simpa using hperm, by simpa using hlo, by simp, kH⟩
                · simp (config := { maxSteps := 1000000 }) (disch := first | omega | ((repeat (first | rw [n_new] | rw [n_put])) <;> omega) | fail) only [eq_self, tget_set, if_true, if_false, Nat.reduceEqDiff]
                · simp (config := { maxSteps := 1000000 }) (disch := first | omega | ((repeat (first | rw [n_new] | rw [n_put])) <;> omega) | fail) only [h3, eq_self, tget_set, if_false, Nat.reduceEqDiff]
                · simp (config := { maxSteps := 1000000 }) (disch := first | omega | ((repeat (first | rw [n_new] | rw [n_put])) <;> omega) | fail) only [h7, eq_self, tget_set, if_false, Nat.reduceEqDiff]
            · clear hg hb h3 h7 kH tm H2 hlo hA hperm
              rintro e s ⟨rfl, tm, H2, A', rfl, h3, h7, hb, hg, hA, hperm, hlo, kH⟩
              simp (config := { maxSteps := 1000000 }) (disch := first | omega | ((repeat (first | rw [n_new] | rw [n_put])) <;> omega) | fail) only [h7, G_again, G_region, G_blkN, G_blkE, G_onil, G_op, GG_true, GX_val, GP_some, put_lt, wantedG_none, eq_self, tget_set, evalO_tmp, evalO_int, oval_eq, cx_move, cx_assign, cx_bin, cbin_add, wrap_nat_add1, if_true, if_false, Nat.reduceEqDiff]
              refine ih2 (k - 1) _ (by omega) ⟨_, _, i + 1, A', D, rfl, by omega, ?_, ?_, hb, hg, hA, hperm, hlo, kH⟩
              · simp (config := { maxSteps := 1000000 }) (disch := first | omega | ((repeat (first | rw [n_new] | rw [n_put])) <;> omega) | fail) only [h3, eq_self, tget_set, if_false, Nat.reduceEqDiff]
              · simp (config := { maxSteps := 1000000 }) (disch := first | omega | ((repeat (first | rw [n_new] | rw [n_put])) <;> omega) | fail) only [h7, eq_self, tget_set, if_true, if_false, Nat.reduceEqDiff]
        · simp (config := { maxSteps := 1000000 }) (disch := first | omega | ((repeat (first | rw [n_new] | rw [n_put])) <;> omega) | fail) only [tt22, h3, h7, decide_eq_false hi, G_nil, G_seq, G_cond, GIf_false, G_exit, G_region, G_codeE, G_lpE, G_onil, G_op, GG_true, GX_val, GP_some, put_lt, wantedG_none, eq_self, tget_set, nbeq, evalO_tmp, oval_eq, cx_move, cx_bin, cx_builtin, cbin_lss, bi_len, tyAt0, xlen_sl, List.map_cons, List.map_nil, cond_true, decide_true, if_true, if_false, Nat.reduceEqDiff]
          have hD : D = [] := List.eq_nil_of_length_eq_zero (by omega)
          subst hD
          rw [List.append_nil] at hg hperm
          refine ⟨trivial, _, _, .slice (some ⟨b, 0, none⟩) n n, A, some b, rfl, ?_, .inr ⟨?_, b, ?_, rfl, hNb, hb, hg⟩, hperm, hlo, kH⟩
          · simp (config := { maxSteps := 1000000 }) (disch := first | omega | ((repeat (first | rw [n_new] | rw [n_put])) <;> omega) | fail) only [h3, eq_self, tget_set, if_false, Nat.reduceEqDiff]
          · intro e; rw [e] at hlen2; simp at hlen2; omega
          · rw [show n = A.length by simp at hlen2; omega]
      · match hpl2 : piecesL l, hpe with
        | p :: D, _ =>
          refine ⟨_, _, 1, [p], D, rfl, by omega, ?_, ?_, hb, by rw [hpl2] at hg; exact hg, rfl, List.Perm.refl _, List.pairwise_singleton _ _, kH⟩
          · simp (config := { maxSteps := 1000000 }) (disch := first | omega | ((repeat (first | rw [n_new] | rw [n_put])) <;> omega) | fail) only [h3, eq_self, tget_set, if_false, Nat.reduceEqDiff]
          · simp (config := { maxSteps := 1000000 }) (disch := first | omega | ((repeat (first | rw [n_new] | rw [n_put])) <;> omega) | fail) only [cast_lit, eq_self, tget_set, if_true]
  clear ho h3 kH tm H2 sv ob
  rintro e s ⟨rfl, tm, H2, sv, s', ob, rfl, h3, ho, hperm, hlo, kH⟩
  have hsl : s'.length ≤ 400000 := by rw [hperm.length_eq]; omega
  simp (config := { maxSteps := 1000000 }) (disch := first | omega | ((repeat (first | rw [n_new] | rw [n_put])) <;> omega) | fail) only [G_seq, G_block, G_region, G_blkE, G_onil, G_op, GG_true, GX_val, GP_some, put_lt, wantedG_none, eq_self, evalO_int, evalO_nsl, cx_assign, if_true]
  refine G.cut (fun e s => e = .exit 6 ∧ ∃ tm H2 ov ob', s = ⟨tm, [], H2⟩ ∧ tget tm 9 = ov ∧ Own H.n H2 ov (mergeL s') ob' ∧ (mergeL s').length ≤ 400000 ∧ Keep H H2) ?_ ?_
  · refine G_loop_ind (fun k s => ∃ tm H2 i ov, s = ⟨tm, [], H2⟩ ∧ k + i = s'.length ∧ tget tm 3 = sv ∧ tget tm 9 = ov ∧ tget tm 10 = .int .i64 ((i : Nat) : Int) ∧ Own H.n H2 sv s' ob ∧ (∃ ob', Own H.n H2 ov ((s'.take i).foldl mergeStep []) ob' ∧ ∀ b, ob = some b → ob' ≠ some b) ∧ NormP ((s'.take i).foldl mergeStep []) ∧ ((s'.take i).foldl mergeStep []).length ≤ i ∧ Keep H H2) ?_ s'.length _ ?_
    · clear h3 ho kH tm H2
      rintro k ih2 s ⟨tm, H2, i, ov, rfl, hk, h3, h9, h10, ho, ⟨ob', ho', hdis⟩, hnp, hml, kH⟩
      by_cases hi : (i : Int) < (s'.length : Int)
      · obtain ⟨x, hx, hxd⟩ := drop_at (l := s') (i := i) (by omega)
        have hxo : okp x := piecesL_ok hval x (hperm.mem_iff.1 (List.mem_of_getElem? hx))
        obtain ⟨b, rfl, rfl, hNb, hb, hg⟩ := ho.at (by omega)
        have hsd : (flatP s').drop (i * 2) = .int .i64 x.1 :: .int .i64 x.2 :: flatP (s'.drop (i + 1)) := by rw [flatP_drop, hxd, flatP_cons]
        have hsd1 : (flatP s').drop (i * 2 + 1) = .int .i64 x.2 :: flatP (s'.drop (i + 1)) := by rw [← List.drop_drop, hsd]; rfl
        have htk : (s'.take (i + 1)).foldl mergeStep [] = mergeStep ((s'.take i).foldl mergeStep []) x := by
          rw [List.take_add_one, hx]; simp [List.foldl_append]
        have hnp' : NormP ((s'.take (i + 1)).foldl mergeStep []) := by rw [htk]; exact mergeStep_norm hnp hxo
        rw [htk] at hnp'
        have hle := kH.le
        rcases snoc_cases ((s'.take i).foldl mergeStep []) with he | ⟨d, q, he⟩
        · rw [he] at ho' htk hnp' hml
          obtain ⟨rfl, rfl⟩ := ho'.nil
          simp (config := { maxSteps := 1000000 }) (disch := first | omega | ((repeat (first | rw [n_new] | rw [n_put])) <;> omega) | fail) only [tt22, h3, h9, h10, decide_eq_true hi, G_skip, G_seq, G_cond, GIf_true, G_block, G_region, G_onil, G_op, GG_true, GX_val, GP_some, put_lt, wantedG_none, cast_lit, eq_self, tget_set, nbeq, evalO_tmp, oval_eq, cx_move, cx_assign, cx_bin, cx_builtin, cbin_lss, bi_len, tyAt0, xlen_sl, List.map_cons, List.map_nil, cond_true, decide_true, if_true, if_false, Nat.reduceEqDiff]
          rw [G_draw (by kernel_rfl)]
          simp (config := { maxSteps := 1000000 }) (disch := first | omega | ((repeat (first | rw [n_new] | rw [n_put])) <;> omega) | fail) only [tt22, tt62, h3, h9, h10, hg, hsd, G_cond, GIf_false, G_region, G_onil, G_op, GG_true, GG_false, GX_val, GP_some, put_lt, wantedG_none, wantedG_some, wG_some, isB_bool, List.getElem?_toArray, eq_self, Int.reduceLT, Nat.zero_add, tget_set, nbeq, nble, evalO_tmp, evalO_int, evalO_bool, Tr.get_set, oval_eq, xnewSl_eq, cx_move, cx_pick, xpick_false, cx_buildSlice, cx_load, cx_bin, cx_indexAddr, cx_builtin, loadAt_some, loadIn_cells, xindexAddr_some, natOf_nat, xidx_sl, cbin_gtr, isJunk, partsV, fillC, elemPl, splice, takeN, Value.cells, xbuildSlice, rep, limN, List.toList_toArray, List.map_cons, List.map_nil, List.length_cons, List.length_nil, List.append_nil, List.head?_cons, List.getElem?_cons_zero, List.getElem?_cons_succ, Option.map_some, cond_true, cond_false, Bool.and_true, Bool.not_true, Bool.not_false, decide_true, decide_false, if_true, if_false, List.size_toArray, Nat.reduceAdd, Nat.reduceEqDiff, Nat.reduceLeDiff, Nat.reduceMul]
          refine GX_app (p := x) (N := H.n) (ho'.keep ((Keep.refl _).new _)) (by simp only [n_new]; omega) (by rw [get_new_eq rfl]) (by simp) ?_
          intro v1 H3 ho1 hn1 hf1
          have kH3 := Keep.app (H := H) (by repeat (first | assumption | exact Keep.refl _ | refine Keep.new ?_ _ | refine Keep.put ?_ _ (by first | omega | (simp only [n_new, n_put] <;> omega)))) (ho'.keep ((Keep.refl _).new _)) hn1 hf1
          simp only [n_new] at hn1
          simp (config := { maxSteps := 1000000 }) (disch := first | omega | ((repeat (first | rw [n_new] | rw [n_put])) <;> omega) | fail) only [h10, G_again, G_region, G_blkN, G_onil, G_op, GG_true, GX_val, GP_some, put_lt, wantedG_none, eq_self, tget_set, evalO_tmp, evalO_int, oval_eq, cx_move, cx_assign, cx_bin, cbin_add, wrap_nat_add1, if_true, if_false, Nat.reduceEqDiff]
          refine ih2 (k - 1) _ (by omega) ⟨_, H3, i + 1, v1, rfl, by omega, ?_, ?_, ?_, ?_, ?_, ?_, ?_, kH3⟩
          · simp (config := { maxSteps := 1000000 }) (disch := first | omega | ((repeat (first | rw [n_new] | rw [n_put])) <;> omega) | fail) only [h3, eq_self, tget_set, if_false, Nat.reduceEqDiff]
          · simp (config := { maxSteps := 1000000 }) (disch := first | omega | ((repeat (first | rw [n_new] | rw [n_put])) <;> omega) | fail) only [eq_self, tget_set, if_true, if_false, Nat.reduceEqDiff]
          · simp (config := { maxSteps := 1000000 }) (disch := first | omega | ((repeat (first | rw [n_new] | rw [n_put])) <;> omega) | fail) only [h10, eq_self, tget_set, if_true, if_false, Nat.reduceEqDiff]
          · refine ho.frame (by omega) fun j hj => ?_
            cases hj
            rw [hf1 b (by simp only [n_new]; omega) (by simp), get_new_ne (by omega)]
          · rw [htk, mergeStep_nil]
            refine ⟨_, ho1, fun b' hb' e => ?_⟩
            cases hb'
            simp only [n_new, Option.some.injEq] at e; omega
          · rw [htk]; exact hnp'
          · rw [htk, mergeStep_nil]; simp
        · rw [he] at ho' htk hnp' hml hnp
          obtain ⟨b', rfl, rfl, hNb', hb', hg'⟩ := ho'.snoc
          have hbb : b' ≠ b := fun e => hdis b rfl (by rw [e])
          rw [List.length_append, List.length_singleton] at hml
          have hqo := hnp.1 q (by simp)
          obtain ⟨hq1, hq2, hq3, hq4⟩ := hqo
          have hpos : decide (((d.length + 1 : Nat) : Int) > 0) = true := decide_eq_true (by omega)
          have hw : IntKind.i64.wrap (((d.length + 1 : Nat) : Int) - 1) = ((d.length : Nat) : Int) := by rw [wrap_ok (by omega) (by omega)]; omega
          have hw2 : IntKind.i64.wrap (q.2 + 1) = q.2 + 1 := wrap_ok (by omega) (by omega)
          have hd1 : (flatP (d ++ [q])).drop (d.length * 2 + 1) = .int .i64 q.2 :: flatP [] := flatP_at1
          by_cases hle2 : x.1 ≤ q.2 + 1
          · simp (config := { maxSteps := 1000000 }) (disch := first | omega | ((repeat (first | rw [n_new] | rw [n_put])) <;> omega) | fail) only [tt22, h3, h9, h10, decide_eq_true hi, G_skip, G_seq, G_cond, GIf_true, G_block, G_region, G_onil, G_op, GG_true, GX_val, GP_some, put_lt, wantedG_none, eq_self, tget_set, nbeq, evalO_tmp, oval_eq, cx_move, cx_assign, cx_bin, cx_builtin, cbin_lss, bi_len, tyAt0, xlen_sl, List.map_cons, List.map_nil, cond_true, decide_true, if_true, if_false, Nat.reduceEqDiff]
            rw [G_draw (by kernel_rfl)]
            simp (config := { maxSteps := 1000000 }) (disch := first | omega | ((repeat (first | rw [n_new] | rw [n_put])) <;> omega) | fail) only [tt22, tt62, tt3, h3, h9, h10, hg, hg', hsd, hd1, hw, hw2, hpos, decide_eq_true hle2, G_cond, GIf_true, G_onil, G_op, GG_true, GX_val, GP_some, put_lt, wantedG_none, wantedG_some, wG_some, isB_bool, List.getElem?_toArray, eq_self, Nat.zero_add, tget_set, nbeq, evalO_tmp, evalO_int, evalO_bool, Tr.get_set, oval_eq, cx_move, cx_pick, xpick_true, cx_load, cx_bin, cx_fieldAddr, cx_indexAddr, loadAt_some, loadIn_cells, xfieldAddr_some, xfa_some, xindexAddr_some, natOf_nat, xidx_sl, cbin_add, cbin_sub, cbin_leq, cbin_gtr, takeN, List.head?_cons, Nat.add_zero, List.getElem?_cons_zero, List.getElem?_cons_succ, Option.map_some, cond_true, cond_false, Bool.not_true, decide_true, decide_false, if_true, if_false, Nat.reduceEqDiff]
            rw [G_draw (by kernel_rfl)]
            have p1 : splice (flatP (d ++ [q])) (d.length * 2 + 1) [.int .i64 (if x.2 > q.2 then x.2 else q.2)] = some (flatP (d ++ [(q.1, if x.2 > q.2 then x.2 else q.2)])) := flatP_put1
            simp (config := { maxSteps := 1000000 }) (disch := first | omega | ((repeat (first | rw [n_new] | rw [n_put])) <;> omega) | fail) only [tt22, tt62, tt3, h3, h9, h10, hg, hg', hsd1, hd1, hw, bi_max, p1, G_again, G_region, G_blkN, G_onil, G_op, GG_true, GX_val, GX_skip, GP_some, put_lt, put_none, wantedG_none, eq_self, Nat.zero_add, tget_set, nbeq, nble, evalO_tmp, evalO_int, oval_eq, oskip_some, cx_move, cx_assign, cx_load, cx_store, cx_bin, cx_fieldAddr, cx_indexAddr, cx_builtin, loadAt_some, loadIn_cells, storeAt_some, storeIn_cells, xfieldAddr_some, xfa_some, xindexAddr_some, natOf_nat, xidx_sl, cbin_add, cbin_sub, wrap_nat_add1, isJunk, oneC, takeN, Value.cells, List.toList_toArray, List.map_cons, List.map_nil, List.all_cons, List.all_nil, List.length_cons, List.length_nil, List.head?_cons, List.getElem?_cons_zero, List.getElem?_cons_succ, Option.map_some, cond_true, cond_false, Bool.and_true, decide_true, decide_false, if_true, if_false, Nat.reduceEqDiff, Nat.reduceLeDiff]
            refine ih2 (k - 1) _ (by omega) ⟨_, _, i + 1, .slice (some ⟨b', 0, none⟩) (d.length + 1) (d.length + 1), rfl, by omega, ?_, ?_, ?_, ?_, ?_, ?_, ?_, ?_⟩
            · simp (config := { maxSteps := 1000000 }) (disch := first | omega | ((repeat (first | rw [n_new] | rw [n_put])) <;> omega) | fail) only [h3, eq_self, tget_set, if_false, Nat.reduceEqDiff]
            · simp (config := { maxSteps := 1000000 }) (disch := first | omega | ((repeat (first | rw [n_new] | rw [n_put])) <;> omega) | fail) only [h9, eq_self, tget_set, if_false, Nat.reduceEqDiff]
            · simp (config := { maxSteps := 1000000 }) (disch := first | omega | ((repeat (first | rw [n_new] | rw [n_put])) <;> omega) | fail) only [h10, eq_self, tget_set, if_true, if_false, Nat.reduceEqDiff]
            · refine ho.frame (by simp only [n_put]; omega) fun j hj => ?_
              cases hj
              rw [get_put_ne (fun e => hbb e.symm)]
            · rw [htk, mergeStep_in hle2]
              refine ⟨some b', .inr ⟨by simp, b', by rw [List.length_append]; rfl, rfl, hNb', by simp only [n_put]; omega, ?_⟩, hdis⟩
              rw [get_put_eq rfl]
            · rw [htk]; exact hnp'
            · rw [htk, mergeStep_in hle2, List.length_append, List.length_singleton]; omega
            · exact kH.put _ hNb'
          · simp (config := { maxSteps := 1000000 }) (disch := first | omega | ((repeat (first | rw [n_new] | rw [n_put])) <;> omega) | fail) only [tt22, h3, h9, h10, decide_eq_true hi, G_skip, G_seq, G_cond, GIf_true, G_block, G_region, G_onil, G_op, GG_true, GX_val, GP_some, put_lt, wantedG_none, eq_self, tget_set, nbeq, evalO_tmp, oval_eq, cx_move, cx_assign, cx_bin, cx_builtin, cbin_lss, bi_len, tyAt0, xlen_sl, List.map_cons, List.map_nil, cond_true, decide_true, if_true, if_false, Nat.reduceEqDiff]
            rw [G_draw (by kernel_rfl)]
            simp (config := { maxSteps := 1000000 }) (disch := first | omega | ((repeat (first | rw [n_new] | rw [n_put])) <;> omega) | fail) only [tt22, tt62, tt3, h3, h9, h10, hg, hg', hsd, hd1, hw, hw2, hpos, decide_eq_false hle2, G_cond, GIf_false, G_region, G_onil, G_op, GG_true, GX_val, GP_some, put_lt, wantedG_none, wantedG_some, wG_some, isB_bool, List.getElem?_toArray, eq_self, Nat.zero_add, tget_set, nbeq, nble, evalO_tmp, evalO_int, evalO_bool, Tr.get_set, oval_eq, xnewSl_eq, cx_move, cx_pick, xpick_true, cx_buildSlice, cx_load, cx_bin, cx_fieldAddr, cx_indexAddr, cx_builtin, loadAt_some, loadIn_cells, xfieldAddr_some, xfa_some, xindexAddr_some, natOf_nat, xidx_sl, cbin_add, cbin_sub, cbin_leq, cbin_gtr, isJunk, partsV, fillC, elemPl, splice, takeN, Value.cells, xbuildSlice, rep, limN, List.toList_toArray, List.map_cons, List.map_nil, List.length_cons, List.length_nil, List.append_nil, List.head?_cons, Nat.add_zero, List.getElem?_cons_zero, List.getElem?_cons_succ, Option.map_some, cond_true, cond_false, Bool.and_true, Bool.not_true, Bool.not_false, decide_true, decide_false, if_true, if_false, List.size_toArray, Nat.reduceAdd, Nat.reduceEqDiff, Nat.reduceLeDiff, Nat.reduceMul]
            refine GX_app (p := x) (N := H.n) (l := d ++ [q]) (ho'.keep ((Keep.refl _).new _)) (by simp only [n_new]; omega) (by rw [get_new_eq rfl]) (by rw [List.length_append, List.length_singleton]; omega) ?_
            intro v1 H3 ho1 hn1 hf1
            have kH3 := Keep.app (H := H) (by repeat (first | assumption | exact Keep.refl _ | refine Keep.new ?_ _ | refine Keep.put ?_ _ (by first | omega | (simp only [n_new, n_put] <;> omega)))) (ho'.keep ((Keep.refl _).new _)) hn1 hf1
            simp only [n_new] at hn1
            simp (config := { maxSteps := 1000000 }) (disch := first | omega | ((repeat (first | rw [n_new] | rw [n_put])) <;> omega) | fail) only [h10, G_again, G_region, G_blkN, G_onil, G_op, GG_true, GX_val, GP_some, put_lt, wantedG_none, eq_self, tget_set, evalO_tmp, evalO_int, oval_eq, cx_move, cx_assign, cx_bin, cbin_add, wrap_nat_add1, if_true, if_false, Nat.reduceEqDiff]
            refine ih2 (k - 1) _ (by omega) ⟨_, H3, i + 1, v1, rfl, by omega, ?_, ?_, ?_, ?_, ?_, ?_, ?_, kH3⟩
            · simp (config := { maxSteps := 1000000 }) (disch := first | omega | ((repeat (first | rw [n_new] | rw [n_put])) <;> omega) | fail) only [h3, eq_self, tget_set, if_false, Nat.reduceEqDiff]
            · simp (config := { maxSteps := 1000000 }) (disch := first | omega | ((repeat (first | rw [n_new] | rw [n_put])) <;> omega) | fail) only [eq_self, tget_set, if_true, if_false, Nat.reduceEqDiff]
            · simp (config := { maxSteps := 1000000 }) (disch := first | omega | ((repeat (first | rw [n_new] | rw [n_put])) <;> omega) | fail) only [h10, eq_self, tget_set, if_true, if_false, Nat.reduceEqDiff]
            · refine ho.frame (by omega) fun j hj => ?_
              cases hj
              rw [hf1 b (by simp only [n_new]; omega) (fun e => hbb (Option.some.inj e)), get_new_ne (by omega)]
            · rw [htk, mergeStep_out hle2]
              refine ⟨_, ho1, fun b'' hb'' e => ?_⟩
              cases hb''
              simp only [n_new, Option.some.injEq] at e; omega
            · rw [htk]; exact hnp'
            · rw [htk, mergeStep_out hle2, List.length_append, List.length_append, List.length_singleton, List.length_singleton]; omega
      · have hsv : ∃ a, sv = .slice a s'.length s'.length := by
          rcases ho with ⟨rfl, rfl, _⟩ | ⟨_, b, rfl, _⟩
          · exact ⟨_, rfl⟩
          · exact ⟨_, rfl⟩
        obtain ⟨aS, rfl⟩ := hsv
        simp (config := { maxSteps := 1000000 }) (disch := first | omega | ((repeat (first | rw [n_new] | rw [n_put])) <;> omega) | fail) only [tt22, h3, h10, decide_eq_false hi, G_nil, G_seq, G_cond, GIf_false, G_exit, G_region, G_codeE, G_lpE, G_onil, G_op, GG_true, GX_val, GP_some, put_lt, wantedG_none, eq_self, tget_set, nbeq, evalO_tmp, oval_eq, cx_move, cx_bin, cx_builtin, cbin_lss, bi_len, tyAt0, xlen_sl, List.map_cons, List.map_nil, cond_true, decide_true, if_true, if_false, Nat.reduceEqDiff]
        rw [List.take_of_length_le (by omega)] at ho' hml
        refine ⟨trivial, _, _, ov, ob', rfl, ?_, ho', ?_, kH⟩
        · simp (config := { maxSteps := 1000000 }) (disch := first | omega | ((repeat (first | rw [n_new] | rw [n_put])) <;> omega) | fail) only [h9, eq_self, tget_set, if_false, Nat.reduceEqDiff]
        · show (s'.foldl mergeStep []).length ≤ _
          omega
    · refine ⟨_, _, 0, .slice none 0 0, rfl, rfl, ?_, ?_, ?_, ho, ⟨none, .inl ⟨rfl, rfl, rfl⟩, fun b _ e => by cases e⟩, ⟨(fun p hp => by cases hp), List.Pairwise.nil⟩, Nat.le_refl _, kH⟩
      · simp (config := { maxSteps := 1000000 }) (disch := first | omega | ((repeat (first | rw [n_new] | rw [n_put])) <;> omega) | fail) only [h3, eq_self, tget_set, if_false, Nat.reduceEqDiff]
      · simp (config := { maxSteps := 1000000 }) (disch := first | omega | ((repeat (first | rw [n_new] | rw [n_put])) <;> omega) | fail) only [eq_self, tget_set, if_true, if_false, Nat.reduceEqDiff]
      · simp (config := { maxSteps := 1000000 }) (disch := first | omega | ((repeat (first | rw [n_new] | rw [n_put])) <;> omega) | fail) only [cast_lit, eq_self, tget_set, if_true, if_false, Nat.reduceEqDiff]
  rintro e s ⟨rfl, tm, H2, ov, ob', rfl, h9, ho', hml, kH⟩
  simp (config := { maxSteps := 1000000 }) (disch := first | omega | ((repeat (first | rw [n_new] | rw [n_put])) <;> omega) | fail) only [h9, G_nil, G_seq, G_ret, G_region, G_blkE, G_onil, G_op, GG_true, GX_val, GP_some, put_lt, wantedG_none, eq_self, tget_set, evalO_tmp, cx_move, cx_assign, resAll, resOne, tupV1, Outs_ret, OutR_some, if_true, if_false, Nat.reduceEqDiff]
  exact ⟨trivial, ⟨s', hperm, hlo, ho'.st (by omega)⟩, kH⟩
end
end Go.Proofs
