/- The statement Rows.FnOrdersSaid: for every text of bytes, the law FnOrders returns true and leaves its argument as it was. No conditions. -/
import Derived.Test.YtcibheinilkcoaaQltO
namespace Go.Proofs.Ytcibheinilkcoaa.fnOrders
open Go.Vq
set_option linter.unusedSimpArgs false
set_option maxHeartbeats 1000000
theorem body (l : List Int) (hl : l.length ≤ 1048576) (w g : Nat) (sp : List TSpot) (bs : List TBlk) (s : Int) (hD : DrawnQ w g sp bs) (hs : 4 ≤ s ∧ s ≤ 23) (hd : FnC Try.prog 58 [(false, [.sq dU (l.map eU)])] (.agg [.int .i64 w, .int .i64 g, .fz dSpot (sp.map eSpot), .fz dBlk (bs.map eBlk), .int .i64 s])) : FnC Try.prog 12 [(false, [.sq dU (l.map eU)])] (.one (.bool true)) := by
  have hlen := hD.len
  have hq := hD.ok
  have ho : ordOkP w g sp bs s := ⟨hq, by omega⟩
  have ho2 : ordOkP w g sp bs (s + 1) := ⟨hq, by omega⟩
  have hsl := qOk_len hq
  have hbl := hq.2.1
  have hw := hq.1.1
  have hg := hq.1.2.1
  have hspl := hq.1.2.2.1
  have hb0 := hq.2.2 _ (getD_mem (l := bs) (k := 0) (by omega))
  have hz := hb0.1.1
  have hcl := clothK_len sp bs s 6
  have hqal := qaL_len sp bs bs.length 0
  have cO : FnC Try.prog 16 [aO w g sp bs s] (.one (.bool true)) := by
    have := implOrderOk w g sp bs s (by omega)
    rwa [decide_eq_true ho] at this
  have e1 : pcR w g sp bs s = shS pcN sp bs sp.length := by rw [pcR, if_pos ho]
  have hps := pc_sum hq
  generalize hz0 : (bs.getD 0 default).1 = z at *
  obtain ⟨Z, rfl⟩ : ∃ Z : Nat, z = Z := ⟨z.toNat, by omega⟩
  have hZ3 : (Z : Int) ≤ 4 := hz.2
  have hZZ := sq_wrap hz
  have hwg := wg_wrap hw hg
  have hN : ((sp.length : Nat) : Int) = (w : Int) * g := hspl
  have hn1 : (Z : Int) * Z * sp.length ≤ 16 * 36 := Int.mul_le_mul hZZ.2.2 (by omega) (by omega) (by omega)
  have hn2 : 1 ≤ (Z : Int) * Z * sp.length := Int.le_trans (by decide : (1 : Int) ≤ 1 * 1) (Int.mul_le_mul hZZ.2.1 (by omega) (by omega) (by omega))
  have hn3 : 2 * ((Z : Int) * Z) * sp.length = 2 * ((Z : Int) * Z * sp.length) := Int.mul_assoc 2 _ _
  have hwp : IntKind.i64.wrap (pcR w g sp bs s - 1) = pcR w g sp bs s - 1 := wr ⟨by omega, by omega⟩
  have hca := fun a => cloth_area hq hs.1 a
  have hsum := qa_sum6 hq
  rw [hz0] at hsum
  have hqal2 : (qaR sp bs).length = 6 := hqal
  have hqb := fun a => qaF_bd (sp := sp) (bs := bs) (by omega) (by omega) a bs.length (Nat.le_refl _)
  have hs6b : ∀ k : Nat, 0 ≤ sum6 (fun a => qaF sp bs a bs.length) k ∧ sum6 (fun a => qaF sp bs a bs.length) k ≤ 13824 * k := fun k => by
    induction k with
    | zero => simp [sum6]
    | succ k ih => have := hqb k; simp only [sum6]; omega
  have hgq : ∀ k, k < 6 → (qaR sp bs).getD k default = qaF sp bs k bs.length := fun k h => by
    have := qaL_get sp bs bs.length (j := k) h
    have e : qaR sp bs = (List.range 6).map fun a : Nat => qaF sp bs a bs.length := by unfold qaR qaL; exact List.map_congr_left fun a _ => if_neg (by omega)
    rw [e]; simp [List.getD, h]
  have hgc : ∀ k, k < 6 → (clothK sp bs s 6).getD k default = clothV sp bs s k := fun k h => clothK_get sp bs s h
  have hX := cutX_bd ho.2
  have hY := triY_bd ho.2
  have hcv : ∀ k, 0 ≤ clothV sp bs s k ∧ clothV sp bs s k ≤ 1000000000 := fun k => by
    have hW := Wn_bd hq k sp.length (Nat.le_refl _)
    have hH := Hn_bd hq k sp.length (Nat.le_refl _)
    have p1 : 0 ≤ cutX s * Wn sp bs sp.length k ∧ cutX s * Wn sp bs sp.length k ≤ 10816 * 592 := ⟨Int.mul_nonneg (by omega) hW.1, Int.mul_le_mul hX.2 (by omega) hW.1 (by omega)⟩
    have p2 : 0 ≤ triY s * Hn sp bs sp.length k ∧ triY s * Hn sp bs sp.length k ≤ 11449 * 1184 := ⟨Int.mul_nonneg (by omega) hH.1, Int.mul_le_mul hY.2 (by omega) hH.1 (by omega)⟩
    unfold clothV; omega
  have pos : ∀ {a b u v : Int}, 0 ≤ a ∧ a ≤ u → 0 ≤ b ∧ b ≤ v → 0 ≤ a * b ∧ a * b ≤ u * v := fun ha hb => ⟨Int.mul_nonneg ha.1 hb.1, Int.mul_le_mul ha.2 hb.2 hb.1 (by omega)⟩
  have s23 : 0 ≤ s ∧ s ≤ 23 := by omega
  have z4 : 0 ≤ (Z : Int) ∧ (Z : Int) ≤ 4 := by omega
  have w6 : 0 ≤ (w : Int) ∧ (w : Int) ≤ 6 := by omega
  have g6 : 0 ≤ (g : Int) ∧ (g : Int) ≤ 6 := by omega
  have a1 := pos w6 z4
  have a2 := pos a1 s23
  have a3 := pos g6 z4
  have a4 := pos a3 s23
  have a5 := pos z4 s23
  have a6 := pos w6 a5
  have a7 := pos g6 a5
  have cQS : FnC Try.prog 19 [aO w g sp bs s] (.tup [(false, [.int .i64 ((w : Int) * Z * s)]), (false, [.int .i64 ((g : Int) * Z * s)])]) := by
    have := implQuiltSize w g sp bs s (by omega)
    rw [qsW, if_pos ho, qsW, if_pos ho, qsN, hz0, wr (x := (Z : Int) * s) ⟨by omega, by omega⟩, wr (x := (w : Int) * (Z * s)) ⟨by omega, by omega⟩, wr (x := (g : Int) * (Z * s)) ⟨by omega, by omega⟩, ← Int.mul_assoc, ← Int.mul_assoc] at this
    exact this
  have cSh : ∀ v : Int, v = s + 1 → FnC Try.prog 62 [aO w g sp bs s, aO w g sp bs v] (.one (.own 3 dI ((clothK sp bs s 6).map eI))) := by rintro _ rfl; exact implShared w g sp bs s (by omega) ho ho2
  refine fn_z (ty := ty) (ts := [.tmp 2]) [0, 2, 3, 4, 5, 6, 7, 8, 9, 10, 11, 12, 13, 14, 16, 46, 50, 87] mixed ty_ok Try.func12 (by kernel_rfl) rfl (by kernel_rfl) (by kernel_rfl) rfl (.inl rfl) (Nat.le_of_ble_eq_true rfl) (by simp only [entry, entryV, C.toS, Nat.zero_add, Nat.reduceAdd, List.map_cons, List.map_nil]; exact rfl) ?_
  repeat' (first
    | ((with_reducible refine z_run ?_); (conv => whnf))
    | (with_reducible apply z_t)
    | (with_reducible apply z_f)
    | ((with_reducible apply z_b); ((intro h); (try simp only [beq_self_eq_true, eq_self, not_true_eq_false, not_false_eq_true, decide_true, cond_true, cond_false, Bool.not_true, Bool.not_false, Bool.not_eq_true', Bool.not_eq_false', Bool.and_eq_true, Bool.and_eq_false_imp, Bool.or_eq_true, Bool.or_eq_false_iff, decide_eq_true_eq, decide_eq_false_iff_not, Bool.false_eq_true, reduceCtorEq, Int.not_le, Int.not_lt, Decidable.not_not] at h)); rotate_left; ((intro h); (try simp only [beq_self_eq_true, eq_self, not_true_eq_false, not_false_eq_true, decide_true, cond_true, cond_false, Bool.not_true, Bool.not_false, Bool.not_eq_true', Bool.not_eq_false', Bool.and_eq_true, Bool.and_eq_false_imp, Bool.or_eq_true, Bool.or_eq_false_iff, decide_eq_true_eq, decide_eq_false_iff_not, Bool.false_eq_true, reduceCtorEq, Int.not_le, Int.not_lt, Decidable.not_not] at h)))
    | (with_reducible refine z_r ?_ ?_)
    | (with_reducible refine z_wg ?_ ?_)
    | (with_reducible refine z_w ?_ ?_)
    | ((with_reducible apply sh_nil); (intro _))
    | ((with_reducible apply sh_int); (intro _))
    | ((with_reducible apply sh_bool); (intro _))
    | ((with_reducible apply sh_sl); (intro _))
    | ((with_reducible refine z_xf ?zc ?zx ?_); (case zc => decide +kernel); (case zx => decide +kernel))
    | (with_reducible refine z_k (big_fn l hl) ?_)
    | (with_reducible refine z_k hd ?_)
    | (with_reducible refine z_k (implClothFor _ _ _ _ _ (by omega) ho) ?_)
    | (with_reducible refine z_k cQS ?_)
    | (with_reducible refine z_k (specQuiltAreas _ _ _ _ (by omega) hq) ?_)
    | (with_reducible refine z_k (implPiecesFor _ _ _ _ _ (by omega)) ?_)
    | (with_reducible refine z_k (implSeamsFor _ _ _ _ _ (by omega) ho) ?_)
    | ((with_reducible refine z_o ?zo ?_); (case zo => decide +kernel))
    | ((with_reducible refine z_x ?zx ?_); (case zx => decide +kernel))
    | ((refine z_mf (d := ?zD) (f := ?zF) (caps := ?zA) (τ := ?zT) (ps := ?zP) (cs := ?zC) ?zd ?ze ?zt ?za ?zp ?zl ?_); (case zd => exact rfl); (case ze => exact rfl); (case zt => (simp only [frzAll, frz, frzL, frzV, frzS, drp, unSs, unS, unsing, ev, Vq.look, List.map_cons, List.map_nil, List.drop_zero, List.drop_succ_cons, Nat.reduceAdd, Nat.zero_add, Option.map_some, Nat.reduceEqDiff, if_true, if_false, reduceCtorEq, ↓reduceIte]; exact rfl)); (case za => exact rfl); (case zp => exact rfl); (case zl => (simp only [unSs, unS, unsing, List.drop_zero, List.drop_succ_cons, Nat.reduceAdd, Nat.zero_add, Option.map_some, List.length_map, fillTo_zero, Int.toNat_natCast, Option.isSome_some, and_self, fixB, Nat.reduceLeDiff, false_implies, true_implies, forall_const, St.le0, St.swaps, St.ren, mapV, renO, V.ren, Sc.ren, Ob.ren, swp, slsLe, obsLe, vLe, scLe, scsLe, obLe, Vq.look, Nat.reduceEqDiff, if_true, if_false, reduceCtorEq, ↓reduceIte, true_and, and_true] <;> (and_intros <;> first | rfl | omega))))
    | fail)
  all_goals ((try simp only [Int.toNat_natCast, tn1, tp1, List.length_map, eq_self, true_and, and_true] at *); (try simp (disch := omega) only [wr, Int.toNat_natCast, tn1, tp1, List.length_map, eq_self, true_and, and_true] at *))
  all_goals (first
    | omega
    | (exfalso; omega)
    | (exfalso; exact h trivial)
    | skip)
  refine z_li (fun k : Nat => k ≤ 6) (0 : Nat) (fun k => 6 - k) (fun k => ⟨[(3, .one (.bx 3 0)), (4, .one (.root 20)), (5, .one (.int .i64 ((w : Int) * Z * s))), (6, .one (.int .i64 ((g : Int) * Z * s))), (7, .one (.root 30)), (8, .one (.int .i64 (pcR w g sp bs s))), (9, .one (.int .i64 (sum6 (fun a => qaF sp bs a bs.length) k))), (10, .one (.int .i64 k))], [(30, .row 3 dI ((qaR sp bs).map eI)), (20, .row 3 dI ((clothK sp bs s 6).map eI)), (3, .box [.int .i64 w, .int .i64 g, .ro dSpot (sp.map eSpot), .ro dBlk (bs.map eBlk), .int .i64 s])]⟩) (by omega) ?_ ?_
  · simp only [sum6]; simp only [List.length_map, fillTo_zero, Int.toNat_natCast, Option.isSome_some, and_self, fixB, Nat.reduceLeDiff, false_implies, true_implies, forall_const, St.le0, St.swaps, St.ren, mapV, renO, V.ren, Sc.ren, Ob.ren, swp, slsLe, obsLe, vLe, scLe, scsLe, obLe, Vq.look, Nat.reduceEqDiff, if_true, if_false, reduceCtorEq, ↓reduceIte, true_and, and_true] <;> (and_intros <;> first | rfl | omega | assumption)
  · intro k hk
    have hsk := hs6b k
    by_cases hlt : k < 6
    · have f1 := hca k
      have f2 := hcv k
      have f3 := hqb k
      have f0 : 0 ≤ qaF sp bs k bs.length ∧ qaF sp bs k bs.length ≤ 13824 := by omega
      rw [← hgc k hlt, ← hgq k hlt] at f1
      rw [← hgc k hlt] at f2
      rw [← hgq k hlt] at f0
      have f4 := pos f0 s23
      have f5 := pos f4 s23
      have f6 : (decide ((clothK sp bs s 6).getD k default = 0) == decide ((qaR sp bs).getD k default = 0)) = true := by
        by_cases e : (clothK sp bs s 6).getD k default = 0
        · rw [decide_eq_true e, decide_eq_true (f1.2.1 e)]; rfl
        · rw [decide_eq_false e, decide_eq_false (fun h => e (f1.2.2 h))]; rfl
      have f7 := hgq k hlt
      repeat' (first
    | ((with_reducible refine z_run ?_); (conv => whnf))
    | (with_reducible apply z_t)
    | (with_reducible apply z_f)
    | ((with_reducible apply z_b); ((intro h); (try simp only [beq_self_eq_true, eq_self, not_true_eq_false, not_false_eq_true, decide_true, cond_true, cond_false, Bool.not_true, Bool.not_false, Bool.not_eq_true', Bool.not_eq_false', Bool.and_eq_true, Bool.and_eq_false_imp, Bool.or_eq_true, Bool.or_eq_false_iff, decide_eq_true_eq, decide_eq_false_iff_not, Bool.false_eq_true, reduceCtorEq, Int.not_le, Int.not_lt, Decidable.not_not] at h)); rotate_left; ((intro h); (try simp only [beq_self_eq_true, eq_self, not_true_eq_false, not_false_eq_true, decide_true, cond_true, cond_false, Bool.not_true, Bool.not_false, Bool.not_eq_true', Bool.not_eq_false', Bool.and_eq_true, Bool.and_eq_false_imp, Bool.or_eq_true, Bool.or_eq_false_iff, decide_eq_true_eq, decide_eq_false_iff_not, Bool.false_eq_true, reduceCtorEq, Int.not_le, Int.not_lt, Decidable.not_not] at h)))
    | (with_reducible refine z_r ?_ ?_)
    | (with_reducible refine z_wg ?_ ?_)
    | (with_reducible refine z_w ?_ ?_)
    | ((with_reducible apply sh_nil); (intro _))
    | ((with_reducible apply sh_int); (intro _))
    | ((with_reducible apply sh_bool); (intro _))
    | ((with_reducible apply sh_sl); (intro _))
    | ((with_reducible refine z_xf ?zc ?zx ?_); (case zc => decide +kernel); (case zx => decide +kernel))
    | ((with_reducible refine z_o ?zo ?_); (case zo => decide +kernel))
    | ((with_reducible refine z_x ?zx ?_); (case zx => decide +kernel))
    | ((refine z_mf (d := ?zD) (f := ?zF) (caps := ?zA) (τ := ?zT) (ps := ?zP) (cs := ?zC) ?zd ?ze ?zt ?za ?zp ?zl ?_); (case zd => exact rfl); (case ze => exact rfl); (case zt => (simp only [frzAll, frz, frzL, frzV, frzS, drp, unSs, unS, unsing, ev, Vq.look, List.map_cons, List.map_nil, List.drop_zero, List.drop_succ_cons, Nat.reduceAdd, Nat.zero_add, Option.map_some, Nat.reduceEqDiff, if_true, if_false, reduceCtorEq, ↓reduceIte]; exact rfl)); (case za => exact rfl); (case zp => exact rfl); (case zl => (simp only [unSs, unS, unsing, List.drop_zero, List.drop_succ_cons, Nat.reduceAdd, Nat.zero_add, Option.map_some, List.length_map, fillTo_zero, Int.toNat_natCast, Option.isSome_some, and_self, fixB, Nat.reduceLeDiff, false_implies, true_implies, forall_const, St.le0, St.swaps, St.ren, mapV, renO, V.ren, Sc.ren, Ob.ren, swp, slsLe, obsLe, vLe, scLe, scsLe, obLe, Vq.look, Nat.reduceEqDiff, if_true, if_false, reduceCtorEq, ↓reduceIte, true_and, and_true] <;> (and_intros <;> first | rfl | omega))))
    | fail)
      all_goals ((try simp only [Int.toNat_natCast, tn1, tp1, List.length_map, eq_self, true_and, and_true] at *); (try simp (disch := omega) only [wr, Int.toNat_natCast, tn1, tp1, List.length_map, eq_self, true_and, and_true] at *))
      all_goals (first
        | omega
        | (exfalso; omega)
        | (exfalso; rw [f6] at *; simp at *; done)
        | (refine z_n (k + 1) ⟨by omega, by omega⟩ ?_; rw [sum6, ← f7]; simp only [List.length_map, fillTo_zero, Int.toNat_natCast, Option.isSome_some, and_self, fixB, Nat.reduceLeDiff, false_implies, true_implies, forall_const, St.le0, St.swaps, St.ren, mapV, renO, V.ren, Sc.ren, Ob.ren, swp, slsLe, obsLe, vLe, scLe, scsLe, obLe, Vq.look, Nat.reduceEqDiff, if_true, if_false, reduceCtorEq, ↓reduceIte, true_and, and_true] <;> (and_intros <;> first | rfl | omega | assumption); done)
        | (trace_state; fail))
    · have hk6 : k = 6 := by omega
      have zb : (bs.getD (Int.toNat 0) default).1 = (Z : Int) := hz0
      have hS : sum6 (fun a => qaF sp bs a bs.length) k = 4 * ((Z : Int) * Z) * ((w : Int) * g) := by rw [hk6, hsum, hN]
      have n1 : 0 ≤ sum6 (fun a => qaF sp bs a bs.length) k ∧ sum6 (fun a => qaF sp bs a bs.length) k ≤ 82944 := by omega
      have n2 := pos n1 s23
      have n3 := pos n2 s23
      have n4 : 0 ≤ 4 * ((w : Int) * Z * s) ∧ 4 * ((w : Int) * Z * s) ≤ 4 * (6 * 4 * 23) := by omega
      have n5 := pos n4 a4
      have n6 : 0 ≤ (w : Int) * g ∧ (w : Int) * g ≤ 36 := by omega
      have n7 := pos n6 z4
      have n8 := pos n7 z4
      have n9 : 0 ≤ 2 * ((w : Int) * g) ∧ 2 * ((w : Int) * g) ≤ 72 := by omega
      have m7 := pos n9 z4
      have m8 := pos m7 z4
      have F1 : (w : Int) * Z * s = IntKind.i64.wrap (IntKind.i64.wrap ((w : Int) * (bs.getD (Int.toNat 0) default).1) * s) := by
        rw [zb, wr (x := (w : Int) * Z) ⟨by omega, by omega⟩, wr (x := (w : Int) * Z * s) ⟨by omega, by omega⟩]
      have F2 : (g : Int) * Z * s = IntKind.i64.wrap (IntKind.i64.wrap ((g : Int) * (bs.getD (Int.toNat 0) default).1) * s) := by
        rw [zb, wr (x := (g : Int) * Z) ⟨by omega, by omega⟩, wr (x := (g : Int) * Z * s) ⟨by omega, by omega⟩]
      have F3 : IntKind.i64.wrap (IntKind.i64.wrap (sum6 (fun a => qaF sp bs a bs.length) k * s) * s) = IntKind.i64.wrap (4 * ((w : Int) * Z * s) * ((g : Int) * Z * s)) := by
        rw [wr (x := sum6 (fun a => qaF sp bs a bs.length) k * s) ⟨by omega, by omega⟩, hS]
        congr 1
        ac_rfl
      have F4 : ¬ pcR w g sp bs s < IntKind.i64.wrap (IntKind.i64.wrap ((w : Int) * g * (bs.getD (Int.toNat 0) default).1) * (bs.getD (Int.toNat 0) default).1) := by
        rw [zb, wr (x := (w : Int) * g * Z) ⟨by omega, by omega⟩, wr (x := (w : Int) * g * Z * Z) ⟨by omega, by omega⟩]
        have e : (w : Int) * g * Z * Z = (Z : Int) * Z * sp.length := by rw [hN]; ac_rfl
        rw [e]; omega
      have F5 : ¬ IntKind.i64.wrap (IntKind.i64.wrap (2 * ((w : Int) * g) * (bs.getD (Int.toNat 0) default).1) * (bs.getD (Int.toNat 0) default).1) < pcR w g sp bs s := by
        rw [zb, wr (x := 2 * ((w : Int) * g) * Z) ⟨by omega, by omega⟩, wr (x := 2 * ((w : Int) * g) * Z * Z) ⟨by omega, by omega⟩]
        have e : 2 * ((w : Int) * g) * Z * Z = 2 * ((Z : Int) * Z * sp.length) := by rw [hN]; ac_rfl
        rw [e]; omega
      repeat' (first
    | ((with_reducible refine z_run ?_); (conv => whnf))
    | (with_reducible apply z_t)
    | (with_reducible apply z_f)
    | ((with_reducible apply z_b); ((intro h); (try simp only [beq_self_eq_true, eq_self, not_true_eq_false, not_false_eq_true, decide_true, cond_true, cond_false, Bool.not_true, Bool.not_false, Bool.not_eq_true', Bool.not_eq_false', Bool.and_eq_true, Bool.and_eq_false_imp, Bool.or_eq_true, Bool.or_eq_false_iff, decide_eq_true_eq, decide_eq_false_iff_not, Bool.false_eq_true, reduceCtorEq, Int.not_le, Int.not_lt, Decidable.not_not] at h)); rotate_left; ((intro h); (try simp only [beq_self_eq_true, eq_self, not_true_eq_false, not_false_eq_true, decide_true, cond_true, cond_false, Bool.not_true, Bool.not_false, Bool.not_eq_true', Bool.not_eq_false', Bool.and_eq_true, Bool.and_eq_false_imp, Bool.or_eq_true, Bool.or_eq_false_iff, decide_eq_true_eq, decide_eq_false_iff_not, Bool.false_eq_true, reduceCtorEq, Int.not_le, Int.not_lt, Decidable.not_not] at h)))
    | (with_reducible refine z_r ?_ ?_)
    | (with_reducible refine z_wg ?_ ?_)
    | (with_reducible refine z_w ?_ ?_)
    | ((with_reducible apply sh_nil); (intro _))
    | ((with_reducible apply sh_int); (intro _))
    | ((with_reducible apply sh_bool); (intro _))
    | ((with_reducible apply sh_sl); (intro _))
    | ((with_reducible refine z_xf ?zc ?zx ?_); (case zc => decide +kernel); (case zx => decide +kernel))
    | (with_reducible refine z_k (cSh _ (wr ⟨by omega, by omega⟩)) ?_)
    | (with_reducible refine z_k cO ?_)
    | (with_reducible refine z_k (lSameInts_fn _ _ (by omega)) ?_)
    | ((with_reducible refine z_o ?zo ?_); (case zo => decide +kernel))
    | ((with_reducible refine z_x ?zx ?_); (case zx => decide +kernel))
    | ((refine z_mf (d := ?zD) (f := ?zF) (caps := ?zA) (τ := ?zT) (ps := ?zP) (cs := ?zC) ?zd ?ze ?zt ?za ?zp ?zl ?_); (case zd => exact rfl); (case ze => exact rfl); (case zt => (simp only [frzAll, frz, frzL, frzV, frzS, drp, unSs, unS, unsing, ev, Vq.look, List.map_cons, List.map_nil, List.drop_zero, List.drop_succ_cons, Nat.reduceAdd, Nat.zero_add, Option.map_some, Nat.reduceEqDiff, if_true, if_false, reduceCtorEq, ↓reduceIte]; exact rfl)); (case za => exact rfl); (case zp => exact rfl); (case zl => (simp only [unSs, unS, unsing, List.drop_zero, List.drop_succ_cons, Nat.reduceAdd, Nat.zero_add, Option.map_some, List.length_map, fillTo_zero, Int.toNat_natCast, Option.isSome_some, and_self, fixB, Nat.reduceLeDiff, false_implies, true_implies, forall_const, St.le0, St.swaps, St.ren, mapV, renO, V.ren, Sc.ren, Ob.ren, swp, slsLe, obsLe, vLe, scLe, scsLe, obLe, Vq.look, Nat.reduceEqDiff, if_true, if_false, reduceCtorEq, ↓reduceIte, true_and, and_true] <;> (and_intros <;> first | rfl | omega))))
    | fail)
      all_goals ((try simp only [Int.toNat_natCast, tn1, tp1, List.length_map, eq_self, true_and, and_true] at *); (try simp (disch := omega) only [wr, Int.toNat_natCast, tn1, tp1, List.length_map, eq_self, true_and, and_true] at *))
      all_goals (first
        | exact absurd F1 (by assumption)
        | exact absurd F2 (by assumption)
        | exact absurd F3 (by assumption)
        | exact absurd (by assumption) F4
        | exact absurd (by assumption) F5
        | omega
        | (exfalso; exact h trivial)
        | (exfalso; exact h rfl)
        | (refine z_e rfl ?_; simp only [fin, finP, finM, ids, nodupB, tupP, tupM, memN, List.length_cons, List.length_nil, List.nil_append, List.append_nil, List.cons_append, Nat.zero_add, Nat.reduceAdd, ne_eq, not_false_eq_true, eq_self, ev, Vq.look, List.map_cons, List.map_nil, and_true, true_and, Nat.reduceEqDiff, if_true, if_false, reduceCtorEq, ↓reduceIte]; done)
        | (refine z_e rfl ?_; simp only [fin, finP, finM, ids, nodupB, tupP, tupM, memN, List.length_cons, List.length_nil, List.nil_append, List.append_nil, List.cons_append, Nat.zero_add, Nat.reduceAdd, ne_eq, not_false_eq_true, eq_self, ev, Vq.look, List.map_cons, List.map_nil, and_true, true_and, Nat.reduceEqDiff, if_true, if_false, reduceCtorEq, ↓reduceIte]; rfl)
        | (trace_state; fail))
theorem law : LawFn Try.prog 12 [(false, [.sl dU])] := by
  intro caps hk hok
  obtain ⟨cs0, q0, rfl, e0, hk0⟩ := caps_cons hk
  obtain rfl := caps_nil hk0
  obtain ⟨c0_0, r0_0, rfl, f0_0, g0_0⟩ := kds_cons e0
  obtain rfl := kds_nil g0_0
  have ok0_0 := hok _ (List.getElem_mem (n := 0) (by simp)) _ (List.getElem_mem (n := 0) (by simp))
  simp only [List.getElem_cons_zero, List.getElem_cons_succ] at ok0_0
  obtain ⟨rows0_0, rfl⟩ := kd_sl f0_0
  obtain ⟨l, rfl⟩ := rows_map (e := eU) rowU ok0_0.rows.1
  have wl := ok0_0.len
  rw [List.length_map] at wl
  have hb := bytes_of ok0_0
  by_cases hl : l.length ≤ 1048576
  · obtain ⟨w, g, sp, bs, s, h1, h2, h3⟩ := drawOrder_fn l hl
    exact body l hl w g sp bs s h1 h2 h3
  · refine fn_z (ty := ty) (ts := [.tmp 2]) [0, 2, 3, 4, 5, 6, 7, 8, 9, 10, 11, 12, 13, 14, 16, 46, 50, 87] mixed ty_ok Try.func12 (by kernel_rfl) rfl (by kernel_rfl) (by kernel_rfl) rfl (.inl rfl) (Nat.le_of_ble_eq_true rfl) (by simp only [entry, entryV, C.toS, Nat.zero_add, Nat.reduceAdd, List.map_cons, List.map_nil]; exact rfl) ?_
    repeat' (first
    | ((with_reducible refine z_run ?_); (conv => whnf))
    | (with_reducible apply z_t)
    | (with_reducible apply z_f)
    | ((with_reducible apply z_b); ((intro h); (try simp only [beq_self_eq_true, eq_self, not_true_eq_false, not_false_eq_true, decide_true, cond_true, cond_false, Bool.not_true, Bool.not_false, Bool.not_eq_true', Bool.not_eq_false', Bool.and_eq_true, Bool.and_eq_false_imp, Bool.or_eq_true, Bool.or_eq_false_iff, decide_eq_true_eq, decide_eq_false_iff_not, Bool.false_eq_true, reduceCtorEq, Int.not_le, Int.not_lt, Decidable.not_not] at h)); rotate_left; ((intro h); (try simp only [beq_self_eq_true, eq_self, not_true_eq_false, not_false_eq_true, decide_true, cond_true, cond_false, Bool.not_true, Bool.not_false, Bool.not_eq_true', Bool.not_eq_false', Bool.and_eq_true, Bool.and_eq_false_imp, Bool.or_eq_true, Bool.or_eq_false_iff, decide_eq_true_eq, decide_eq_false_iff_not, Bool.false_eq_true, reduceCtorEq, Int.not_le, Int.not_lt, Decidable.not_not] at h)))
    | (with_reducible refine z_r ?_ ?_)
    | (with_reducible refine z_wg ?_ ?_)
    | (with_reducible refine z_w ?_ ?_)
    | ((with_reducible apply sh_nil); (intro _))
    | ((with_reducible apply sh_int); (intro _))
    | ((with_reducible apply sh_bool); (intro _))
    | ((with_reducible apply sh_sl); (intro _))
    | ((with_reducible refine z_xf ?zc ?zx ?_); (case zc => decide +kernel); (case zx => decide +kernel))
    | (with_reducible refine z_k (big_no l hl) ?_)
    | ((with_reducible refine z_o ?zo ?_); (case zo => decide +kernel))
    | ((with_reducible refine z_x ?zx ?_); (case zx => decide +kernel))
    | ((refine z_mf (d := ?zD) (f := ?zF) (caps := ?zA) (τ := ?zT) (ps := ?zP) (cs := ?zC) ?zd ?ze ?zt ?za ?zp ?zl ?_); (case zd => exact rfl); (case ze => exact rfl); (case zt => (simp only [frzAll, frz, frzL, frzV, frzS, drp, unSs, unS, unsing, ev, Vq.look, List.map_cons, List.map_nil, List.drop_zero, List.drop_succ_cons, Nat.reduceAdd, Nat.zero_add, Option.map_some, Nat.reduceEqDiff, if_true, if_false, reduceCtorEq, ↓reduceIte]; exact rfl)); (case za => exact rfl); (case zp => exact rfl); (case zl => (simp only [unSs, unS, unsing, List.drop_zero, List.drop_succ_cons, Nat.reduceAdd, Nat.zero_add, Option.map_some, List.length_map, fillTo_zero, Int.toNat_natCast, Option.isSome_some, and_self, fixB, Nat.reduceLeDiff, false_implies, true_implies, forall_const, St.le0, St.swaps, St.ren, mapV, renO, V.ren, Sc.ren, Ob.ren, swp, slsLe, obsLe, vLe, scLe, scsLe, obLe, Vq.look, Nat.reduceEqDiff, if_true, if_false, reduceCtorEq, ↓reduceIte, true_and, and_true] <;> (and_intros <;> first | rfl | omega))))
    | fail)
    all_goals (first | omega | refine z_e rfl ?_; simp only [fin, finP, finM, ids, nodupB, tupP, tupM, memN, List.length_cons, List.length_nil, List.nil_append, List.append_nil, List.cons_append, Nat.zero_add, Nat.reduceAdd, ne_eq, not_false_eq_true, eq_self, ev, Vq.look, List.map_cons, List.map_nil, and_true, true_and, Nat.reduceEqDiff, if_true, if_false, reduceCtorEq, ↓reduceIte])
set_option maxRecDepth 100000 in
theorem lifted (os : Os) (started : os.Started) (H : Type) (enc : TypeId × Value → H) :
    ReturnsInHanded {} Try.checked os 12 .any (Rows.fnOrdersSpec.pre6 enc Try.prog Try.f12 Rows.fnOrdersRow.domain false) (Rows.fnOrdersSpec.post enc Try.prog Try.f12 false true false false) :=
  law_lift 9 [(false, [.sl [.int .u8]])] (by kernel_rfl) started (by kernel_rfl) Try.func12
    (ChangeSpec.witness6 (enc := enc) (C := Try.checked) false ⟨#[], #[.slice none 0 0], []⟩ 8 (by kernel_rfl) (by kernel_rfl) (by kernel_rfl) (by kernel_rfl))
    rfl (by kernel_rfl) (show Try.checked.prog.underlying 4 = some .bool by kernel_rfl) (by intro ds h; obtain ⟨d0, rfl⟩ := len1 (h.trans (show Try.f12.params.size = 1 by kernel_rfl)); rfl) (by kernel_rfl) (by kernel_rfl) (by kernel_rfl) (by kernel_rfl) (by kernel_rfl) law
theorem over : Rows.fnOrdersRow.holds Try.pinned (OpenSpec.ofChange Rows.fnOrdersSpec) :=
  OpenClaim.holds_of_wide 12 Try.f12 rfl rfl rfl rfl rfl rfl rfl ⟨rfl, rfl, rfl, rfl, rfl⟩ rfl rfl rfl rfl rfl (by kernel_rfl) Try.func12 (by kernel_rfl)
    (of_decide_eq_true (by kernel_rfl)) (by unfold Func.isWrapper; first | (rw [if_pos (by decide +kernel)]; kernel_rfl) | (rw [if_neg (by decide +kernel)]; exact ⟨rfl, rfl⟩))
    (fun os started H enc _ => lifted os started H enc)
/-- THE STATEMENT -/
theorem proved : Rows.FnOrdersSaid := over
#print axioms proved
end Go.Proofs.Ytcibheinilkcoaa.fnOrders
