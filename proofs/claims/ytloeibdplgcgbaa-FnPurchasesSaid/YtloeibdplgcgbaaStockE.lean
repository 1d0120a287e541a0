/- Contracts of the functions that buy cloth for a lack. No conditions. -/
import Derived.Test.YtloeibdplgcgbaaStockD
namespace Go.Proofs.Ytloeibdplgcgbaa
open Go.Vq
set_option linter.unusedSimpArgs false
set_option maxHeartbeats 1000000
def buyOk (l : List TOffer) (q : List Int) : Prop := stockGood q ∧ canBuy l q 6
instance (l : List TOffer) (q : List Int) : Decidable (buyOk l q) := by unfold buyOk; infer_instance
def buyCost (l : List TOffer) (q : List Int) : Int := if buyOk l q then costK l q 6 else 0
theorem leftR_no {l : List TOffer} {q : List Int} (h : ¬ buyOk l q) : leftR l q = [] := if_neg h
theorem leftR_yes {l : List TOffer} {q : List Int} (h : buyOk l q) : leftR l q = (List.range 6).map (leftA l q) := if_pos h
theorem leftK_six (l : List TOffer) (q : List Int) : leftK l q 6 = (List.range 6).map (leftA l q) := by simp [leftK]
theorem implPurchases (l : List TOffer) (hl : l.length ≤ 1048576) (q : List Int) (hq : q.length ≤ 1048576) : FnC Try.prog 56 [(false, [.sq dOffer (l.map eOffer)]), (false, [.sq dI (q.map eI)])] (.tup [(false, [.int .i64 (buyCost l q)]), (false, [.own 3 dI ((leftR l q).map eI)]), (false, [.bool (decide (buyOk l q))])]) := by
  refine fn_z (ty := ty) (ts := [.tmp 4, .tmp 5, .tmp 6]) [0, 1, 4, 5, 6, 7, 8, 9, 10, 11, 12, 15, 17, 18, 19, 20, 25, 31] mixed ty_ok Try.func56 (by kernel_rfl) rfl (by kernel_rfl) (by kernel_rfl) rfl (.inr (.inr rfl)) (Nat.le_of_ble_eq_true rfl) (by simp only [entry, entryV, C.toS, Nat.zero_add, Nat.reduceAdd, List.map_cons, List.map_nil]; exact rfl) ?_
  repeat' (first
    | ((with_reducible refine z_run ?_); (conv => whnf))
    | (with_reducible apply z_t)
    | (with_reducible apply z_f)
    | ((with_reducible apply z_b); ((intro h); (try simp only [beq_self_eq_true, eq_self, not_true_eq_false, not_false_eq_true, decide_true, cond_true, cond_false, Bool.not_true, Bool.not_false, Bool.not_eq_true', Bool.not_eq_false', Bool.and_eq_true, Bool.and_eq_false_imp, Bool.or_eq_true, Bool.or_eq_false_iff, decide_eq_true_eq, decide_eq_false_iff_not, Bool.false_eq_true, reduceCtorEq, Int.not_le, Int.not_lt, Decidable.not_not] at h)); rotate_left; ((intro h); (try simp only [beq_self_eq_true, eq_self, not_true_eq_false, not_false_eq_true, decide_true, cond_true, cond_false, Bool.not_true, Bool.not_false, Bool.not_eq_true', Bool.not_eq_false', Bool.and_eq_true, Bool.and_eq_false_imp, Bool.or_eq_true, Bool.or_eq_false_iff, decide_eq_true_eq, decide_eq_false_iff_not, Bool.false_eq_true, reduceCtorEq, Int.not_le, Int.not_lt, Decidable.not_not] at h)))
    | (with_reducible refine z_r ?_ ?_)
    | (with_reducible refine z_wg ?_ ?_)
    | (with_reducible refine z_w ?_ ?_)
    | ((with_reducible apply sh_nil); (intro _))
    | ((with_reducible apply sh_int); (intro _))
    | ((with_reducible apply sh_bool); (intro _))
    | ((with_reducible apply sh_sl); (intro _))
    | (with_reducible refine z_k (implStockOk _ (by omega)) ?_)
    | ((with_reducible refine z_o ?zo ?_); (case zo => decide +kernel))
    | fail)
  all_goals ((try simp only [Int.toNat_natCast, tn1, tp1, List.length_map, eq_self, true_and, and_true] at *); (try simp (disch := omega) only [wr, Int.toNat_natCast, tn1, tp1, List.length_map, eq_self, true_and, and_true] at *))
  · have hs : stockGood q := by assumption
    have h6 := hs.1
    refine z_dp [[1, 0, 2]] (by decide +kernel) ⟨[(0, .one (.ro dOffer (l.map eOffer))), (1, .one (.ro dI (q.map eI))), (7, .one (.int .i64 0)), (8, .one (.root 16))], [(16, .row 3 dI ((List.replicate 6 0).map eI))]⟩ ?_ ?_
    · repeat' (first | exact allP_n | refine allP_c ?_ ?_)
      repeat' (first
    | ((with_reducible refine z_run ?_); (conv => whnf))
    | (with_reducible apply z_t)
    | (with_reducible apply z_f)
    | ((with_reducible apply z_b); ((intro h); (try simp only [beq_self_eq_true, eq_self, not_true_eq_false, not_false_eq_true, decide_true, cond_true, cond_false, Bool.not_true, Bool.not_false, Bool.not_eq_true', Bool.not_eq_false', Bool.and_eq_true, Bool.and_eq_false_imp, Bool.or_eq_true, Bool.or_eq_false_iff, decide_eq_true_eq, decide_eq_false_iff_not, Bool.false_eq_true, reduceCtorEq, Int.not_le, Int.not_lt, Decidable.not_not] at h)); rotate_left; ((intro h); (try simp only [beq_self_eq_true, eq_self, not_true_eq_false, not_false_eq_true, decide_true, cond_true, cond_false, Bool.not_true, Bool.not_false, Bool.not_eq_true', Bool.not_eq_false', Bool.and_eq_true, Bool.and_eq_false_imp, Bool.or_eq_true, Bool.or_eq_false_iff, decide_eq_true_eq, decide_eq_false_iff_not, Bool.false_eq_true, reduceCtorEq, Int.not_le, Int.not_lt, Decidable.not_not] at h)))
    | (with_reducible refine z_r ?_ ?_)
    | (with_reducible refine z_wg ?_ ?_)
    | (with_reducible refine z_w ?_ ?_)
    | ((with_reducible apply sh_nil); (intro _))
    | ((with_reducible apply sh_int); (intro _))
    | ((with_reducible apply sh_bool); (intro _))
    | ((with_reducible apply sh_sl); (intro _))
    | ((with_reducible refine z_o ?zo ?_); (case zo => decide +kernel))
    | fail)
      all_goals (first | (refine z_sn ?_; simp only [List.length_map, fillTo_zero, Int.toNat_natCast, Option.isSome_some, and_self, fixB, Nat.reduceLeDiff, false_implies, true_implies, forall_const, St.le0, St.swaps, St.ren, mapV, renO, V.ren, Sc.ren, Ob.ren, swp, slsLe, obsLe, vLe, scLe, scsLe, obLe, Vq.look, Nat.reduceEqDiff, if_true, if_false, reduceCtorEq, ↓reduceIte, true_and, and_true] <;> (and_intros <;> first | rfl | omega | assumption)) | (refine z_sn ?_; simp only [List.length_map, fillTo_zero, Int.toNat_natCast, Option.isSome_some, and_self, fixB, Nat.reduceLeDiff, false_implies, true_implies, forall_const, St.le0, St.swaps, St.ren, mapV, renO, V.ren, Sc.ren, Ob.ren, swp, slsLe, obsLe, vLe, scLe, scsLe, obLe, Vq.look, Nat.reduceEqDiff, if_true, if_false, reduceCtorEq, ↓reduceIte, true_and, and_true, List.map_replicate, eI]; rfl) | (and_intros <;> decide))
    · repeat' (first
    | ((with_reducible refine z_run ?_); (conv => whnf))
    | (with_reducible apply z_t)
    | (with_reducible apply z_f)
    | ((with_reducible apply z_b); ((intro h); (try simp only [beq_self_eq_true, eq_self, not_true_eq_false, not_false_eq_true, decide_true, cond_true, cond_false, Bool.not_true, Bool.not_false, Bool.not_eq_true', Bool.not_eq_false', Bool.and_eq_true, Bool.and_eq_false_imp, Bool.or_eq_true, Bool.or_eq_false_iff, decide_eq_true_eq, decide_eq_false_iff_not, Bool.false_eq_true, reduceCtorEq, Int.not_le, Int.not_lt, Decidable.not_not] at h)); rotate_left; ((intro h); (try simp only [beq_self_eq_true, eq_self, not_true_eq_false, not_false_eq_true, decide_true, cond_true, cond_false, Bool.not_true, Bool.not_false, Bool.not_eq_true', Bool.not_eq_false', Bool.and_eq_true, Bool.and_eq_false_imp, Bool.or_eq_true, Bool.or_eq_false_iff, decide_eq_true_eq, decide_eq_false_iff_not, Bool.false_eq_true, reduceCtorEq, Int.not_le, Int.not_lt, Decidable.not_not] at h)))
    | (with_reducible refine z_r ?_ ?_)
    | (with_reducible refine z_wg ?_ ?_)
    | (with_reducible refine z_w ?_ ?_)
    | ((with_reducible apply sh_nil); (intro _))
    | ((with_reducible apply sh_int); (intro _))
    | ((with_reducible apply sh_bool); (intro _))
    | ((with_reducible apply sh_sl); (intro _))
    | ((with_reducible refine z_o ?zo ?_); (case zo => decide +kernel))
    | fail)
      refine z_li (fun k => k ≤ q.length ∧ canBuy l q k) (0 : Nat) (fun k => q.length - k) (fun k => ⟨[(0, .one (.ro dOffer (l.map eOffer))), (1, .one (.ro dI (q.map eI))), (7, .one (.int .i64 (costK l q k))), (8, .one (.root 16)), (17, .one (.ro dI (q.map eI))), (18, .one (.int .i64 q.length)), (19, .one (.int .i64 k))], [(16, .row 3 dI ((leftK l q k).map eI))]⟩) ⟨by omega, fun a ha => by omega⟩ ?_ ?_
      · simp only [List.length_map, fillTo_zero, Int.toNat_natCast, Option.isSome_some, and_self, fixB, Nat.reduceLeDiff, false_implies, true_implies, forall_const, St.le0, St.swaps, St.ren, mapV, renO, V.ren, Sc.ren, Ob.ren, swp, slsLe, obsLe, vLe, scLe, scsLe, obLe, Vq.look, Nat.reduceEqDiff, if_true, if_false, reduceCtorEq, ↓reduceIte, true_and, and_true, leftK, costK]; and_intros <;> first | rfl | omega
      · intro k ⟨hk, hI⟩
        have hcb := costK_bd k hI
        have hlen := leftK_len l q (k := k) (by omega)
        have hat : k < 6 → 0 ≤ q.getD k default ∧ q.getD k default ≤ 1000000 := fun h => all_getD.1 hs.2 k (by omega)
        have hpb := cheapR_bd l (k : Int) (q.getD k default)
        by_cases hp : k < 6 ∧ q.getD k default ≠ 0 ∧ 0 ≤ pk l q k
        · obtain ⟨hga, hsv, hlt, hmb, hcA⟩ := buy_bd hs hp.1 hp.2.2
          have hpe : pk l q k = cheapR l k (q.getD k default) := rfl
          have hsr : stepsR (l.getD (cheapR l k (q.getD k default)).toNat default).1 (l.getD (cheapR l k (q.getD k default)).toNat default).2.1 (l.getD (cheapR l k (q.getD k default)).toNat default).2.2 (q.getD k default) = stepsV (l.getD (pk l q k).toNat default).2.1 (q.getD k default) := by
            rw [stepsR, if_pos ⟨hga, hat hp.1⟩]; rfl
          repeat' (first
    | ((with_reducible refine z_run ?_); (conv => whnf))
    | (with_reducible apply z_t)
    | (with_reducible apply z_f)
    | ((with_reducible apply z_b); ((intro h); (try simp only [beq_self_eq_true, eq_self, not_true_eq_false, not_false_eq_true, decide_true, cond_true, cond_false, Bool.not_true, Bool.not_false, Bool.not_eq_true', Bool.not_eq_false', Bool.and_eq_true, Bool.and_eq_false_imp, Bool.or_eq_true, Bool.or_eq_false_iff, decide_eq_true_eq, decide_eq_false_iff_not, Bool.false_eq_true, reduceCtorEq, Int.not_le, Int.not_lt, Decidable.not_not] at h)); rotate_left; ((intro h); (try simp only [beq_self_eq_true, eq_self, not_true_eq_false, not_false_eq_true, decide_true, cond_true, cond_false, Bool.not_true, Bool.not_false, Bool.not_eq_true', Bool.not_eq_false', Bool.and_eq_true, Bool.and_eq_false_imp, Bool.or_eq_true, Bool.or_eq_false_iff, decide_eq_true_eq, decide_eq_false_iff_not, Bool.false_eq_true, reduceCtorEq, Int.not_le, Int.not_lt, Decidable.not_not] at h)))
    | (with_reducible refine z_r ?_ ?_)
    | (with_reducible refine z_wg ?_ ?_)
    | (with_reducible refine z_w ?_ ?_)
    | ((with_reducible apply sh_nil); (intro _))
    | ((with_reducible apply sh_int); (intro _))
    | ((with_reducible apply sh_bool); (intro _))
    | ((with_reducible apply sh_sl); (intro _))
    | (with_reducible refine z_k (implCheapest _ hl _ _) ?_)
    | (with_reducible refine z_k (implStepsFor _ _ _ _) ?_)
    | ((with_reducible refine z_o ?zo ?_); (case zo => decide +kernel))
    | fail)
          all_goals ((try simp only [Int.toNat_natCast, tn1, tp1, List.length_map, eq_self, true_and, and_true] at *); (try simp (disch := omega) only [wr, Int.toNat_natCast, tn1, tp1, List.length_map, eq_self, true_and, and_true] at *))
          all_goals (try simp only [hsr] at *)
          all_goals (first
            | omega
            | (simp only [List.length_map, hlen]; omega)
            | (refine z_n (k + 1) ⟨⟨by omega, canBuy_succ hI fun _ => hp.2.2⟩, by omega⟩ ?_
               rw [show costK l q (k + 1) = costK l q k + costA l (q.getD k default) (pk l q k).toNat by simp only [costK]; rw [if_neg hp.2.1], ← leftK_set l q hp.1, ← set_map, leftA, if_neg hp.2.1]
               simp only [List.length_map, fillTo_zero, Int.toNat_natCast, Option.isSome_some, and_self, fixB, Nat.reduceLeDiff, false_implies, true_implies, forall_const, St.le0, St.swaps, St.ren, mapV, renO, V.ren, Sc.ren, Ob.ren, swp, slsLe, obsLe, vLe, scLe, scsLe, obLe, Vq.look, Nat.reduceEqDiff, if_true, if_false, reduceCtorEq, ↓reduceIte, true_and, and_true, hpe] at *
               unfold costA at hcA ⊢
               simp only [wr (x := stepsV (l.getD (cheapR l k (q.getD k default)).toNat default).2.1 (q.getD k default) * (l.getD (cheapR l k (q.getD k default)).toNat default).2.2) ⟨by omega, by omega⟩, wr (x := stepsV (l.getD (cheapR l k (q.getD k default)).toNat default).2.1 (q.getD k default) * (l.getD (cheapR l k (q.getD k default)).toNat default).2.1) ⟨by omega, by omega⟩]
               rw [wr ⟨by omega, by omega⟩, wr ⟨by omega, by omega⟩]
               and_intros <;> first | rfl | omega)
            | skip)
        · by_cases hz : k < 6 ∧ q.getD k default = 0
          · repeat' (first
    | ((with_reducible refine z_run ?_); (conv => whnf))
    | (with_reducible apply z_t)
    | (with_reducible apply z_f)
    | ((with_reducible apply z_b); ((intro h); (try simp only [beq_self_eq_true, eq_self, not_true_eq_false, not_false_eq_true, decide_true, cond_true, cond_false, Bool.not_true, Bool.not_false, Bool.not_eq_true', Bool.not_eq_false', Bool.and_eq_true, Bool.and_eq_false_imp, Bool.or_eq_true, Bool.or_eq_false_iff, decide_eq_true_eq, decide_eq_false_iff_not, Bool.false_eq_true, reduceCtorEq, Int.not_le, Int.not_lt, Decidable.not_not] at h)); rotate_left; ((intro h); (try simp only [beq_self_eq_true, eq_self, not_true_eq_false, not_false_eq_true, decide_true, cond_true, cond_false, Bool.not_true, Bool.not_false, Bool.not_eq_true', Bool.not_eq_false', Bool.and_eq_true, Bool.and_eq_false_imp, Bool.or_eq_true, Bool.or_eq_false_iff, decide_eq_true_eq, decide_eq_false_iff_not, Bool.false_eq_true, reduceCtorEq, Int.not_le, Int.not_lt, Decidable.not_not] at h)))
    | (with_reducible refine z_r ?_ ?_)
    | (with_reducible refine z_wg ?_ ?_)
    | (with_reducible refine z_w ?_ ?_)
    | ((with_reducible apply sh_nil); (intro _))
    | ((with_reducible apply sh_int); (intro _))
    | ((with_reducible apply sh_bool); (intro _))
    | ((with_reducible apply sh_sl); (intro _))
    | (with_reducible refine z_k (implCheapest _ hl _ _) ?_)
    | (with_reducible refine z_k (implStepsFor _ _ _ _) ?_)
    | ((with_reducible refine z_o ?zo ?_); (case zo => decide +kernel))
    | fail)
            all_goals ((try simp only [Int.toNat_natCast, tn1, tp1, List.length_map, eq_self, true_and, and_true] at *); (try simp (disch := omega) only [wr, Int.toNat_natCast, tn1, tp1, List.length_map, eq_self, true_and, and_true] at *))
            all_goals (first
              | omega
              | (refine z_n (k + 1) ⟨⟨by omega, canBuy_succ hI fun h => absurd hz.2 h⟩, by omega⟩ ?_
                 rw [show costK l q (k + 1) = costK l q k by simp only [costK]; rw [if_pos hz.2]; omega, leftK_zero l q hz.1 hz.2]
                 simp only [List.length_map, fillTo_zero, Int.toNat_natCast, Option.isSome_some, and_self, fixB, Nat.reduceLeDiff, false_implies, true_implies, forall_const, St.le0, St.swaps, St.ren, mapV, renO, V.ren, Sc.ren, Ob.ren, swp, slsLe, obsLe, vLe, scLe, scsLe, obLe, Vq.look, Nat.reduceEqDiff, if_true, if_false, reduceCtorEq, ↓reduceIte, true_and, and_true] <;> (and_intros <;> first | rfl | omega | assumption))
              | skip)
          · have hpe : pk l q k = cheapR l k (q.getD k default) := rfl
            by_cases h5 : k < 6
            · have hno : ¬ buyOk l q := fun hb => by
                have := hb.2 k h5 (by omega); omega
              repeat' (first
    | ((with_reducible refine z_run ?_); (conv => whnf))
    | (with_reducible apply z_t)
    | (with_reducible apply z_f)
    | ((with_reducible apply z_b); ((intro h); (try simp only [beq_self_eq_true, eq_self, not_true_eq_false, not_false_eq_true, decide_true, cond_true, cond_false, Bool.not_true, Bool.not_false, Bool.not_eq_true', Bool.not_eq_false', Bool.and_eq_true, Bool.and_eq_false_imp, Bool.or_eq_true, Bool.or_eq_false_iff, decide_eq_true_eq, decide_eq_false_iff_not, Bool.false_eq_true, reduceCtorEq, Int.not_le, Int.not_lt, Decidable.not_not] at h)); rotate_left; ((intro h); (try simp only [beq_self_eq_true, eq_self, not_true_eq_false, not_false_eq_true, decide_true, cond_true, cond_false, Bool.not_true, Bool.not_false, Bool.not_eq_true', Bool.not_eq_false', Bool.and_eq_true, Bool.and_eq_false_imp, Bool.or_eq_true, Bool.or_eq_false_iff, decide_eq_true_eq, decide_eq_false_iff_not, Bool.false_eq_true, reduceCtorEq, Int.not_le, Int.not_lt, Decidable.not_not] at h)))
    | (with_reducible refine z_r ?_ ?_)
    | (with_reducible refine z_wg ?_ ?_)
    | (with_reducible refine z_w ?_ ?_)
    | ((with_reducible apply sh_nil); (intro _))
    | ((with_reducible apply sh_int); (intro _))
    | ((with_reducible apply sh_bool); (intro _))
    | ((with_reducible apply sh_sl); (intro _))
    | (with_reducible refine z_k (implCheapest _ hl _ _) ?_)
    | (with_reducible refine z_k (implStepsFor _ _ _ _) ?_)
    | ((with_reducible refine z_o ?zo ?_); (case zo => decide +kernel))
    | fail)
              all_goals ((try simp only [Int.toNat_natCast, tn1, tp1, List.length_map, eq_self, true_and, and_true] at *); (try simp (disch := omega) only [wr, Int.toNat_natCast, tn1, tp1, List.length_map, eq_self, true_and, and_true] at *))
              all_goals (first
                | omega
                | (refine z_e rfl ?_; simp only [fin, finP, finM, ids, nodupB, tupP, tupM, memN, List.length_cons, List.length_nil, List.nil_append, List.append_nil, List.cons_append, Nat.zero_add, Nat.reduceAdd, ne_eq, not_false_eq_true, eq_self, ev, Vq.look, List.map_cons, List.map_nil, and_true, true_and, Nat.reduceEqDiff, if_true, if_false, reduceCtorEq, ↓reduceIte]; rw [buyCost, if_neg hno, leftR_no hno, decide_eq_false hno]; exact ⟨rfl, rfl, rfl⟩)
                | skip)
            · have hk6 : k = 6 := by omega
              subst hk6
              have hyes : buyOk l q := ⟨hs, hI⟩
              rw [leftK_six] at *
              repeat' (first
    | ((with_reducible refine z_run ?_); (conv => whnf))
    | (with_reducible apply z_t)
    | (with_reducible apply z_f)
    | ((with_reducible apply z_b); ((intro h); (try simp only [beq_self_eq_true, eq_self, not_true_eq_false, not_false_eq_true, decide_true, cond_true, cond_false, Bool.not_true, Bool.not_false, Bool.not_eq_true', Bool.not_eq_false', Bool.and_eq_true, Bool.and_eq_false_imp, Bool.or_eq_true, Bool.or_eq_false_iff, decide_eq_true_eq, decide_eq_false_iff_not, Bool.false_eq_true, reduceCtorEq, Int.not_le, Int.not_lt, Decidable.not_not] at h)); rotate_left; ((intro h); (try simp only [beq_self_eq_true, eq_self, not_true_eq_false, not_false_eq_true, decide_true, cond_true, cond_false, Bool.not_true, Bool.not_false, Bool.not_eq_true', Bool.not_eq_false', Bool.and_eq_true, Bool.and_eq_false_imp, Bool.or_eq_true, Bool.or_eq_false_iff, decide_eq_true_eq, decide_eq_false_iff_not, Bool.false_eq_true, reduceCtorEq, Int.not_le, Int.not_lt, Decidable.not_not] at h)))
    | (with_reducible refine z_r ?_ ?_)
    | (with_reducible refine z_wg ?_ ?_)
    | (with_reducible refine z_w ?_ ?_)
    | ((with_reducible apply sh_nil); (intro _))
    | ((with_reducible apply sh_int); (intro _))
    | ((with_reducible apply sh_bool); (intro _))
    | ((with_reducible apply sh_sl); (intro _))
    | (with_reducible refine z_k (implCheapest _ hl _ _) ?_)
    | (with_reducible refine z_k (implStepsFor _ _ _ _) ?_)
    | ((with_reducible refine z_o ?zo ?_); (case zo => decide +kernel))
    | fail)
              all_goals ((try simp only [Int.toNat_natCast, tn1, tp1, List.length_map, eq_self, true_and, and_true] at *); (try simp (disch := omega) only [wr, Int.toNat_natCast, tn1, tp1, List.length_map, eq_self, true_and, and_true] at *))
              all_goals (first
                | omega
                | (refine z_e rfl ?_; simp only [fin, finP, finM, ids, nodupB, tupP, tupM, memN, List.length_cons, List.length_nil, List.nil_append, List.append_nil, List.cons_append, Nat.zero_add, Nat.reduceAdd, ne_eq, not_false_eq_true, eq_self, ev, Vq.look, List.map_cons, List.map_nil, and_true, true_and, Nat.reduceEqDiff, if_true, if_false, reduceCtorEq, ↓reduceIte]; rw [buyCost, if_pos hyes, leftR_yes hyes, decide_eq_true hyes]; exact ⟨rfl, rfl, rfl⟩)
                | skip)
  · refine z_e rfl ?_; simp only [fin, finP, finM, ids, nodupB, tupP, tupM, memN, List.length_cons, List.length_nil, List.nil_append, List.append_nil, List.cons_append, Nat.zero_add, Nat.reduceAdd, ne_eq, not_false_eq_true, eq_self, ev, Vq.look, List.map_cons, List.map_nil, and_true, true_and, Nat.reduceEqDiff, if_true, if_false, reduceCtorEq, ↓reduceIte]
    have hno : ¬ buyOk l q := fun hb => absurd hb.1 (by assumption)
    rw [buyCost, if_neg hno, leftR_no hno, decide_eq_false hno]; exact ⟨rfl, rfl, rfl⟩
theorem costR_no {l : List TOffer} {q : List Int} (h : ¬ buyOk l q) : costR l q = -1 := if_neg h
theorem costR_yes {l : List TOffer} {q : List Int} (h : buyOk l q) : costR l q = costK l q 6 := if_pos h
theorem implCostOf (l : List TOffer) (hl : l.length ≤ 1048576) (q : List Int) (hq : q.length ≤ 1048576) : FnC Try.prog 39 [(false, [.sq dOffer (l.map eOffer)]), (false, [.sq dI (q.map eI)])] (.one (.int .i64 (costR l q))) := by
  refine fn_z (ty := ty) (ts := [.tmp 4]) [0, 1, 4, 5, 7, 16] mixed ty_ok Try.func39 (by kernel_rfl) rfl (by kernel_rfl) (by kernel_rfl) rfl (.inl rfl) (Nat.le_of_ble_eq_true rfl) (by simp only [entry, entryV, C.toS, Nat.zero_add, Nat.reduceAdd, List.map_cons, List.map_nil]; exact rfl) ?_
  repeat' (first
    | ((with_reducible refine z_run ?_); (conv => whnf))
    | (with_reducible apply z_t)
    | (with_reducible apply z_f)
    | ((with_reducible apply z_b); ((intro h); (try simp only [beq_self_eq_true, eq_self, not_true_eq_false, not_false_eq_true, decide_true, cond_true, cond_false, Bool.not_true, Bool.not_false, Bool.not_eq_true', Bool.not_eq_false', Bool.and_eq_true, Bool.and_eq_false_imp, Bool.or_eq_true, Bool.or_eq_false_iff, decide_eq_true_eq, decide_eq_false_iff_not, Bool.false_eq_true, reduceCtorEq, Int.not_le, Int.not_lt, Decidable.not_not] at h)); rotate_left; ((intro h); (try simp only [beq_self_eq_true, eq_self, not_true_eq_false, not_false_eq_true, decide_true, cond_true, cond_false, Bool.not_true, Bool.not_false, Bool.not_eq_true', Bool.not_eq_false', Bool.and_eq_true, Bool.and_eq_false_imp, Bool.or_eq_true, Bool.or_eq_false_iff, decide_eq_true_eq, decide_eq_false_iff_not, Bool.false_eq_true, reduceCtorEq, Int.not_le, Int.not_lt, Decidable.not_not] at h)))
    | (with_reducible refine z_r ?_ ?_)
    | (with_reducible refine z_wg ?_ ?_)
    | (with_reducible refine z_w ?_ ?_)
    | ((with_reducible apply sh_nil); (intro _))
    | ((with_reducible apply sh_int); (intro _))
    | ((with_reducible apply sh_bool); (intro _))
    | ((with_reducible apply sh_sl); (intro _))
    | (with_reducible refine z_k (implPurchases _ hl _ hq) ?_)
    | ((with_reducible refine z_o ?zo ?_); (case zo => decide +kernel))
    | fail)
  all_goals ((try simp only [Int.toNat_natCast, tn1, tp1, List.length_map, eq_self, true_and, and_true] at *); (try simp (disch := omega) only [wr, Int.toNat_natCast, tn1, tp1, List.length_map, eq_self, true_and, and_true] at *))
  · refine z_e rfl ?_; simp only [fin, finP, finM, ids, nodupB, tupP, tupM, memN, List.length_cons, List.length_nil, List.nil_append, List.append_nil, List.cons_append, Nat.zero_add, Nat.reduceAdd, ne_eq, not_false_eq_true, eq_self, ev, Vq.look, List.map_cons, List.map_nil, and_true, true_and, Nat.reduceEqDiff, if_true, if_false, reduceCtorEq, ↓reduceIte]; have h : buyOk l q := by assumption
    rw [costR_yes h, buyCost, if_pos h]
  · refine z_e rfl ?_; simp only [fin, finP, finM, ids, nodupB, tupP, tupM, memN, List.length_cons, List.length_nil, List.nil_append, List.append_nil, List.cons_append, Nat.zero_add, Nat.reduceAdd, ne_eq, not_false_eq_true, eq_self, ev, Vq.look, List.map_cons, List.map_nil, and_true, true_and, Nat.reduceEqDiff, if_true, if_false, reduceCtorEq, ↓reduceIte]; rw [costR_no (by assumption)]
theorem implLeftAfter (l : List TOffer) (hl : l.length ≤ 1048576) (q : List Int) (hq : q.length ≤ 1048576) : FnC Try.prog 40 [(false, [.sq dOffer (l.map eOffer)]), (false, [.sq dI (q.map eI)])] (.one (.own 3 dI ((leftR l q).map eI))) := by
  refine fn_z (ty := ty) (ts := [.tmp 4]) [0, 1, 4, 6, 7, 16] mixed ty_ok Try.func40 (by kernel_rfl) rfl (by kernel_rfl) (by kernel_rfl) rfl (.inl rfl) (Nat.le_of_ble_eq_true rfl) (by simp only [entry, entryV, C.toS, Nat.zero_add, Nat.reduceAdd, List.map_cons, List.map_nil]; exact rfl) ?_
  repeat' (first
    | ((with_reducible refine z_run ?_); (conv => whnf))
    | (with_reducible apply z_t)
    | (with_reducible apply z_f)
    | ((with_reducible apply z_b); ((intro h); (try simp only [beq_self_eq_true, eq_self, not_true_eq_false, not_false_eq_true, decide_true, cond_true, cond_false, Bool.not_true, Bool.not_false, Bool.not_eq_true', Bool.not_eq_false', Bool.and_eq_true, Bool.and_eq_false_imp, Bool.or_eq_true, Bool.or_eq_false_iff, decide_eq_true_eq, decide_eq_false_iff_not, Bool.false_eq_true, reduceCtorEq, Int.not_le, Int.not_lt, Decidable.not_not] at h)); rotate_left; ((intro h); (try simp only [beq_self_eq_true, eq_self, not_true_eq_false, not_false_eq_true, decide_true, cond_true, cond_false, Bool.not_true, Bool.not_false, Bool.not_eq_true', Bool.not_eq_false', Bool.and_eq_true, Bool.and_eq_false_imp, Bool.or_eq_true, Bool.or_eq_false_iff, decide_eq_true_eq, decide_eq_false_iff_not, Bool.false_eq_true, reduceCtorEq, Int.not_le, Int.not_lt, Decidable.not_not] at h)))
    | (with_reducible refine z_r ?_ ?_)
    | (with_reducible refine z_wg ?_ ?_)
    | (with_reducible refine z_w ?_ ?_)
    | ((with_reducible apply sh_nil); (intro _))
    | ((with_reducible apply sh_int); (intro _))
    | ((with_reducible apply sh_bool); (intro _))
    | ((with_reducible apply sh_sl); (intro _))
    | (with_reducible refine z_k (implPurchases _ hl _ hq) ?_)
    | ((with_reducible refine z_o ?zo ?_); (case zo => decide +kernel))
    | fail)
  all_goals ((try simp only [Int.toNat_natCast, tn1, tp1, List.length_map, eq_self, true_and, and_true] at *); (try simp (disch := omega) only [wr, Int.toNat_natCast, tn1, tp1, List.length_map, eq_self, true_and, and_true] at *))
  · refine z_e rfl ?_; simp only [fin, finP, finM, ids, nodupB, tupP, tupM, memN, List.length_cons, List.length_nil, List.nil_append, List.append_nil, List.cons_append, Nat.zero_add, Nat.reduceAdd, ne_eq, not_false_eq_true, eq_self, ev, Vq.look, List.map_cons, List.map_nil, and_true, true_and, Nat.reduceEqDiff, if_true, if_false, reduceCtorEq, ↓reduceIte]
  · refine z_e rfl ?_; simp only [fin, finP, finM, ids, nodupB, tupP, tupM, memN, List.length_cons, List.length_nil, List.nil_append, List.append_nil, List.cons_append, Nat.zero_add, Nat.reduceAdd, ne_eq, not_false_eq_true, eq_self, ev, Vq.look, List.map_cons, List.map_nil, and_true, true_and, Nat.reduceEqDiff, if_true, if_false, reduceCtorEq, ↓reduceIte]; rw [leftR_no (by assumption)]; rfl
theorem specCostOf (l : List TOffer) (hl : l.length ≤ 1048576) (q : List Int) (hq : q.length ≤ 1048576) : FnC Try.prog 41 [(false, [.sq dOffer (l.map eOffer)]), (false, [.sq dI (q.map eI)])] (.one (.int .i64 (costR l q))) := by
  refine fn_z (ty := ty) (ts := [.tmp 4]) [0, 1, 4, 5, 6, 7, 10, 12, 19, 28] mixed ty_ok Try.func41 (by kernel_rfl) rfl (by kernel_rfl) (by kernel_rfl) rfl (.inl rfl) (Nat.le_of_ble_eq_true rfl) (by simp only [entry, entryV, C.toS, Nat.zero_add, Nat.reduceAdd, List.map_cons, List.map_nil]; exact rfl) ?_
  repeat' (first
    | ((with_reducible refine z_run ?_); (conv => whnf))
    | (with_reducible apply z_t)
    | (with_reducible apply z_f)
    | ((with_reducible apply z_b); ((intro h); (try simp only [beq_self_eq_true, eq_self, not_true_eq_false, not_false_eq_true, decide_true, cond_true, cond_false, Bool.not_true, Bool.not_false, Bool.not_eq_true', Bool.not_eq_false', Bool.and_eq_true, Bool.and_eq_false_imp, Bool.or_eq_true, Bool.or_eq_false_iff, decide_eq_true_eq, decide_eq_false_iff_not, Bool.false_eq_true, reduceCtorEq, Int.not_le, Int.not_lt, Decidable.not_not] at h)); rotate_left; ((intro h); (try simp only [beq_self_eq_true, eq_self, not_true_eq_false, not_false_eq_true, decide_true, cond_true, cond_false, Bool.not_true, Bool.not_false, Bool.not_eq_true', Bool.not_eq_false', Bool.and_eq_true, Bool.and_eq_false_imp, Bool.or_eq_true, Bool.or_eq_false_iff, decide_eq_true_eq, decide_eq_false_iff_not, Bool.false_eq_true, reduceCtorEq, Int.not_le, Int.not_lt, Decidable.not_not] at h)))
    | (with_reducible refine z_r ?_ ?_)
    | (with_reducible refine z_wg ?_ ?_)
    | (with_reducible refine z_w ?_ ?_)
    | ((with_reducible apply sh_nil); (intro _))
    | ((with_reducible apply sh_int); (intro _))
    | ((with_reducible apply sh_bool); (intro _))
    | ((with_reducible apply sh_sl); (intro _))
    | (with_reducible refine z_k (specStockOk _ (by omega)) ?_)
    | ((with_reducible refine z_o ?zo ?_); (case zo => decide +kernel))
    | fail)
  all_goals ((try simp only [Int.toNat_natCast, tn1, tp1, List.length_map, eq_self, true_and, and_true] at *); (try simp (disch := omega) only [wr, Int.toNat_natCast, tn1, tp1, List.length_map, eq_self, true_and, and_true] at *))
  · have hs : stockGood q := by assumption
    have h6 := hs.1
    refine z_li (fun k => k ≤ 6 ∧ canBuy l q k) (0 : Nat) (fun k => 6 - k) (fun k => ⟨[(0, .one (.ro dOffer (l.map eOffer))), (1, .one (.ro dI (q.map eI))), (5, .one (.int .i64 (costK l q k))), (6, .one (.int .i64 k))], []⟩) ⟨by omega, fun a ha => by omega⟩ ?_ ?_
    · simp only [List.length_map, fillTo_zero, Int.toNat_natCast, Option.isSome_some, and_self, fixB, Nat.reduceLeDiff, false_implies, true_implies, forall_const, St.le0, St.swaps, St.ren, mapV, renO, V.ren, Sc.ren, Ob.ren, swp, slsLe, obsLe, vLe, scLe, scsLe, obLe, Vq.look, Nat.reduceEqDiff, if_true, if_false, reduceCtorEq, ↓reduceIte, true_and, and_true, costK]; and_intros <;> first | rfl | omega
    · intro k ⟨hk, hI⟩
      have hcb := costK_bd k hI
      have hat : k < 6 → 0 ≤ q.getD k default ∧ q.getD k default ≤ 1000000 := fun h => all_getD.1 hs.2 k (by omega)
      have hpb := cheapR_bd l (k : Int) (q.getD k default)
      by_cases hp : k < 6 ∧ q.getD k default ≠ 0 ∧ 0 ≤ pk l q k
      · obtain ⟨hga, hsv, hlt, hmb, hcA⟩ := buy_bd hs hp.1 hp.2.2
        have hpe : pk l q k = cheapR l k (q.getD k default) := rfl
        have hsr : stepsR (l.getD (cheapR l k (q.getD k default)).toNat default).1 (l.getD (cheapR l k (q.getD k default)).toNat default).2.1 (l.getD (cheapR l k (q.getD k default)).toNat default).2.2 (q.getD k default) = stepsV (l.getD (pk l q k).toNat default).2.1 (q.getD k default) := by
          rw [stepsR, if_pos ⟨hga, hat hp.1⟩]; rfl
        repeat' (first
    | ((with_reducible refine z_run ?_); (conv => whnf))
    | (with_reducible apply z_t)
    | (with_reducible apply z_f)
    | ((with_reducible apply z_b); ((intro h); (try simp only [beq_self_eq_true, eq_self, not_true_eq_false, not_false_eq_true, decide_true, cond_true, cond_false, Bool.not_true, Bool.not_false, Bool.not_eq_true', Bool.not_eq_false', Bool.and_eq_true, Bool.and_eq_false_imp, Bool.or_eq_true, Bool.or_eq_false_iff, decide_eq_true_eq, decide_eq_false_iff_not, Bool.false_eq_true, reduceCtorEq, Int.not_le, Int.not_lt, Decidable.not_not] at h)); rotate_left; ((intro h); (try simp only [beq_self_eq_true, eq_self, not_true_eq_false, not_false_eq_true, decide_true, cond_true, cond_false, Bool.not_true, Bool.not_false, Bool.not_eq_true', Bool.not_eq_false', Bool.and_eq_true, Bool.and_eq_false_imp, Bool.or_eq_true, Bool.or_eq_false_iff, decide_eq_true_eq, decide_eq_false_iff_not, Bool.false_eq_true, reduceCtorEq, Int.not_le, Int.not_lt, Decidable.not_not] at h)))
    | (with_reducible refine z_r ?_ ?_)
    | (with_reducible refine z_wg ?_ ?_)
    | (with_reducible refine z_w ?_ ?_)
    | ((with_reducible apply sh_nil); (intro _))
    | ((with_reducible apply sh_int); (intro _))
    | ((with_reducible apply sh_bool); (intro _))
    | ((with_reducible apply sh_sl); (intro _))
    | (with_reducible refine z_k (specCheapest _ hl _ _) ?_)
    | (with_reducible refine z_k (specStepsFor _ _ _ _) ?_)
    | ((with_reducible refine z_o ?zo ?_); (case zo => decide +kernel))
    | fail)
        all_goals ((try simp only [Int.toNat_natCast, tn1, tp1, List.length_map, eq_self, true_and, and_true] at *); (try simp (disch := omega) only [wr, Int.toNat_natCast, tn1, tp1, List.length_map, eq_self, true_and, and_true] at *))
        all_goals (try simp only [hsr] at *)
        all_goals (first
          | omega
          | (refine z_n (k + 1) ⟨⟨by omega, canBuy_succ hI fun _ => hp.2.2⟩, by omega⟩ ?_
             rw [show costK l q (k + 1) = costK l q k + costA l (q.getD k default) (pk l q k).toNat by simp only [costK]; rw [if_neg hp.2.1]]
             simp only [List.length_map, fillTo_zero, Int.toNat_natCast, Option.isSome_some, and_self, fixB, Nat.reduceLeDiff, false_implies, true_implies, forall_const, St.le0, St.swaps, St.ren, mapV, renO, V.ren, Sc.ren, Ob.ren, swp, slsLe, obsLe, vLe, scLe, scsLe, obLe, Vq.look, Nat.reduceEqDiff, if_true, if_false, reduceCtorEq, ↓reduceIte, true_and, and_true, hpe] at *
             unfold costA at hcA ⊢
             simp only [wr (x := stepsV (l.getD (cheapR l k (q.getD k default)).toNat default).2.1 (q.getD k default) * (l.getD (cheapR l k (q.getD k default)).toNat default).2.2) ⟨by omega, by omega⟩]
             rw [wr ⟨by omega, by omega⟩]
             and_intros <;> first | rfl | omega))
      · by_cases hz : k < 6 ∧ q.getD k default = 0
        · repeat' (first
    | ((with_reducible refine z_run ?_); (conv => whnf))
    | (with_reducible apply z_t)
    | (with_reducible apply z_f)
    | ((with_reducible apply z_b); ((intro h); (try simp only [beq_self_eq_true, eq_self, not_true_eq_false, not_false_eq_true, decide_true, cond_true, cond_false, Bool.not_true, Bool.not_false, Bool.not_eq_true', Bool.not_eq_false', Bool.and_eq_true, Bool.and_eq_false_imp, Bool.or_eq_true, Bool.or_eq_false_iff, decide_eq_true_eq, decide_eq_false_iff_not, Bool.false_eq_true, reduceCtorEq, Int.not_le, Int.not_lt, Decidable.not_not] at h)); rotate_left; ((intro h); (try simp only [beq_self_eq_true, eq_self, not_true_eq_false, not_false_eq_true, decide_true, cond_true, cond_false, Bool.not_true, Bool.not_false, Bool.not_eq_true', Bool.not_eq_false', Bool.and_eq_true, Bool.and_eq_false_imp, Bool.or_eq_true, Bool.or_eq_false_iff, decide_eq_true_eq, decide_eq_false_iff_not, Bool.false_eq_true, reduceCtorEq, Int.not_le, Int.not_lt, Decidable.not_not] at h)))
    | (with_reducible refine z_r ?_ ?_)
    | (with_reducible refine z_wg ?_ ?_)
    | (with_reducible refine z_w ?_ ?_)
    | ((with_reducible apply sh_nil); (intro _))
    | ((with_reducible apply sh_int); (intro _))
    | ((with_reducible apply sh_bool); (intro _))
    | ((with_reducible apply sh_sl); (intro _))
    | (with_reducible refine z_k (specCheapest _ hl _ _) ?_)
    | (with_reducible refine z_k (specStepsFor _ _ _ _) ?_)
    | ((with_reducible refine z_o ?zo ?_); (case zo => decide +kernel))
    | fail)
          all_goals ((try simp only [Int.toNat_natCast, tn1, tp1, List.length_map, eq_self, true_and, and_true] at *); (try simp (disch := omega) only [wr, Int.toNat_natCast, tn1, tp1, List.length_map, eq_self, true_and, and_true] at *))
          all_goals (first
            | omega
            | (refine z_n (k + 1) ⟨⟨by omega, canBuy_succ hI fun h => absurd hz.2 h⟩, by omega⟩ ?_
               rw [show costK l q (k + 1) = costK l q k by simp only [costK]; rw [if_pos hz.2]; omega]
               simp only [List.length_map, fillTo_zero, Int.toNat_natCast, Option.isSome_some, and_self, fixB, Nat.reduceLeDiff, false_implies, true_implies, forall_const, St.le0, St.swaps, St.ren, mapV, renO, V.ren, Sc.ren, Ob.ren, swp, slsLe, obsLe, vLe, scLe, scsLe, obLe, Vq.look, Nat.reduceEqDiff, if_true, if_false, reduceCtorEq, ↓reduceIte, true_and, and_true] <;> (and_intros <;> first | rfl | omega | assumption)))
        · have hpe : pk l q k = cheapR l k (q.getD k default) := rfl
          by_cases h5 : k < 6
          · have hno : ¬ buyOk l q := fun hb => by
              have := hb.2 k h5 (by omega); omega
            repeat' (first
    | ((with_reducible refine z_run ?_); (conv => whnf))
    | (with_reducible apply z_t)
    | (with_reducible apply z_f)
    | ((with_reducible apply z_b); ((intro h); (try simp only [beq_self_eq_true, eq_self, not_true_eq_false, not_false_eq_true, decide_true, cond_true, cond_false, Bool.not_true, Bool.not_false, Bool.not_eq_true', Bool.not_eq_false', Bool.and_eq_true, Bool.and_eq_false_imp, Bool.or_eq_true, Bool.or_eq_false_iff, decide_eq_true_eq, decide_eq_false_iff_not, Bool.false_eq_true, reduceCtorEq, Int.not_le, Int.not_lt, Decidable.not_not] at h)); rotate_left; ((intro h); (try simp only [beq_self_eq_true, eq_self, not_true_eq_false, not_false_eq_true, decide_true, cond_true, cond_false, Bool.not_true, Bool.not_false, Bool.not_eq_true', Bool.not_eq_false', Bool.and_eq_true, Bool.and_eq_false_imp, Bool.or_eq_true, Bool.or_eq_false_iff, decide_eq_true_eq, decide_eq_false_iff_not, Bool.false_eq_true, reduceCtorEq, Int.not_le, Int.not_lt, Decidable.not_not] at h)))
    | (with_reducible refine z_r ?_ ?_)
    | (with_reducible refine z_wg ?_ ?_)
    | (with_reducible refine z_w ?_ ?_)
    | ((with_reducible apply sh_nil); (intro _))
    | ((with_reducible apply sh_int); (intro _))
    | ((with_reducible apply sh_bool); (intro _))
    | ((with_reducible apply sh_sl); (intro _))
    | (with_reducible refine z_k (specCheapest _ hl _ _) ?_)
    | (with_reducible refine z_k (specStepsFor _ _ _ _) ?_)
    | ((with_reducible refine z_o ?zo ?_); (case zo => decide +kernel))
    | fail)
            all_goals ((try simp only [Int.toNat_natCast, tn1, tp1, List.length_map, eq_self, true_and, and_true] at *); (try simp (disch := omega) only [wr, Int.toNat_natCast, tn1, tp1, List.length_map, eq_self, true_and, and_true] at *))
            all_goals (first | omega | (refine z_e rfl ?_; simp only [fin, finP, finM, ids, nodupB, tupP, tupM, memN, List.length_cons, List.length_nil, List.nil_append, List.append_nil, List.cons_append, Nat.zero_add, Nat.reduceAdd, ne_eq, not_false_eq_true, eq_self, ev, Vq.look, List.map_cons, List.map_nil, and_true, true_and, Nat.reduceEqDiff, if_true, if_false, reduceCtorEq, ↓reduceIte]; rw [costR_no hno]))
          · have hk6 : k = 6 := by omega
            subst hk6
            have hyes : buyOk l q := ⟨hs, hI⟩
            repeat' (first
    | ((with_reducible refine z_run ?_); (conv => whnf))
    | (with_reducible apply z_t)
    | (with_reducible apply z_f)
    | ((with_reducible apply z_b); ((intro h); (try simp only [beq_self_eq_true, eq_self, not_true_eq_false, not_false_eq_true, decide_true, cond_true, cond_false, Bool.not_true, Bool.not_false, Bool.not_eq_true', Bool.not_eq_false', Bool.and_eq_true, Bool.and_eq_false_imp, Bool.or_eq_true, Bool.or_eq_false_iff, decide_eq_true_eq, decide_eq_false_iff_not, Bool.false_eq_true, reduceCtorEq, Int.not_le, Int.not_lt, Decidable.not_not] at h)); rotate_left; ((intro h); (try simp only [beq_self_eq_true, eq_self, not_true_eq_false, not_false_eq_true, decide_true, cond_true, cond_false, Bool.not_true, Bool.not_false, Bool.not_eq_true', Bool.not_eq_false', Bool.and_eq_true, Bool.and_eq_false_imp, Bool.or_eq_true, Bool.or_eq_false_iff, decide_eq_true_eq, decide_eq_false_iff_not, Bool.false_eq_true, reduceCtorEq, Int.not_le, Int.not_lt, Decidable.not_not] at h)))
    | (with_reducible refine z_r ?_ ?_)
    | (with_reducible refine z_wg ?_ ?_)
    | (with_reducible refine z_w ?_ ?_)
    | ((with_reducible apply sh_nil); (intro _))
    | ((with_reducible apply sh_int); (intro _))
    | ((with_reducible apply sh_bool); (intro _))
    | ((with_reducible apply sh_sl); (intro _))
    | (with_reducible refine z_k (specCheapest _ hl _ _) ?_)
    | (with_reducible refine z_k (specStepsFor _ _ _ _) ?_)
    | ((with_reducible refine z_o ?zo ?_); (case zo => decide +kernel))
    | fail)
            all_goals ((try simp only [Int.toNat_natCast, tn1, tp1, List.length_map, eq_self, true_and, and_true] at *); (try simp (disch := omega) only [wr, Int.toNat_natCast, tn1, tp1, List.length_map, eq_self, true_and, and_true] at *))
            all_goals (first | omega | (refine z_e rfl ?_; simp only [fin, finP, finM, ids, nodupB, tupP, tupM, memN, List.length_cons, List.length_nil, List.nil_append, List.append_nil, List.cons_append, Nat.zero_add, Nat.reduceAdd, ne_eq, not_false_eq_true, eq_self, ev, Vq.look, List.map_cons, List.map_nil, and_true, true_and, Nat.reduceEqDiff, if_true, if_false, reduceCtorEq, ↓reduceIte]; rw [costR_yes hyes]))
  · refine z_e rfl ?_; simp only [fin, finP, finM, ids, nodupB, tupP, tupM, memN, List.length_cons, List.length_nil, List.nil_append, List.append_nil, List.cons_append, Nat.zero_add, Nat.reduceAdd, ne_eq, not_false_eq_true, eq_self, ev, Vq.look, List.map_cons, List.map_nil, and_true, true_and, Nat.reduceEqDiff, if_true, if_false, reduceCtorEq, ↓reduceIte]; rw [costR_no (fun hb => absurd hb.1 (by assumption))]
theorem leftA_succ (l : List TOffer) (q : List Int) (k : Nat) : (List.range (k + 1)).map (leftA l q) = (List.range k).map (leftA l q) ++ [leftA l q k] := by simp [List.range_succ]
theorem specLeftAfter (l : List TOffer) (hl : l.length ≤ 1048576) (q : List Int) (hq : q.length ≤ 1048576) : FnC Try.prog 42 [(false, [.sq dOffer (l.map eOffer)]), (false, [.sq dI (q.map eI)])] (.one (.own 3 dI ((leftR l q).map eI))) := by
  have hc := specCostOf l hl q hq
  by_cases hy : buyOk l q
  · rw [costR_yes hy] at hc
    have hcb := costK_bd 6 hy.2
    have hs := hy.1
    have h6 := hs.1
    refine fn_z (ty := ty) (ts := [.tmp 4]) [0, 1, 4, 5, 6, 7, 8, 13, 16, 23] mixed ty_ok Try.func42 (by kernel_rfl) rfl (by kernel_rfl) (by kernel_rfl) rfl (.inl rfl) (Nat.le_of_ble_eq_true rfl) (by simp only [entry, entryV, C.toS, Nat.zero_add, Nat.reduceAdd, List.map_cons, List.map_nil]; exact rfl) ?_
    repeat' (first
    | ((with_reducible refine z_run ?_); (conv => whnf))
    | (with_reducible apply z_t)
    | (with_reducible apply z_f)
    | ((with_reducible apply z_b); ((intro h); (try simp only [beq_self_eq_true, eq_self, not_true_eq_false, not_false_eq_true, decide_true, cond_true, cond_false, Bool.not_true, Bool.not_false, Bool.not_eq_true', Bool.not_eq_false', Bool.and_eq_true, Bool.and_eq_false_imp, Bool.or_eq_true, Bool.or_eq_false_iff, decide_eq_true_eq, decide_eq_false_iff_not, Bool.false_eq_true, reduceCtorEq, Int.not_le, Int.not_lt, Decidable.not_not] at h)); rotate_left; ((intro h); (try simp only [beq_self_eq_true, eq_self, not_true_eq_false, not_false_eq_true, decide_true, cond_true, cond_false, Bool.not_true, Bool.not_false, Bool.not_eq_true', Bool.not_eq_false', Bool.and_eq_true, Bool.and_eq_false_imp, Bool.or_eq_true, Bool.or_eq_false_iff, decide_eq_true_eq, decide_eq_false_iff_not, Bool.false_eq_true, reduceCtorEq, Int.not_le, Int.not_lt, Decidable.not_not] at h)))
    | (with_reducible refine z_r ?_ ?_)
    | (with_reducible refine z_wg ?_ ?_)
    | (with_reducible refine z_w ?_ ?_)
    | ((with_reducible apply sh_nil); (intro _))
    | ((with_reducible apply sh_int); (intro _))
    | ((with_reducible apply sh_bool); (intro _))
    | ((with_reducible apply sh_sl); (intro _))
    | (with_reducible refine z_k hc ?_)
    | ((with_reducible refine z_o ?zo ?_); (case zo => decide +kernel))
    | fail)
    all_goals ((try simp only [Int.toNat_natCast, tn1, tp1, List.length_map, eq_self, true_and, and_true] at *); (try simp (disch := omega) only [wr, Int.toNat_natCast, tn1, tp1, List.length_map, eq_self, true_and, and_true] at *))
    · refine z_li (fun k => k ≤ 6) (0 : Nat) (fun k => 6 - k) (fun k => ⟨[(0, .one (.ro dOffer (l.map eOffer))), (1, .one (.ro dI (q.map eI))), (5, .one (.root 9)), (6, .one (.int .i64 k))], [(9, .row 3 dI (((List.range k).map (leftA l q)).map eI))]⟩) (by omega) ?_ ?_
      · simp only [List.length_map, fillTo_zero, Int.toNat_natCast, Option.isSome_some, and_self, fixB, Nat.reduceLeDiff, false_implies, true_implies, forall_const, St.le0, St.swaps, St.ren, mapV, renO, V.ren, Sc.ren, Ob.ren, swp, slsLe, obsLe, vLe, scLe, scsLe, obLe, Vq.look, Nat.reduceEqDiff, if_true, if_false, reduceCtorEq, ↓reduceIte, true_and, and_true] <;> (and_intros <;> first | rfl | omega | assumption)
      · intro k hk
        have hlen : ((List.range k).map (leftA l q)).length = k := by simp
        have hat : k < 6 → 0 ≤ q.getD k default ∧ q.getD k default ≤ 1000000 := fun h => all_getD.1 hs.2 k (by omega)
        have hpe : pk l q k = cheapR l k (q.getD k default) := rfl
        by_cases hp : k < 6 ∧ 0 < q.getD k default
        · have hp2 : 0 ≤ pk l q k := hy.2 k hp.1 (by omega)
          obtain ⟨hga, hsv, hlt, hmb, hcA⟩ := buy_bd hs hp.1 hp2
          have hsr : stepsR (l.getD (cheapR l k (q.getD k default)).toNat default).1 (l.getD (cheapR l k (q.getD k default)).toNat default).2.1 (l.getD (cheapR l k (q.getD k default)).toNat default).2.2 (q.getD k default) = stepsV (l.getD (pk l q k).toNat default).2.1 (q.getD k default) := by
            rw [stepsR, if_pos ⟨hga, hat hp.1⟩]; rfl
          repeat' (first
    | ((with_reducible refine z_run ?_); (conv => whnf))
    | (with_reducible apply z_t)
    | (with_reducible apply z_f)
    | ((with_reducible apply z_b); ((intro h); (try simp only [beq_self_eq_true, eq_self, not_true_eq_false, not_false_eq_true, decide_true, cond_true, cond_false, Bool.not_true, Bool.not_false, Bool.not_eq_true', Bool.not_eq_false', Bool.and_eq_true, Bool.and_eq_false_imp, Bool.or_eq_true, Bool.or_eq_false_iff, decide_eq_true_eq, decide_eq_false_iff_not, Bool.false_eq_true, reduceCtorEq, Int.not_le, Int.not_lt, Decidable.not_not] at h)); rotate_left; ((intro h); (try simp only [beq_self_eq_true, eq_self, not_true_eq_false, not_false_eq_true, decide_true, cond_true, cond_false, Bool.not_true, Bool.not_false, Bool.not_eq_true', Bool.not_eq_false', Bool.and_eq_true, Bool.and_eq_false_imp, Bool.or_eq_true, Bool.or_eq_false_iff, decide_eq_true_eq, decide_eq_false_iff_not, Bool.false_eq_true, reduceCtorEq, Int.not_le, Int.not_lt, Decidable.not_not] at h)))
    | (with_reducible refine z_r ?_ ?_)
    | (with_reducible refine z_wg ?_ ?_)
    | (with_reducible refine z_w ?_ ?_)
    | ((with_reducible apply sh_nil); (intro _))
    | ((with_reducible apply sh_int); (intro _))
    | ((with_reducible apply sh_bool); (intro _))
    | ((with_reducible apply sh_sl); (intro _))
    | (with_reducible refine z_k (specCheapest _ hl _ _) ?_)
    | (with_reducible refine z_k (specStepsFor _ _ _ _) ?_)
    | ((with_reducible refine z_o ?zo ?_); (case zo => decide +kernel))
    | fail)
          all_goals ((try simp only [Int.toNat_natCast, tn1, tp1, List.length_map, eq_self, true_and, and_true] at *); (try simp (disch := omega) only [wr, Int.toNat_natCast, tn1, tp1, List.length_map, eq_self, true_and, and_true] at *))
          all_goals (try simp only [hsr] at *)
          all_goals (first
            | (simp only [List.length_map, List.length_cons, List.length_nil, List.length_range]; omega)
            | omega
            | (refine z_n (k + 1) ⟨by omega, by omega⟩ ?_
               rw [leftA_succ, List.map_append, show leftA l q k = stepsV (l.getD (pk l q k).toNat default).2.1 (q.getD k default) * (l.getD (pk l q k).toNat default).2.1 - q.getD k default by rw [leftA, if_neg (by omega)]]
               simp only [List.length_map, fillTo_zero, Int.toNat_natCast, Option.isSome_some, and_self, fixB, Nat.reduceLeDiff, false_implies, true_implies, forall_const, St.le0, St.swaps, St.ren, mapV, renO, V.ren, Sc.ren, Ob.ren, swp, slsLe, obsLe, vLe, scLe, scsLe, obLe, Vq.look, Nat.reduceEqDiff, if_true, if_false, reduceCtorEq, ↓reduceIte, true_and, and_true, hpe] at *
               simp only [wr (x := stepsV (l.getD (cheapR l k (q.getD k default)).toNat default).2.1 (q.getD k default) * (l.getD (cheapR l k (q.getD k default)).toNat default).2.1) ⟨by omega, by omega⟩]
               rw [wr ⟨by omega, by omega⟩]
               and_intros <;> first | rfl | omega))
        · repeat' (first
    | ((with_reducible refine z_run ?_); (conv => whnf))
    | (with_reducible apply z_t)
    | (with_reducible apply z_f)
    | ((with_reducible apply z_b); ((intro h); (try simp only [beq_self_eq_true, eq_self, not_true_eq_false, not_false_eq_true, decide_true, cond_true, cond_false, Bool.not_true, Bool.not_false, Bool.not_eq_true', Bool.not_eq_false', Bool.and_eq_true, Bool.and_eq_false_imp, Bool.or_eq_true, Bool.or_eq_false_iff, decide_eq_true_eq, decide_eq_false_iff_not, Bool.false_eq_true, reduceCtorEq, Int.not_le, Int.not_lt, Decidable.not_not] at h)); rotate_left; ((intro h); (try simp only [beq_self_eq_true, eq_self, not_true_eq_false, not_false_eq_true, decide_true, cond_true, cond_false, Bool.not_true, Bool.not_false, Bool.not_eq_true', Bool.not_eq_false', Bool.and_eq_true, Bool.and_eq_false_imp, Bool.or_eq_true, Bool.or_eq_false_iff, decide_eq_true_eq, decide_eq_false_iff_not, Bool.false_eq_true, reduceCtorEq, Int.not_le, Int.not_lt, Decidable.not_not] at h)))
    | (with_reducible refine z_r ?_ ?_)
    | (with_reducible refine z_wg ?_ ?_)
    | (with_reducible refine z_w ?_ ?_)
    | ((with_reducible apply sh_nil); (intro _))
    | ((with_reducible apply sh_int); (intro _))
    | ((with_reducible apply sh_bool); (intro _))
    | ((with_reducible apply sh_sl); (intro _))
    | (with_reducible refine z_k (specCheapest _ hl _ _) ?_)
    | (with_reducible refine z_k (specStepsFor _ _ _ _) ?_)
    | ((with_reducible refine z_o ?zo ?_); (case zo => decide +kernel))
    | fail)
          all_goals ((try simp only [Int.toNat_natCast, tn1, tp1, List.length_map, eq_self, true_and, and_true] at *); (try simp (disch := omega) only [wr, Int.toNat_natCast, tn1, tp1, List.length_map, eq_self, true_and, and_true] at *))
          all_goals (first
            | (simp only [List.length_map, List.length_cons, List.length_nil, List.length_range]; omega)
            | omega
            | (refine z_e rfl ?_; simp only [fin, finP, finM, ids, nodupB, tupP, tupM, memN, List.length_cons, List.length_nil, List.nil_append, List.append_nil, List.cons_append, Nat.zero_add, Nat.reduceAdd, ne_eq, not_false_eq_true, eq_self, ev, Vq.look, List.map_cons, List.map_nil, and_true, true_and, Nat.reduceEqDiff, if_true, if_false, reduceCtorEq, ↓reduceIte]; rw [leftR_yes hy, show k = 6 by omega])
            | (refine z_n (k + 1) ⟨by omega, by omega⟩ ?_
               rw [leftA_succ, List.map_append, show leftA l q k = 0 by rw [leftA, if_pos (by omega)]]
               simp only [List.length_map, fillTo_zero, Int.toNat_natCast, Option.isSome_some, and_self, fixB, Nat.reduceLeDiff, false_implies, true_implies, forall_const, St.le0, St.swaps, St.ren, mapV, renO, V.ren, Sc.ren, Ob.ren, swp, slsLe, obsLe, vLe, scLe, scsLe, obLe, Vq.look, Nat.reduceEqDiff, if_true, if_false, reduceCtorEq, ↓reduceIte, true_and, and_true] <;> (and_intros <;> first | rfl | omega | assumption)))
    all_goals (first | omega | (refine z_e rfl ?_; simp only [fin, finP, finM, ids, nodupB, tupP, tupM, memN, List.length_cons, List.length_nil, List.nil_append, List.append_nil, List.cons_append, Nat.zero_add, Nat.reduceAdd, ne_eq, not_false_eq_true, eq_self, ev, Vq.look, List.map_cons, List.map_nil, and_true, true_and, Nat.reduceEqDiff, if_true, if_false, reduceCtorEq, ↓reduceIte]; omega))
  · rw [costR_no hy] at hc
    refine fn_z (ty := ty) (ts := [.tmp 4]) [0, 1, 4, 5, 6, 7, 8, 13, 16, 23] mixed ty_ok Try.func42 (by kernel_rfl) rfl (by kernel_rfl) (by kernel_rfl) rfl (.inl rfl) (Nat.le_of_ble_eq_true rfl) (by simp only [entry, entryV, C.toS, Nat.zero_add, Nat.reduceAdd, List.map_cons, List.map_nil]; exact rfl) ?_
    repeat' (first
    | ((with_reducible refine z_run ?_); (conv => whnf))
    | (with_reducible apply z_t)
    | (with_reducible apply z_f)
    | ((with_reducible apply z_b); ((intro h); (try simp only [beq_self_eq_true, eq_self, not_true_eq_false, not_false_eq_true, decide_true, cond_true, cond_false, Bool.not_true, Bool.not_false, Bool.not_eq_true', Bool.not_eq_false', Bool.and_eq_true, Bool.and_eq_false_imp, Bool.or_eq_true, Bool.or_eq_false_iff, decide_eq_true_eq, decide_eq_false_iff_not, Bool.false_eq_true, reduceCtorEq, Int.not_le, Int.not_lt, Decidable.not_not] at h)); rotate_left; ((intro h); (try simp only [beq_self_eq_true, eq_self, not_true_eq_false, not_false_eq_true, decide_true, cond_true, cond_false, Bool.not_true, Bool.not_false, Bool.not_eq_true', Bool.not_eq_false', Bool.and_eq_true, Bool.and_eq_false_imp, Bool.or_eq_true, Bool.or_eq_false_iff, decide_eq_true_eq, decide_eq_false_iff_not, Bool.false_eq_true, reduceCtorEq, Int.not_le, Int.not_lt, Decidable.not_not] at h)))
    | (with_reducible refine z_r ?_ ?_)
    | (with_reducible refine z_wg ?_ ?_)
    | (with_reducible refine z_w ?_ ?_)
    | ((with_reducible apply sh_nil); (intro _))
    | ((with_reducible apply sh_int); (intro _))
    | ((with_reducible apply sh_bool); (intro _))
    | ((with_reducible apply sh_sl); (intro _))
    | (with_reducible refine z_k hc ?_)
    | ((with_reducible refine z_o ?zo ?_); (case zo => decide +kernel))
    | fail)
    all_goals ((try simp only [Int.toNat_natCast, tn1, tp1, List.length_map, eq_self, true_and, and_true] at *); (try simp (disch := omega) only [wr, Int.toNat_natCast, tn1, tp1, List.length_map, eq_self, true_and, and_true] at *))
    all_goals (first | omega | (refine z_e rfl ?_; simp only [fin, finP, finM, ids, nodupB, tupP, tupM, memN, List.length_cons, List.length_nil, List.nil_append, List.append_nil, List.cons_append, Nat.zero_add, Nat.reduceAdd, ne_eq, not_false_eq_true, eq_self, ev, Vq.look, List.map_cons, List.map_nil, and_true, true_and, Nat.reduceEqDiff, if_true, if_false, reduceCtorEq, ↓reduceIte]; rw [leftR_no hy]; rfl))
theorem leftR_len (l : List TOffer) (q : List Int) : (leftR l q).length ≤ 6 := by unfold leftR; split <;> simp
end Go.Proofs.Ytloeibdplgcgbaa
