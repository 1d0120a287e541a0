/- Contracts of the functions on offers and stocks. No conditions. -/
import Derived.Test.YtloeibdplgcgbaaStockM
import Derived.Test.YtloeibdplgcgbaaInts
namespace Go.Proofs.Ytloeibdplgcgbaa
open Go.Vq
set_option linter.unusedSimpArgs false
set_option maxHeartbeats 1000000
theorem isColor_fn (a : Int) : FnC Try.prog 45 [(false, [.int .i64 a])] (.one (.bool (decide (0 ≤ a ∧ a ≤ 5)))) := by
  refine fn_z (ty := ty) (ts := [.tmp 2]) [0, 2] mixed ty_ok Try.func45 (by kernel_rfl) rfl (by kernel_rfl) (by kernel_rfl) rfl (.inl rfl) (Nat.le_of_ble_eq_true rfl) (by simp only [entry, entryV, C.toS, Nat.zero_add, Nat.reduceAdd, List.map_cons, List.map_nil]; exact rfl) ?_
  repeat' (first
    | ((with_reducible refine z_run ?_); (conv => whnf))
    | (with_reducible apply z_t)
    | (with_reducible apply z_f)
    | ((with_reducible apply z_b); ((intro h); (try simp only [beq_self_eq_true, eq_self, not_true_eq_false, not_false_eq_true, decide_true, cond_true, cond_false, Bool.not_true, Bool.not_false, Bool.not_eq_true', Bool.not_eq_false', Bool.and_eq_true, Bool.and_eq_false_imp, Bool.or_eq_true, Bool.or_eq_false_iff, decide_eq_true_eq, decide_eq_false_iff_not, Bool.false_eq_true, reduceCtorEq, Int.not_le, Int.not_lt, Decidable.not_not] at h)); rotate_left; ((intro h); (try simp only [beq_self_eq_true, eq_self, not_true_eq_false, not_false_eq_true, decide_true, cond_true, cond_false, Bool.not_true, Bool.not_false, Bool.not_eq_true', Bool.not_eq_false', Bool.and_eq_true, Bool.and_eq_false_imp, Bool.or_eq_true, Bool.or_eq_false_iff, decide_eq_true_eq, decide_eq_false_iff_not, Bool.false_eq_true, reduceCtorEq, Int.not_le, Int.not_lt, Decidable.not_not] at h)))
    | (with_reducible refine z_r ?_ ?_)
    | (with_reducible refine z_wg ?_ ?_)
    | (with_reducible refine z_w ?_ ?_)
    | ((with_reducible apply sh_nil); (intro _))
    | ((with_reducible apply sh_int); (intro _))
    | ((with_reducible apply sh_bool); (intro _))
    | ((with_reducible apply sh_sl); (intro _))
    | (with_reducible refine z_k (within_fn _ _ _) ?_)
    | ((with_reducible refine z_o ?zo ?_); (case zo => decide +kernel))
    | fail)
  refine z_e rfl ?_; simp only [fin, finP, finM, ids, nodupB, tupP, tupM, memN, List.length_cons, List.length_nil, List.nil_append, List.append_nil, List.cons_append, Nat.zero_add, Nat.reduceAdd, ne_eq, not_false_eq_true, eq_self, ev, Vq.look, List.map_cons, List.map_nil, and_true, true_and, Nat.reduceEqDiff, if_true, if_false, reduceCtorEq, ↓reduceIte]
theorem implOfferOk (c s p : Int) : FnC Try.prog 14 [(true, [.int .i64 c, .int .i64 s, .int .i64 p])] (.one (.bool (decide (goodO c s p)))) := by
  refine fn_z (ty := ty) (ts := [.tmp 2]) [0, 1, 2] mixed ty_ok Try.func14 (by kernel_rfl) rfl (by kernel_rfl) (by kernel_rfl) rfl (.inl rfl) (Nat.le_of_ble_eq_true rfl) (by simp only [entry, entryV, C.toS, Nat.zero_add, Nat.reduceAdd, List.map_cons, List.map_nil]; exact rfl) ?_
  repeat' (first
    | ((with_reducible refine z_run ?_); (conv => whnf))
    | (with_reducible apply z_t)
    | (with_reducible apply z_f)
    | ((with_reducible apply z_b); ((intro h); (try simp only [beq_self_eq_true, eq_self, not_true_eq_false, not_false_eq_true, decide_true, cond_true, cond_false, Bool.not_true, Bool.not_false, Bool.not_eq_true', Bool.not_eq_false', Bool.and_eq_true, Bool.and_eq_false_imp, Bool.or_eq_true, Bool.or_eq_false_iff, decide_eq_true_eq, decide_eq_false_iff_not, Bool.false_eq_true, reduceCtorEq, Int.not_le, Int.not_lt, Decidable.not_not] at h)); rotate_left; ((intro h); (try simp only [beq_self_eq_true, eq_self, not_true_eq_false, not_false_eq_true, decide_true, cond_true, cond_false, Bool.not_true, Bool.not_false, Bool.not_eq_true', Bool.not_eq_false', Bool.and_eq_true, Bool.and_eq_false_imp, Bool.or_eq_true, Bool.or_eq_false_iff, decide_eq_true_eq, decide_eq_false_iff_not, Bool.false_eq_true, reduceCtorEq, Int.not_le, Int.not_lt, Decidable.not_not] at h)))
    | (with_reducible refine z_r ?_ ?_)
    | (with_reducible refine z_wg ?_ ?_)
    | (with_reducible refine z_w ?_ ?_)
    | ((with_reducible apply sh_nil); (intro _))
    | ((with_reducible apply sh_int); (intro _))
    | ((with_reducible apply sh_bool); (intro _))
    | ((with_reducible apply sh_sl); (intro _))
    | (with_reducible refine z_k (isColor_fn _) ?_)
    | (with_reducible refine z_k (within_fn _ _ _) ?_)
    | ((with_reducible refine z_o ?zo ?_); (case zo => decide +kernel))
    | fail)
  all_goals (refine z_e rfl ?_; simp only [fin, finP, finM, ids, nodupB, tupP, tupM, memN, List.length_cons, List.length_nil, List.nil_append, List.append_nil, List.cons_append, Nat.zero_add, Nat.reduceAdd, ne_eq, not_false_eq_true, eq_self, ev, Vq.look, List.map_cons, List.map_nil, and_true, true_and, Nat.reduceEqDiff, if_true, if_false, reduceCtorEq, ↓reduceIte]; unfold goodO; simp [*])
theorem specOfferOk (c s p : Int) : FnC Try.prog 12 [(true, [.int .i64 c, .int .i64 s, .int .i64 p])] (.one (.bool (decide (goodO c s p)))) := by
  refine fn_z (ty := ty) (ts := [.tmp 2]) [0, 1, 2] mixed ty_ok Try.func12 (by kernel_rfl) rfl (by kernel_rfl) (by kernel_rfl) rfl (.inl rfl) (Nat.le_of_ble_eq_true rfl) (by simp only [entry, entryV, C.toS, Nat.zero_add, Nat.reduceAdd, List.map_cons, List.map_nil]; exact rfl) ?_
  repeat' (first
    | ((with_reducible refine z_run ?_); (conv => whnf))
    | (with_reducible apply z_t)
    | (with_reducible apply z_f)
    | ((with_reducible apply z_b); ((intro h); (try simp only [beq_self_eq_true, eq_self, not_true_eq_false, not_false_eq_true, decide_true, cond_true, cond_false, Bool.not_true, Bool.not_false, Bool.not_eq_true', Bool.not_eq_false', Bool.and_eq_true, Bool.and_eq_false_imp, Bool.or_eq_true, Bool.or_eq_false_iff, decide_eq_true_eq, decide_eq_false_iff_not, Bool.false_eq_true, reduceCtorEq, Int.not_le, Int.not_lt, Decidable.not_not] at h)); rotate_left; ((intro h); (try simp only [beq_self_eq_true, eq_self, not_true_eq_false, not_false_eq_true, decide_true, cond_true, cond_false, Bool.not_true, Bool.not_false, Bool.not_eq_true', Bool.not_eq_false', Bool.and_eq_true, Bool.and_eq_false_imp, Bool.or_eq_true, Bool.or_eq_false_iff, decide_eq_true_eq, decide_eq_false_iff_not, Bool.false_eq_true, reduceCtorEq, Int.not_le, Int.not_lt, Decidable.not_not] at h)))
    | (with_reducible refine z_r ?_ ?_)
    | (with_reducible refine z_wg ?_ ?_)
    | (with_reducible refine z_w ?_ ?_)
    | ((with_reducible apply sh_nil); (intro _))
    | ((with_reducible apply sh_int); (intro _))
    | ((with_reducible apply sh_bool); (intro _))
    | ((with_reducible apply sh_sl); (intro _))
    | (with_reducible refine z_k (in_fn _ _ _) ?_)
    | ((with_reducible refine z_o ?zo ?_); (case zo => decide +kernel))
    | fail)
  all_goals (refine z_e rfl ?_; simp only [fin, finP, finM, ids, nodupB, tupP, tupM, memN, List.length_cons, List.length_nil, List.nil_append, List.append_nil, List.cons_append, Nat.zero_add, Nat.reduceAdd, ne_eq, not_false_eq_true, eq_self, ev, Vq.look, List.map_cons, List.map_nil, and_true, true_and, Nat.reduceEqDiff, if_true, if_false, reduceCtorEq, ↓reduceIte]; unfold goodO; simp [*])
theorem up_fn (a b : Int) (hb : 1 ≤ b ∧ b ≤ 1000000) (ha : 0 ≤ a ∧ a ≤ 1000000000) : FnC Try.prog 47 [(false, [.int .i64 a]), (false, [.int .i64 b])] (.one (.int .i64 ((a + b - 1) / b))) := by
  refine fn_z (ty := ty) (ts := [.tmp 4]) [0, 1, 4] mixed ty_ok Try.func47 (by kernel_rfl) rfl (by kernel_rfl) (by kernel_rfl) rfl (.inl rfl) (Nat.le_of_ble_eq_true rfl) (by simp only [entry, entryV, C.toS, Nat.zero_add, Nat.reduceAdd, List.map_cons, List.map_nil]; exact rfl) ?_
  repeat' (first
    | ((with_reducible refine z_run ?_); (conv => whnf))
    | (with_reducible apply z_t)
    | (with_reducible apply z_f)
    | ((with_reducible apply z_b); ((intro h); (try simp only [beq_self_eq_true, eq_self, not_true_eq_false, not_false_eq_true, decide_true, cond_true, cond_false, Bool.not_true, Bool.not_false, Bool.not_eq_true', Bool.not_eq_false', Bool.and_eq_true, Bool.and_eq_false_imp, Bool.or_eq_true, Bool.or_eq_false_iff, decide_eq_true_eq, decide_eq_false_iff_not, Bool.false_eq_true, reduceCtorEq, Int.not_le, Int.not_lt, Decidable.not_not] at h)); rotate_left; ((intro h); (try simp only [beq_self_eq_true, eq_self, not_true_eq_false, not_false_eq_true, decide_true, cond_true, cond_false, Bool.not_true, Bool.not_false, Bool.not_eq_true', Bool.not_eq_false', Bool.and_eq_true, Bool.and_eq_false_imp, Bool.or_eq_true, Bool.or_eq_false_iff, decide_eq_true_eq, decide_eq_false_iff_not, Bool.false_eq_true, reduceCtorEq, Int.not_le, Int.not_lt, Decidable.not_not] at h)))
    | (with_reducible refine z_r ?_ ?_)
    | (with_reducible refine z_wg ?_ ?_)
    | (with_reducible refine z_w ?_ ?_)
    | ((with_reducible apply sh_nil); (intro _))
    | ((with_reducible apply sh_int); (intro _))
    | ((with_reducible apply sh_bool); (intro _))
    | ((with_reducible apply sh_sl); (intro _))
    | ((with_reducible refine z_o ?zo ?_); (case zo => decide +kernel))
    | fail)
  all_goals ((try simp only [Int.toNat_natCast, tn1, tp1, List.length_map, eq_self, true_and, and_true] at *); (try simp (disch := omega) only [wr, Int.toNat_natCast, tn1, tp1, List.length_map, eq_self, true_and, and_true] at *))
  · refine z_e rfl ?_; simp only [fin, finP, finM, ids, nodupB, tupP, tupM, memN, List.length_cons, List.length_nil, List.nil_append, List.append_nil, List.cons_append, Nat.zero_add, Nat.reduceAdd, ne_eq, not_false_eq_true, eq_self, ev, Vq.look, List.map_cons, List.map_nil, and_true, true_and, Nat.reduceEqDiff, if_true, if_false, reduceCtorEq, ↓reduceIte]; rw [tdiv_pos (by omega)]
    have h1 : 0 ≤ (a + b - 1) / b := Int.ediv_nonneg (by omega) (by omega)
    have h2 : (a + b - 1) / b ≤ a + b - 1 := Int.ediv_le_self _ (by omega)
    exact wr ⟨by omega, by omega⟩
  · omega
theorem implStepsFor (c s p n : Int) : FnC Try.prog 16 [(true, [.int .i64 c, .int .i64 s, .int .i64 p]), (false, [.int .i64 n])] (.one (.int .i64 (stepsR c s p n))) := by
  refine fn_z (ty := ty) (ts := [.tmp 4]) [0, 1, 2, 4, 12] mixed ty_ok Try.func16 (by kernel_rfl) rfl (by kernel_rfl) (by kernel_rfl) rfl (.inl rfl) (Nat.le_of_ble_eq_true rfl) (by simp only [entry, entryV, C.toS, Nat.zero_add, Nat.reduceAdd, List.map_cons, List.map_nil]; exact rfl) ?_
  repeat' (first
    | ((with_reducible refine z_run ?_); (conv => whnf))
    | (with_reducible apply z_t)
    | (with_reducible apply z_f)
    | ((with_reducible apply z_b); ((intro h); (try simp only [beq_self_eq_true, eq_self, not_true_eq_false, not_false_eq_true, decide_true, cond_true, cond_false, Bool.not_true, Bool.not_false, Bool.not_eq_true', Bool.not_eq_false', Bool.and_eq_true, Bool.and_eq_false_imp, Bool.or_eq_true, Bool.or_eq_false_iff, decide_eq_true_eq, decide_eq_false_iff_not, Bool.false_eq_true, reduceCtorEq, Int.not_le, Int.not_lt, Decidable.not_not] at h)); rotate_left; ((intro h); (try simp only [beq_self_eq_true, eq_self, not_true_eq_false, not_false_eq_true, decide_true, cond_true, cond_false, Bool.not_true, Bool.not_false, Bool.not_eq_true', Bool.not_eq_false', Bool.and_eq_true, Bool.and_eq_false_imp, Bool.or_eq_true, Bool.or_eq_false_iff, decide_eq_true_eq, decide_eq_false_iff_not, Bool.false_eq_true, reduceCtorEq, Int.not_le, Int.not_lt, Decidable.not_not] at h)))
    | (with_reducible refine z_r ?_ ?_)
    | (with_reducible refine z_wg ?_ ?_)
    | (with_reducible refine z_w ?_ ?_)
    | ((with_reducible apply sh_nil); (intro _))
    | ((with_reducible apply sh_int); (intro _))
    | ((with_reducible apply sh_bool); (intro _))
    | ((with_reducible apply sh_sl); (intro _))
    | (with_reducible refine z_k (implOfferOk _ _ _) ?_)
    | (with_reducible refine z_k (within_fn _ _ _) ?_)
    | (with_reducible refine z_k (up_fn _ _ (by rename_i hq; unfold goodO at hq; omega) (by omega)) ?_)
    | ((with_reducible refine z_o ?zo ?_); (case zo => decide +kernel))
    | fail)
  · refine z_e rfl ?_; simp only [fin, finP, finM, ids, nodupB, tupP, tupM, memN, List.length_cons, List.length_nil, List.nil_append, List.append_nil, List.cons_append, Nat.zero_add, Nat.reduceAdd, ne_eq, not_false_eq_true, eq_self, ev, Vq.look, List.map_cons, List.map_nil, and_true, true_and, Nat.reduceEqDiff, if_true, if_false, reduceCtorEq, ↓reduceIte]
    rename_i hq
    rw [stepsR, if_pos ⟨hq, h⟩]; rfl
  all_goals (refine z_e rfl ?_; simp only [fin, finP, finM, ids, nodupB, tupP, tupM, memN, List.length_cons, List.length_nil, List.nil_append, List.append_nil, List.cons_append, Nat.zero_add, Nat.reduceAdd, ne_eq, not_false_eq_true, eq_self, ev, Vq.look, List.map_cons, List.map_nil, and_true, true_and, Nat.reduceEqDiff, if_true, if_false, reduceCtorEq, ↓reduceIte]; rw [stepsR, if_neg]; intro hq; first | exact h hq.2 | exact h hq.1)
theorem specStepsFor (c s p n : Int) : FnC Try.prog 15 [(true, [.int .i64 c, .int .i64 s, .int .i64 p]), (false, [.int .i64 n])] (.one (.int .i64 (stepsR c s p n))) := by
  refine fn_z (ty := ty) (ts := [.tmp 4]) [0, 1, 2, 4, 12] mixed ty_ok Try.func15 (by kernel_rfl) rfl (by kernel_rfl) (by kernel_rfl) rfl (.inl rfl) (Nat.le_of_ble_eq_true rfl) (by simp only [entry, entryV, C.toS, Nat.zero_add, Nat.reduceAdd, List.map_cons, List.map_nil]; exact rfl) ?_
  repeat' (first
    | ((with_reducible refine z_run ?_); (conv => whnf))
    | (with_reducible apply z_t)
    | (with_reducible apply z_f)
    | ((with_reducible apply z_b); ((intro h); (try simp only [beq_self_eq_true, eq_self, not_true_eq_false, not_false_eq_true, decide_true, cond_true, cond_false, Bool.not_true, Bool.not_false, Bool.not_eq_true', Bool.not_eq_false', Bool.and_eq_true, Bool.and_eq_false_imp, Bool.or_eq_true, Bool.or_eq_false_iff, decide_eq_true_eq, decide_eq_false_iff_not, Bool.false_eq_true, reduceCtorEq, Int.not_le, Int.not_lt, Decidable.not_not] at h)); rotate_left; ((intro h); (try simp only [beq_self_eq_true, eq_self, not_true_eq_false, not_false_eq_true, decide_true, cond_true, cond_false, Bool.not_true, Bool.not_false, Bool.not_eq_true', Bool.not_eq_false', Bool.and_eq_true, Bool.and_eq_false_imp, Bool.or_eq_true, Bool.or_eq_false_iff, decide_eq_true_eq, decide_eq_false_iff_not, Bool.false_eq_true, reduceCtorEq, Int.not_le, Int.not_lt, Decidable.not_not] at h)))
    | (with_reducible refine z_r ?_ ?_)
    | (with_reducible refine z_wg ?_ ?_)
    | (with_reducible refine z_w ?_ ?_)
    | ((with_reducible apply sh_nil); (intro _))
    | ((with_reducible apply sh_int); (intro _))
    | ((with_reducible apply sh_bool); (intro _))
    | ((with_reducible apply sh_sl); (intro _))
    | (with_reducible refine z_k (specOfferOk _ _ _) ?_)
    | (with_reducible refine z_k (in_fn _ _ _) ?_)
    | ((with_reducible refine z_o ?zo ?_); (case zo => decide +kernel))
    | fail)
  · refine z_e rfl ?_; simp only [fin, finP, finM, ids, nodupB, tupP, tupM, memN, List.length_cons, List.length_nil, List.nil_append, List.append_nil, List.cons_append, Nat.zero_add, Nat.reduceAdd, ne_eq, not_false_eq_true, eq_self, ev, Vq.look, List.map_cons, List.map_nil, and_true, true_and, Nat.reduceEqDiff, if_true, if_false, reduceCtorEq, ↓reduceIte]
    rename_i hq
    rw [stepsR, if_pos ⟨hq, h⟩]
    unfold goodO at hq
    have hb := stepsV_bd hq.2.1 h
    unfold stepsV at hb ⊢
    rw [wr (x := n + s) ⟨by omega, by omega⟩, wr (x := n + s - 1) ⟨by omega, by omega⟩, tdiv_pos (by omega)]
    exact wr ⟨by omega, by omega⟩
  · rename_i hq
    unfold goodO at hq; omega
  all_goals (refine z_e rfl ?_; simp only [fin, finP, finM, ids, nodupB, tupP, tupM, memN, List.length_cons, List.length_nil, List.nil_append, List.append_nil, List.cons_append, Nat.zero_add, Nat.reduceAdd, ne_eq, not_false_eq_true, eq_self, ev, Vq.look, List.map_cons, List.map_nil, and_true, true_and, Nat.reduceEqDiff, if_true, if_false, reduceCtorEq, ↓reduceIte]; rw [stepsR, if_neg]; intro hq; first | exact h hq.2 | exact h hq.1)
theorem implStockOk (s : List Int) (hl : s.length ≤ 2097152) : FnC Try.prog 37 [(false, [.sq dI (s.map eI)])] (.one (.bool (decide (stockGood s)))) := by
  refine fn_z (ty := ty) (ts := [.tmp 2]) [0, 2] mixed ty_ok Try.func37 (by kernel_rfl) rfl (by kernel_rfl) (by kernel_rfl) rfl (.inl rfl) (Nat.le_of_ble_eq_true rfl) (by simp only [entry, entryV, C.toS, Nat.zero_add, Nat.reduceAdd, List.map_cons, List.map_nil]; exact rfl) ?_
  repeat' (first
    | ((with_reducible refine z_run ?_); (conv => whnf))
    | (with_reducible apply z_t)
    | (with_reducible apply z_f)
    | ((with_reducible apply z_b); ((intro h); (try simp only [beq_self_eq_true, eq_self, not_true_eq_false, not_false_eq_true, decide_true, cond_true, cond_false, Bool.not_true, Bool.not_false, Bool.not_eq_true', Bool.not_eq_false', Bool.and_eq_true, Bool.and_eq_false_imp, Bool.or_eq_true, Bool.or_eq_false_iff, decide_eq_true_eq, decide_eq_false_iff_not, Bool.false_eq_true, reduceCtorEq, Int.not_le, Int.not_lt, Decidable.not_not] at h)); rotate_left; ((intro h); (try simp only [beq_self_eq_true, eq_self, not_true_eq_false, not_false_eq_true, decide_true, cond_true, cond_false, Bool.not_true, Bool.not_false, Bool.not_eq_true', Bool.not_eq_false', Bool.and_eq_true, Bool.and_eq_false_imp, Bool.or_eq_true, Bool.or_eq_false_iff, decide_eq_true_eq, decide_eq_false_iff_not, Bool.false_eq_true, reduceCtorEq, Int.not_le, Int.not_lt, Decidable.not_not] at h)))
    | (with_reducible refine z_r ?_ ?_)
    | (with_reducible refine z_wg ?_ ?_)
    | (with_reducible refine z_w ?_ ?_)
    | ((with_reducible apply sh_nil); (intro _))
    | ((with_reducible apply sh_int); (intro _))
    | ((with_reducible apply sh_bool); (intro _))
    | ((with_reducible apply sh_sl); (intro _))
    | (with_reducible refine z_k (allWithin_fn _ _ _ hl) ?_)
    | ((with_reducible refine z_o ?zo ?_); (case zo => decide +kernel))
    | fail)
  all_goals ((try simp only [Int.toNat_natCast, tn1, tp1, List.length_map, eq_self, true_and, and_true] at *); (try simp (disch := omega) only [wr, Int.toNat_natCast, tn1, tp1, List.length_map, eq_self, true_and, and_true] at *))
  all_goals (refine z_e rfl ?_; simp only [fin, finP, finM, ids, nodupB, tupP, tupM, memN, List.length_cons, List.length_nil, List.nil_append, List.append_nil, List.cons_append, Nat.zero_add, Nat.reduceAdd, ne_eq, not_false_eq_true, eq_self, ev, Vq.look, List.map_cons, List.map_nil, and_true, true_and, Nat.reduceEqDiff, if_true, if_false, reduceCtorEq, ↓reduceIte]; unfold stockGood)
  · refine (decide_eq_false fun hq => ?_).symm; omega
  · have : s.length = 6 := by omega
    simp [this]
theorem specStockOk (s : List Int) (hl : s.length ≤ 2097152) : FnC Try.prog 49 [(false, [.sq dI (s.map eI)])] (.one (.bool (decide (stockGood s)))) := by
  refine fn_z (ty := ty) (ts := [.tmp 2]) [0, 2, 3, 7, 15] mixed ty_ok Try.func49 (by kernel_rfl) rfl (by kernel_rfl) (by kernel_rfl) rfl (.inl rfl) (Nat.le_of_ble_eq_true rfl) (by simp only [entry, entryV, C.toS, Nat.zero_add, Nat.reduceAdd, List.map_cons, List.map_nil]; exact rfl) ?_
  repeat' (first
    | ((with_reducible refine z_run ?_); (conv => whnf))
    | (with_reducible apply z_t)
    | (with_reducible apply z_f)
    | ((with_reducible apply z_b); ((intro h); (try simp only [beq_self_eq_true, eq_self, not_true_eq_false, not_false_eq_true, decide_true, cond_true, cond_false, Bool.not_true, Bool.not_false, Bool.not_eq_true', Bool.not_eq_false', Bool.and_eq_true, Bool.and_eq_false_imp, Bool.or_eq_true, Bool.or_eq_false_iff, decide_eq_true_eq, decide_eq_false_iff_not, Bool.false_eq_true, reduceCtorEq, Int.not_le, Int.not_lt, Decidable.not_not] at h)); rotate_left; ((intro h); (try simp only [beq_self_eq_true, eq_self, not_true_eq_false, not_false_eq_true, decide_true, cond_true, cond_false, Bool.not_true, Bool.not_false, Bool.not_eq_true', Bool.not_eq_false', Bool.and_eq_true, Bool.and_eq_false_imp, Bool.or_eq_true, Bool.or_eq_false_iff, decide_eq_true_eq, decide_eq_false_iff_not, Bool.false_eq_true, reduceCtorEq, Int.not_le, Int.not_lt, Decidable.not_not] at h)))
    | (with_reducible refine z_r ?_ ?_)
    | (with_reducible refine z_wg ?_ ?_)
    | (with_reducible refine z_w ?_ ?_)
    | ((with_reducible apply sh_nil); (intro _))
    | ((with_reducible apply sh_int); (intro _))
    | ((with_reducible apply sh_bool); (intro _))
    | ((with_reducible apply sh_sl); (intro _))
    | ((with_reducible refine z_o ?zo ?_); (case zo => decide +kernel))
    | fail)
  refine z_li (fun k => k ≤ s.length ∧ ∀ i, i < k → 0 ≤ s.getD i default ∧ s.getD i default ≤ 1000000) (0 : Nat) (fun k => s.length - k) (fun k => ⟨[(0, .one (.ro dI (s.map eI))), (3, .one (.int .i64 k))], []⟩) ⟨by omega, by omega⟩ ?_ ?_
  · simp only [List.length_map, fillTo_zero, Int.toNat_natCast, Option.isSome_some, and_self, fixB, Nat.reduceLeDiff, false_implies, true_implies, forall_const, St.le0, St.swaps, St.ren, mapV, renO, V.ren, Sc.ren, Ob.ren, swp, slsLe, obsLe, vLe, scLe, scsLe, obLe, Vq.look, Nat.reduceEqDiff, if_true, if_false, reduceCtorEq, ↓reduceIte, true_and, and_true] <;> (and_intros <;> first | rfl | omega | assumption)
  · intro k ⟨hk, hI⟩
    repeat' (first
    | ((with_reducible refine z_run ?_); (conv => whnf))
    | (with_reducible apply z_t)
    | (with_reducible apply z_f)
    | ((with_reducible apply z_b); ((intro h); (try simp only [beq_self_eq_true, eq_self, not_true_eq_false, not_false_eq_true, decide_true, cond_true, cond_false, Bool.not_true, Bool.not_false, Bool.not_eq_true', Bool.not_eq_false', Bool.and_eq_true, Bool.and_eq_false_imp, Bool.or_eq_true, Bool.or_eq_false_iff, decide_eq_true_eq, decide_eq_false_iff_not, Bool.false_eq_true, reduceCtorEq, Int.not_le, Int.not_lt, Decidable.not_not] at h)); rotate_left; ((intro h); (try simp only [beq_self_eq_true, eq_self, not_true_eq_false, not_false_eq_true, decide_true, cond_true, cond_false, Bool.not_true, Bool.not_false, Bool.not_eq_true', Bool.not_eq_false', Bool.and_eq_true, Bool.and_eq_false_imp, Bool.or_eq_true, Bool.or_eq_false_iff, decide_eq_true_eq, decide_eq_false_iff_not, Bool.false_eq_true, reduceCtorEq, Int.not_le, Int.not_lt, Decidable.not_not] at h)))
    | (with_reducible refine z_r ?_ ?_)
    | (with_reducible refine z_wg ?_ ?_)
    | (with_reducible refine z_w ?_ ?_)
    | ((with_reducible apply sh_nil); (intro _))
    | ((with_reducible apply sh_int); (intro _))
    | ((with_reducible apply sh_bool); (intro _))
    | ((with_reducible apply sh_sl); (intro _))
    | (with_reducible refine z_k (in_fn _ _ _) ?_)
    | ((with_reducible refine z_o ?zo ?_); (case zo => decide +kernel))
    | fail)
    all_goals ((try simp only [Int.toNat_natCast, tn1, tp1, List.length_map, eq_self, true_and, and_true] at *); (try simp (disch := omega) only [wr, Int.toNat_natCast, tn1, tp1, List.length_map, eq_self, true_and, and_true] at *))
    all_goals (first
      | omega
      | (refine z_n (k + 1) ⟨⟨by omega, all_succ hI (by assumption)⟩, by omega⟩ ?_; simp only [List.length_map, fillTo_zero, Int.toNat_natCast, Option.isSome_some, and_self, fixB, Nat.reduceLeDiff, false_implies, true_implies, forall_const, St.le0, St.swaps, St.ren, mapV, renO, V.ren, Sc.ren, Ob.ren, swp, slsLe, obsLe, vLe, scLe, scsLe, obLe, Vq.look, Nat.reduceEqDiff, if_true, if_false, reduceCtorEq, ↓reduceIte, true_and, and_true] <;> (and_intros <;> first | rfl | omega | assumption))
      | (refine z_e rfl ?_; simp only [fin, finP, finM, ids, nodupB, tupP, tupM, memN, List.length_cons, List.length_nil, List.nil_append, List.append_nil, List.cons_append, Nat.zero_add, Nat.reduceAdd, ne_eq, not_false_eq_true, eq_self, ev, Vq.look, List.map_cons, List.map_nil, and_true, true_and, Nat.reduceEqDiff, if_true, if_false, reduceCtorEq, ↓reduceIte]; refine decide_eq_decide.2 ⟨fun hq => ⟨by omega, all_getD.2 fun i hi => hI i (by omega)⟩, fun hq => by have := hq.1; omega⟩)
      | (refine z_e rfl ?_; simp only [fin, finP, finM, ids, nodupB, tupP, tupM, memN, List.length_cons, List.length_nil, List.nil_append, List.append_nil, List.cons_append, Nat.zero_add, Nat.reduceAdd, ne_eq, not_false_eq_true, eq_self, ev, Vq.look, List.map_cons, List.map_nil, and_true, true_and, Nat.reduceEqDiff, if_true, if_false, reduceCtorEq, ↓reduceIte]; refine (decide_eq_false fun hq => ?_).symm; have := all_getD.1 hq.2 k (by omega); omega))
theorem implCheapest (l : List TOffer) (hl : l.length ≤ 1048576) (a n : Int) : FnC Try.prog 20 [(false, [.sq dOffer (l.map eOffer)]), (false, [.int .i64 a]), (false, [.int .i64 n])] (.one (.int .i64 (cheapR l a n))) := by
  refine fn_z (ty := ty) (ts := [.tmp 6]) [0, 1, 2, 6, 7, 8, 9, 10, 11, 19, 20, 21, 22, 23, 29, 48] mixed ty_ok Try.func20 (by kernel_rfl) rfl (by kernel_rfl) (by kernel_rfl) rfl (.inl rfl) (Nat.le_of_ble_eq_true rfl) (by simp only [entry, entryV, C.toS, Nat.zero_add, Nat.reduceAdd, List.map_cons, List.map_nil]; exact rfl) ?_
  repeat' (first
    | ((with_reducible refine z_run ?_); (conv => whnf))
    | (with_reducible apply z_t)
    | (with_reducible apply z_f)
    | ((with_reducible apply z_b); ((intro h); (try simp only [beq_self_eq_true, eq_self, not_true_eq_false, not_false_eq_true, decide_true, cond_true, cond_false, Bool.not_true, Bool.not_false, Bool.not_eq_true', Bool.not_eq_false', Bool.and_eq_true, Bool.and_eq_false_imp, Bool.or_eq_true, Bool.or_eq_false_iff, decide_eq_true_eq, decide_eq_false_iff_not, Bool.false_eq_true, reduceCtorEq, Int.not_le, Int.not_lt, Decidable.not_not] at h)); rotate_left; ((intro h); (try simp only [beq_self_eq_true, eq_self, not_true_eq_false, not_false_eq_true, decide_true, cond_true, cond_false, Bool.not_true, Bool.not_false, Bool.not_eq_true', Bool.not_eq_false', Bool.and_eq_true, Bool.and_eq_false_imp, Bool.or_eq_true, Bool.or_eq_false_iff, decide_eq_true_eq, decide_eq_false_iff_not, Bool.false_eq_true, reduceCtorEq, Int.not_le, Int.not_lt, Decidable.not_not] at h)))
    | (with_reducible refine z_r ?_ ?_)
    | (with_reducible refine z_wg ?_ ?_)
    | (with_reducible refine z_w ?_ ?_)
    | ((with_reducible apply sh_nil); (intro _))
    | ((with_reducible apply sh_int); (intro _))
    | ((with_reducible apply sh_bool); (intro _))
    | ((with_reducible apply sh_sl); (intro _))
    | (with_reducible refine z_k (within_fn _ _ _) ?_)
    | ((with_reducible refine z_o ?zo ?_); (case zo => decide +kernel))
    | fail)
  all_goals ((try simp only [Int.toNat_natCast, tn1, tp1, List.length_map, eq_self, true_and, and_true] at *); (try simp (disch := omega) only [wr, Int.toNat_natCast, tn1, tp1, List.length_map, eq_self, true_and, and_true] at *))
  · rename_i h1
    have hn := h
    refine z_li (fun k => k ≤ l.length ∧ ∀ i, i < k → goodAt l i) (0 : Nat) (fun k => l.length - k) (fun k => ⟨[(0, .one (.ro dOffer (l.map eOffer))), (1, .one (.int .i64 a)), (2, .one (.int .i64 n)), (7, .one (.int .i64 (bestI l a n k))), (8, .one (.int .i64 (leastI l a n k))), (20, .one (.ro dOffer (l.map eOffer))), (21, .one (.int .i64 l.length)), (22, .one (.int .i64 k))], []⟩) ⟨by omega, by omega⟩ ?_ ?_
    · simp only [List.length_map, fillTo_zero, Int.toNat_natCast, Option.isSome_some, and_self, fixB, Nat.reduceLeDiff, false_implies, true_implies, forall_const, St.le0, St.swaps, St.ren, mapV, renO, V.ren, Sc.ren, Ob.ren, swp, slsLe, obsLe, vLe, scLe, scsLe, obLe, Vq.look, Nat.reduceEqDiff, if_true, if_false, reduceCtorEq, ↓reduceIte, true_and, and_true] <;> (and_intros <;> first | rfl | omega | assumption)
    · intro k ⟨hk, hI⟩
      repeat' (first
    | ((with_reducible refine z_run ?_); (conv => whnf))
    | (with_reducible apply z_t)
    | (with_reducible apply z_f)
    | ((with_reducible apply z_b); ((intro h); (try simp only [beq_self_eq_true, eq_self, not_true_eq_false, not_false_eq_true, decide_true, cond_true, cond_false, Bool.not_true, Bool.not_false, Bool.not_eq_true', Bool.not_eq_false', Bool.and_eq_true, Bool.and_eq_false_imp, Bool.or_eq_true, Bool.or_eq_false_iff, decide_eq_true_eq, decide_eq_false_iff_not, Bool.false_eq_true, reduceCtorEq, Int.not_le, Int.not_lt, Decidable.not_not] at h)); rotate_left; ((intro h); (try simp only [beq_self_eq_true, eq_self, not_true_eq_false, not_false_eq_true, decide_true, cond_true, cond_false, Bool.not_true, Bool.not_false, Bool.not_eq_true', Bool.not_eq_false', Bool.and_eq_true, Bool.and_eq_false_imp, Bool.or_eq_true, Bool.or_eq_false_iff, decide_eq_true_eq, decide_eq_false_iff_not, Bool.false_eq_true, reduceCtorEq, Int.not_le, Int.not_lt, Decidable.not_not] at h)))
    | (with_reducible refine z_r ?_ ?_)
    | (with_reducible refine z_wg ?_ ?_)
    | (with_reducible refine z_w ?_ ?_)
    | ((with_reducible apply sh_nil); (intro _))
    | ((with_reducible apply sh_int); (intro _))
    | ((with_reducible apply sh_bool); (intro _))
    | ((with_reducible apply sh_sl); (intro _))
    | (with_reducible refine z_k (implOfferOk _ _ _) ?_)
    | (with_reducible refine z_k (implStepsFor _ _ _ _) ?_)
    | ((with_reducible refine z_o ?zo ?_); (case zo => decide +kernel))
    | fail)
      all_goals ((try simp only [Int.toNat_natCast, tn1, tp1, List.length_map, eq_self, true_and, and_true] at *); (try simp (disch := omega) only [wr, Int.toNat_natCast, tn1, tp1, List.length_map, eq_self, true_and, and_true] at *))
      all_goals (try (have e := steps_cost (l := l) (k := k) (by assumption) h1; simp only [e] at *))
      all_goals (first
        | omega
        | (refine z_n (k + 1) ⟨⟨by omega, all_succ hI (by assumption)⟩, by omega⟩ ?_; obtain ⟨e1, e2⟩ := best_yes (l := l) (a := a) (n := n) (k := k) (by assumption) (by omega); simp only [List.length_map, fillTo_zero, Int.toNat_natCast, Option.isSome_some, and_self, fixB, Nat.reduceLeDiff, false_implies, true_implies, forall_const, St.le0, St.swaps, St.ren, mapV, renO, V.ren, Sc.ren, Ob.ren, swp, slsLe, obsLe, vLe, scLe, scsLe, obLe, Vq.look, Nat.reduceEqDiff, if_true, if_false, reduceCtorEq, ↓reduceIte, true_and, and_true, e1, e2]; omega)
        | (refine z_n (k + 1) ⟨⟨by omega, all_succ hI (by assumption)⟩, by omega⟩ ?_; obtain ⟨e1, e2⟩ := best_no (l := l) (a := a) (n := n) (k := k) (by omega); simp only [List.length_map, fillTo_zero, Int.toNat_natCast, Option.isSome_some, and_self, fixB, Nat.reduceLeDiff, false_implies, true_implies, forall_const, St.le0, St.swaps, St.ren, mapV, renO, V.ren, Sc.ren, Ob.ren, swp, slsLe, obsLe, vLe, scLe, scsLe, obLe, Vq.look, Nat.reduceEqDiff, if_true, if_false, reduceCtorEq, ↓reduceIte, true_and, and_true, e1, e2]; omega)
        | (refine z_e rfl ?_; simp only [fin, finP, finM, ids, nodupB, tupP, tupM, memN, List.length_cons, List.length_nil, List.nil_append, List.append_nil, List.cons_append, Nat.zero_add, Nat.reduceAdd, ne_eq, not_false_eq_true, eq_self, ev, Vq.look, List.map_cons, List.map_nil, and_true, true_and, Nat.reduceEqDiff, if_true, if_false, reduceCtorEq, ↓reduceIte]; rw [cheapR, if_pos ⟨by omega, h1, fun i hi => hI i (by omega)⟩]; congr 1; omega)
        | (refine z_e rfl ?_; simp only [fin, finP, finM, ids, nodupB, tupP, tupM, memN, List.length_cons, List.length_nil, List.nil_append, List.append_nil, List.cons_append, Nat.zero_add, Nat.reduceAdd, ne_eq, not_false_eq_true, eq_self, ev, Vq.look, List.map_cons, List.map_nil, and_true, true_and, Nat.reduceEqDiff, if_true, if_false, reduceCtorEq, ↓reduceIte]; rw [cheapR, if_neg]; intro hq; exact h (hq.2.2 k (by omega))))
  all_goals (refine z_e rfl ?_; simp only [fin, finP, finM, ids, nodupB, tupP, tupM, memN, List.length_cons, List.length_nil, List.nil_append, List.append_nil, List.cons_append, Nat.zero_add, Nat.reduceAdd, ne_eq, not_false_eq_true, eq_self, ev, Vq.look, List.map_cons, List.map_nil, and_true, true_and, Nat.reduceEqDiff, if_true, if_false, reduceCtorEq, ↓reduceIte]; rw [cheapR, if_neg]; intro hq; have h1 := hq.1; have h2 := hq.2.1; omega)
theorem specCheapest (l : List TOffer) (hl : l.length ≤ 1048576) (a n : Int) : FnC Try.prog 18 [(false, [.sq dOffer (l.map eOffer)]), (false, [.int .i64 a]), (false, [.int .i64 n])] (.one (.int .i64 (cheapR l a n))) := by
  refine fn_z (ty := ty) (ts := [.tmp 6]) [0, 1, 2, 6, 7, 8, 12, 26, 64] mixed ty_ok Try.func18 (by kernel_rfl) rfl (by kernel_rfl) (by kernel_rfl) rfl (.inl rfl) (Nat.le_of_ble_eq_true rfl) (by simp only [entry, entryV, C.toS, Nat.zero_add, Nat.reduceAdd, List.map_cons, List.map_nil]; exact rfl) ?_
  repeat' (first
    | ((with_reducible refine z_run ?_); (conv => whnf))
    | (with_reducible apply z_t)
    | (with_reducible apply z_f)
    | ((with_reducible apply z_b); ((intro h); (try simp only [beq_self_eq_true, eq_self, not_true_eq_false, not_false_eq_true, decide_true, cond_true, cond_false, Bool.not_true, Bool.not_false, Bool.not_eq_true', Bool.not_eq_false', Bool.and_eq_true, Bool.and_eq_false_imp, Bool.or_eq_true, Bool.or_eq_false_iff, decide_eq_true_eq, decide_eq_false_iff_not, Bool.false_eq_true, reduceCtorEq, Int.not_le, Int.not_lt, Decidable.not_not] at h)); rotate_left; ((intro h); (try simp only [beq_self_eq_true, eq_self, not_true_eq_false, not_false_eq_true, decide_true, cond_true, cond_false, Bool.not_true, Bool.not_false, Bool.not_eq_true', Bool.not_eq_false', Bool.and_eq_true, Bool.and_eq_false_imp, Bool.or_eq_true, Bool.or_eq_false_iff, decide_eq_true_eq, decide_eq_false_iff_not, Bool.false_eq_true, reduceCtorEq, Int.not_le, Int.not_lt, Decidable.not_not] at h)))
    | (with_reducible refine z_r ?_ ?_)
    | (with_reducible refine z_wg ?_ ?_)
    | (with_reducible refine z_w ?_ ?_)
    | ((with_reducible apply sh_nil); (intro _))
    | ((with_reducible apply sh_int); (intro _))
    | ((with_reducible apply sh_bool); (intro _))
    | ((with_reducible apply sh_sl); (intro _))
    | ((with_reducible refine z_o ?zo ?_); (case zo => decide +kernel))
    | fail)
  refine z_li (fun k => k ≤ l.length ∧ (∀ i, i < k → goodAt l i) ∧ (0 < k → l.length ≤ 20 ∧ 0 ≤ n ∧ n ≤ 1000000)) (0 : Nat) (fun k => l.length - k) (fun k => ⟨[(0, .one (.ro dOffer (l.map eOffer))), (1, .one (.int .i64 a)), (2, .one (.int .i64 n)), (7, .one (.int .i64 (bestI l a n k))), (8, .one (.int .i64 k))], []⟩) ⟨by omega, by omega, by omega⟩ ?_ ?_
  · simp only [List.length_map, fillTo_zero, Int.toNat_natCast, Option.isSome_some, and_self, fixB, Nat.reduceLeDiff, false_implies, true_implies, forall_const, St.le0, St.swaps, St.ren, mapV, renO, V.ren, Sc.ren, Ob.ren, swp, slsLe, obsLe, vLe, scLe, scsLe, obLe, Vq.look, Nat.reduceEqDiff, if_true, if_false, reduceCtorEq, ↓reduceIte, true_and, and_true] <;> (and_intros <;> first | rfl | omega | assumption)
  · intro k ⟨hk, hI, hz⟩
    have hbd := bestI_bd l a n k
    by_cases hlt : k < l.length
    · by_cases hg : goodAt l k ∧ l.length ≤ 20 ∧ 0 ≤ n ∧ n ≤ 1000000
      · obtain ⟨hg, hl20, hn⟩ := hg
        have e1 := steps_cost hg hn
        have e0 : 0 ≤ stepsR (l.getD k default).1 (l.getD k default).2.1 (l.getD k default).2.2 n := by rw [stepsR, if_pos ⟨hg, hn⟩]; exact (stepsV_bd hg.2.1 hn).1
        have e2 : 0 ≤ bestI l a n k → IntKind.i64.wrap (stepsR (l.getD (bestI l a n k).toNat default).1 (l.getD (bestI l a n k).toNat default).2.1 (l.getD (bestI l a n k).toNat default).2.2 n * (l.getD (bestI l a n k).toNat default).2.2) = leastI l a n k := fun hb => by
          rw [steps_cost (hI _ (by omega)) hn, leastI, if_neg (by omega)]
        repeat' (first
    | ((with_reducible refine z_run ?_); (conv => whnf))
    | (with_reducible apply z_t)
    | (with_reducible apply z_f)
    | ((with_reducible apply z_b); ((intro h); (try simp only [beq_self_eq_true, eq_self, not_true_eq_false, not_false_eq_true, decide_true, cond_true, cond_false, Bool.not_true, Bool.not_false, Bool.not_eq_true', Bool.not_eq_false', Bool.and_eq_true, Bool.and_eq_false_imp, Bool.or_eq_true, Bool.or_eq_false_iff, decide_eq_true_eq, decide_eq_false_iff_not, Bool.false_eq_true, reduceCtorEq, Int.not_le, Int.not_lt, Decidable.not_not] at h)); rotate_left; ((intro h); (try simp only [beq_self_eq_true, eq_self, not_true_eq_false, not_false_eq_true, decide_true, cond_true, cond_false, Bool.not_true, Bool.not_false, Bool.not_eq_true', Bool.not_eq_false', Bool.and_eq_true, Bool.and_eq_false_imp, Bool.or_eq_true, Bool.or_eq_false_iff, decide_eq_true_eq, decide_eq_false_iff_not, Bool.false_eq_true, reduceCtorEq, Int.not_le, Int.not_lt, Decidable.not_not] at h)))
    | (with_reducible refine z_r ?_ ?_)
    | (with_reducible refine z_wg ?_ ?_)
    | (with_reducible refine z_w ?_ ?_)
    | ((with_reducible apply sh_nil); (intro _))
    | ((with_reducible apply sh_int); (intro _))
    | ((with_reducible apply sh_bool); (intro _))
    | ((with_reducible apply sh_sl); (intro _))
    | (with_reducible refine z_k (specStepsFor _ _ _ _) ?_)
    | ((with_reducible refine z_o ?zo ?_); (case zo => decide +kernel))
    | fail)
        all_goals ((try simp only [Int.toNat_natCast, tn1, tp1, List.length_map, eq_self, true_and, and_true] at *); (try simp (disch := omega) only [wr, Int.toNat_natCast, tn1, tp1, List.length_map, eq_self, true_and, and_true] at *))
        all_goals (try simp only [e1] at *)
        all_goals (try (have e3 := e2 (by assumption); clear e2; simp only [e3] at *))
        all_goals (first
          | omega
          | (refine z_n (k + 1) ⟨⟨by omega, all_succ hI hg, fun _ => ⟨hl20, hn⟩⟩, by omega⟩ ?_; obtain ⟨e4, _⟩ := best_yes (l := l) (a := a) (n := n) (k := k) (by assumption) (by omega); simp only [List.length_map, fillTo_zero, Int.toNat_natCast, Option.isSome_some, and_self, fixB, Nat.reduceLeDiff, false_implies, true_implies, forall_const, St.le0, St.swaps, St.ren, mapV, renO, V.ren, Sc.ren, Ob.ren, swp, slsLe, obsLe, vLe, scLe, scsLe, obLe, Vq.look, Nat.reduceEqDiff, if_true, if_false, reduceCtorEq, ↓reduceIte, true_and, and_true, e4]; omega)
          | (refine z_n (k + 1) ⟨⟨by omega, all_succ hI hg, fun _ => ⟨hl20, hn⟩⟩, by omega⟩ ?_; obtain ⟨e4, _⟩ := best_no (l := l) (a := a) (n := n) (k := k) (by omega); simp only [List.length_map, fillTo_zero, Int.toNat_natCast, Option.isSome_some, and_self, fixB, Nat.reduceLeDiff, false_implies, true_implies, forall_const, St.le0, St.swaps, St.ren, mapV, renO, V.ren, Sc.ren, Ob.ren, swp, slsLe, obsLe, vLe, scLe, scsLe, obLe, Vq.look, Nat.reduceEqDiff, if_true, if_false, reduceCtorEq, ↓reduceIte, true_and, and_true, e4]; omega))
      · have hc : cheapR l a n = -1 := by
          rw [cheapR, if_neg]; intro hq; exact hg ⟨hq.2.2 k hlt, hq.1, hq.2.1⟩
        have e0 : l.length ≤ 20 → stepsR (l.getD k default).1 (l.getD k default).2.1 (l.getD k default).2.2 n = -1 := fun h20 => by
          rw [stepsR, if_neg]; intro hq; exact hg ⟨hq.1, h20, hq.2⟩
        repeat' (first
    | ((with_reducible refine z_run ?_); (conv => whnf))
    | (with_reducible apply z_t)
    | (with_reducible apply z_f)
    | ((with_reducible apply z_b); ((intro h); (try simp only [beq_self_eq_true, eq_self, not_true_eq_false, not_false_eq_true, decide_true, cond_true, cond_false, Bool.not_true, Bool.not_false, Bool.not_eq_true', Bool.not_eq_false', Bool.and_eq_true, Bool.and_eq_false_imp, Bool.or_eq_true, Bool.or_eq_false_iff, decide_eq_true_eq, decide_eq_false_iff_not, Bool.false_eq_true, reduceCtorEq, Int.not_le, Int.not_lt, Decidable.not_not] at h)); rotate_left; ((intro h); (try simp only [beq_self_eq_true, eq_self, not_true_eq_false, not_false_eq_true, decide_true, cond_true, cond_false, Bool.not_true, Bool.not_false, Bool.not_eq_true', Bool.not_eq_false', Bool.and_eq_true, Bool.and_eq_false_imp, Bool.or_eq_true, Bool.or_eq_false_iff, decide_eq_true_eq, decide_eq_false_iff_not, Bool.false_eq_true, reduceCtorEq, Int.not_le, Int.not_lt, Decidable.not_not] at h)))
    | (with_reducible refine z_r ?_ ?_)
    | (with_reducible refine z_wg ?_ ?_)
    | (with_reducible refine z_w ?_ ?_)
    | ((with_reducible apply sh_nil); (intro _))
    | ((with_reducible apply sh_int); (intro _))
    | ((with_reducible apply sh_bool); (intro _))
    | ((with_reducible apply sh_sl); (intro _))
    | (with_reducible refine z_k (specStepsFor _ _ _ _) ?_)
    | ((with_reducible refine z_o ?zo ?_); (case zo => decide +kernel))
    | fail)
        all_goals ((try simp only [Int.toNat_natCast, tn1, tp1, List.length_map, eq_self, true_and, and_true] at *); (try simp (disch := omega) only [wr, Int.toNat_natCast, tn1, tp1, List.length_map, eq_self, true_and, and_true] at *))
        all_goals (first
          | omega
          | (refine z_e rfl ?_; simp only [fin, finP, finM, ids, nodupB, tupP, tupM, memN, List.length_cons, List.length_nil, List.nil_append, List.append_nil, List.cons_append, Nat.zero_add, Nat.reduceAdd, ne_eq, not_false_eq_true, eq_self, ev, Vq.look, List.map_cons, List.map_nil, and_true, true_and, Nat.reduceEqDiff, if_true, if_false, reduceCtorEq, ↓reduceIte]; omega))
    · repeat' (first
    | ((with_reducible refine z_run ?_); (conv => whnf))
    | (with_reducible apply z_t)
    | (with_reducible apply z_f)
    | ((with_reducible apply z_b); ((intro h); (try simp only [beq_self_eq_true, eq_self, not_true_eq_false, not_false_eq_true, decide_true, cond_true, cond_false, Bool.not_true, Bool.not_false, Bool.not_eq_true', Bool.not_eq_false', Bool.and_eq_true, Bool.and_eq_false_imp, Bool.or_eq_true, Bool.or_eq_false_iff, decide_eq_true_eq, decide_eq_false_iff_not, Bool.false_eq_true, reduceCtorEq, Int.not_le, Int.not_lt, Decidable.not_not] at h)); rotate_left; ((intro h); (try simp only [beq_self_eq_true, eq_self, not_true_eq_false, not_false_eq_true, decide_true, cond_true, cond_false, Bool.not_true, Bool.not_false, Bool.not_eq_true', Bool.not_eq_false', Bool.and_eq_true, Bool.and_eq_false_imp, Bool.or_eq_true, Bool.or_eq_false_iff, decide_eq_true_eq, decide_eq_false_iff_not, Bool.false_eq_true, reduceCtorEq, Int.not_le, Int.not_lt, Decidable.not_not] at h)))
    | (with_reducible refine z_r ?_ ?_)
    | (with_reducible refine z_wg ?_ ?_)
    | (with_reducible refine z_w ?_ ?_)
    | ((with_reducible apply sh_nil); (intro _))
    | ((with_reducible apply sh_int); (intro _))
    | ((with_reducible apply sh_bool); (intro _))
    | ((with_reducible apply sh_sl); (intro _))
    | (with_reducible refine z_k (specStepsFor _ _ _ _) ?_)
    | ((with_reducible refine z_o ?zo ?_); (case zo => decide +kernel))
    | fail)
      all_goals ((try simp only [Int.toNat_natCast, tn1, tp1, List.length_map, eq_self, true_and, and_true] at *); (try simp (disch := omega) only [wr, Int.toNat_natCast, tn1, tp1, List.length_map, eq_self, true_and, and_true] at *))
      all_goals (first | omega | skip)
      refine z_e rfl ?_; simp only [fin, finP, finM, ids, nodupB, tupP, tupM, memN, List.length_cons, List.length_nil, List.nil_append, List.append_nil, List.cons_append, Nat.zero_add, Nat.reduceAdd, ne_eq, not_false_eq_true, eq_self, ev, Vq.look, List.map_cons, List.map_nil, and_true, true_and, Nat.reduceEqDiff, if_true, if_false, reduceCtorEq, ↓reduceIte]
      by_cases h0 : 0 < k
      · rw [cheapR, if_pos ⟨(hz h0).1, (hz h0).2, fun i hi => hI i (by omega)⟩]; congr 1; omega
      · have hk0 : k = 0 := by omega
        subst hk0
        have hlen : l.length = 0 := by omega
        unfold cheapR
        rw [hlen]
        split <;> rfl
end Go.Proofs.Ytloeibdplgcgbaa
