/- Contracts of the functions that take, add and buy cloth. No conditions. -/
import Derived.Test.YtloeibdplgcgbaaStockC
namespace Go.Proofs.Ytloeibdplgcgbaa
open Go.Vq
set_option linter.unusedSimpArgs false
set_option maxHeartbeats 1000000
theorem stock_at {s : List Int} (h : stockGood s) {a : Int} (ha : 0 ≤ a ∧ a ≤ 5) : 0 ≤ s.getD a.toNat default ∧ s.getD a.toNat default ≤ 1000000 :=
  all_getD.1 h.2 _ (by have := h.1; omega)
theorem implTakeCloth (s : List Int) (hl : s.length ≤ 1048576) (a x : Int) : FnC Try.prog 29 [(false, [.sq dI (s.map eI)]), (false, [.int .i64 a]), (false, [.int .i64 x])] (.tup [(false, [.own 3 dI ((takeR s a x).1.map eI)]), (false, [.bool (takeR s a x).2])]) := by
  refine fn_z (ty := ty) (ts := [.tmp 6, .tmp 7]) [0, 1, 2, 6, 7, 8, 27] mixed ty_ok Try.func29 (by kernel_rfl) rfl (by kernel_rfl) (by kernel_rfl) rfl (.inr (.inl rfl)) (Nat.le_of_ble_eq_true rfl) (by simp only [entry, entryV, C.toS, Nat.zero_add, Nat.reduceAdd, List.map_cons, List.map_nil]; exact rfl) ?_
  repeat' (first
    | ((with_reducible refine z_run ?_); (conv => whnf))
    | (with_reducible apply z_t)
    | (with_reducible apply z_f)
    | ((with_reducible apply z_b); ((intro h); (try simp only [beq_self_eq_true, eq_self, not_true_eq_false, not_false_eq_true, decide_true, cond_true, cond_false, Bool.not_true, Bool.not_false, Bool.not_eq_true', Bool.not_eq_false', Bool.and_eq_true, Bool.and_eq_false_imp, Bool.or_eq_true, Bool.or_eq_false_iff, decide_eq_true_eq, decide_eq_false_iff_not, Bool.false_eq_true, reduceCtorEq, Int.not_le, Int.not_lt, Decidable.not_not] at h)); rotate_left; ((intro h); (try simp only [beq_self_eq_true, eq_self, not_true_eq_false, not_false_eq_true, decide_true, cond_true, cond_false, Bool.not_true, Bool.not_false, Bool.not_eq_true', Bool.not_eq_false', Bool.and_eq_true, Bool.and_eq_false_imp, Bool.or_eq_true, Bool.or_eq_false_iff, decide_eq_true_eq, decide_eq_false_iff_not, Bool.false_eq_true, reduceCtorEq, Int.not_le, Int.not_lt, Decidable.not_not] at h)))
    | (with_reducible refine z_r ?_ ?_)
    | (with_reducible refine z_wg ?_ ?_)
    | (with_reducible refine z_w ?_ ?_)
    | ((with_reducible apply sh_nil); (intro _))
    | ((with_reducible apply sh_int); (intro _))
    | ((with_reducible apply sh_bool); (intro _))
    | ((with_reducible apply sh_sl); (intro _))
    | (with_reducible refine z_k (copyOf_fn _ (by omega)) ?_)
    | (with_reducible refine z_k (implStockOk _ (by omega)) ?_)
    | (with_reducible refine z_k (isColor_fn _) ?_)
    | (with_reducible refine z_k (within_fn _ _ _) ?_)
    | ((with_reducible refine z_o ?zo ?_); (case zo => decide +kernel))
    | fail)
  all_goals ((try simp only [Int.toNat_natCast, tn1, tp1, List.length_map, eq_self, true_and, and_true] at *); (try simp (disch := omega) only [wr, Int.toNat_natCast, tn1, tp1, List.length_map, eq_self, true_and, and_true] at *))
  all_goals (try (have h6 := (show stockGood s by assumption).1))
  all_goals (first
    | omega
    | (simp only [List.length_set, List.length_append, List.length_map, List.length_nil, List.nil_append]; omega)
    | (refine z_e rfl ?_; simp only [fin, finP, finM, ids, nodupB, tupP, tupM, memN, List.length_cons, List.length_nil, List.nil_append, List.append_nil, List.cons_append, Nat.zero_add, Nat.reduceAdd, ne_eq, not_false_eq_true, eq_self, ev, Vq.look, List.map_cons, List.map_nil, and_true, true_and, Nat.reduceEqDiff, if_true, if_false, reduceCtorEq, ↓reduceIte]
       have hs : stockGood s := by assumption
       have ha : 0 ≤ a ∧ a ≤ 5 := by assumption
       have hb := stock_at hs ha
       rw [takeR, if_pos ⟨hs, ha, by assumption⟩, wr (x := s.getD a.toNat default - x) ⟨by omega, by omega⟩]
       first | exact ⟨set_map eI s a.toNat _, rfl⟩ | exact ⟨(set_map eI s a.toNat _).symm, rfl⟩)
    | (refine z_e rfl ?_; simp only [fin, finP, finM, ids, nodupB, tupP, tupM, memN, List.length_cons, List.length_nil, List.nil_append, List.append_nil, List.cons_append, Nat.zero_add, Nat.reduceAdd, ne_eq, not_false_eq_true, eq_self, ev, Vq.look, List.map_cons, List.map_nil, and_true, true_and, Nat.reduceEqDiff, if_true, if_false, reduceCtorEq, ↓reduceIte]; rw [takeR, if_neg (fun hq => absurd hq.2.2 (by assumption))]; exact ⟨rfl, rfl⟩)
    | (refine z_e rfl ?_; simp only [fin, finP, finM, ids, nodupB, tupP, tupM, memN, List.length_cons, List.length_nil, List.nil_append, List.append_nil, List.cons_append, Nat.zero_add, Nat.reduceAdd, ne_eq, not_false_eq_true, eq_self, ev, Vq.look, List.map_cons, List.map_nil, and_true, true_and, Nat.reduceEqDiff, if_true, if_false, reduceCtorEq, ↓reduceIte]; rw [takeR, if_neg (fun hq => absurd hq.2.1 (by assumption))]; exact ⟨rfl, rfl⟩)
    | (refine z_e rfl ?_; simp only [fin, finP, finM, ids, nodupB, tupP, tupM, memN, List.length_cons, List.length_nil, List.nil_append, List.append_nil, List.cons_append, Nat.zero_add, Nat.reduceAdd, ne_eq, not_false_eq_true, eq_self, ev, Vq.look, List.map_cons, List.map_nil, and_true, true_and, Nat.reduceEqDiff, if_true, if_false, reduceCtorEq, ↓reduceIte]; rw [takeR, if_neg (fun hq => absurd hq.1 (by assumption))]; exact ⟨rfl, rfl⟩))
theorem specTakeCloth (s : List Int) (hl : s.length ≤ 1048576) (a x : Int) : FnC Try.prog 28 [(false, [.sq dI (s.map eI)]), (false, [.int .i64 a]), (false, [.int .i64 x])] (.tup [(false, [.own 3 dI ((takeR s a x).1.map eI)]), (false, [.bool (takeR s a x).2])]) := by
  refine fn_z (ty := ty) (ts := [.tmp 6, .tmp 7]) [0, 1, 2, 6, 7, 8, 28] mixed ty_ok Try.func28 (by kernel_rfl) rfl (by kernel_rfl) (by kernel_rfl) rfl (.inr (.inl rfl)) (Nat.le_of_ble_eq_true rfl) (by simp only [entry, entryV, C.toS, Nat.zero_add, Nat.reduceAdd, List.map_cons, List.map_nil]; exact rfl) ?_
  repeat' (first
    | ((with_reducible refine z_run ?_); (conv => whnf))
    | (with_reducible apply z_t)
    | (with_reducible apply z_f)
    | ((with_reducible apply z_b); ((intro h); (try simp only [beq_self_eq_true, eq_self, not_true_eq_false, not_false_eq_true, decide_true, cond_true, cond_false, Bool.not_true, Bool.not_false, Bool.not_eq_true', Bool.not_eq_false', Bool.and_eq_true, Bool.and_eq_false_imp, Bool.or_eq_true, Bool.or_eq_false_iff, decide_eq_true_eq, decide_eq_false_iff_not, Bool.false_eq_true, reduceCtorEq, Int.not_le, Int.not_lt, Decidable.not_not] at h)); rotate_left; ((intro h); (try simp only [beq_self_eq_true, eq_self, not_true_eq_false, not_false_eq_true, decide_true, cond_true, cond_false, Bool.not_true, Bool.not_false, Bool.not_eq_true', Bool.not_eq_false', Bool.and_eq_true, Bool.and_eq_false_imp, Bool.or_eq_true, Bool.or_eq_false_iff, decide_eq_true_eq, decide_eq_false_iff_not, Bool.false_eq_true, reduceCtorEq, Int.not_le, Int.not_lt, Decidable.not_not] at h)))
    | (with_reducible refine z_r ?_ ?_)
    | (with_reducible refine z_wg ?_ ?_)
    | (with_reducible refine z_w ?_ ?_)
    | ((with_reducible apply sh_nil); (intro _))
    | ((with_reducible apply sh_int); (intro _))
    | ((with_reducible apply sh_bool); (intro _))
    | ((with_reducible apply sh_sl); (intro _))
    | (with_reducible refine z_k (specStockOk _ (by omega)) ?_)
    | (with_reducible refine z_k (in_fn _ _ _) ?_)
    | ((with_reducible refine z_o ?zo ?_); (case zo => decide +kernel))
    | fail)
  all_goals ((try simp only [Int.toNat_natCast, tn1, tp1, List.length_map, eq_self, true_and, and_true] at *); (try simp (disch := omega) only [wr, Int.toNat_natCast, tn1, tp1, List.length_map, eq_self, true_and, and_true] at *))
  all_goals (try (have h6 := (show stockGood s by assumption).1))
  all_goals (first
    | omega
    | (simp only [List.length_set, List.length_append, List.length_map, List.length_cons, List.length_nil, List.nil_append]; omega)
    | (refine z_e rfl ?_; simp only [fin, finP, finM, ids, nodupB, tupP, tupM, memN, List.length_cons, List.length_nil, List.nil_append, List.append_nil, List.cons_append, Nat.zero_add, Nat.reduceAdd, ne_eq, not_false_eq_true, eq_self, ev, Vq.look, List.map_cons, List.map_nil, and_true, true_and, Nat.reduceEqDiff, if_true, if_false, reduceCtorEq, ↓reduceIte]
       have hs : stockGood s := by assumption
       have ha : 0 ≤ a ∧ a ≤ 5 := by assumption
       have hb := stock_at hs ha
       rw [takeR, if_pos ⟨hs, ha, by assumption⟩, wr (x := s.getD a.toNat default - x) ⟨by omega, by omega⟩]
       first | exact ⟨set_map eI s a.toNat _, rfl⟩ | exact ⟨(set_map eI s a.toNat _).symm, rfl⟩)
    | (refine z_e rfl ?_; simp only [fin, finP, finM, ids, nodupB, tupP, tupM, memN, List.length_cons, List.length_nil, List.nil_append, List.append_nil, List.cons_append, Nat.zero_add, Nat.reduceAdd, ne_eq, not_false_eq_true, eq_self, ev, Vq.look, List.map_cons, List.map_nil, and_true, true_and, Nat.reduceEqDiff, if_true, if_false, reduceCtorEq, ↓reduceIte]; rw [takeR, if_neg (fun hq => absurd hq.2.2 (by assumption))]; exact ⟨rfl, rfl⟩)
    | (refine z_e rfl ?_; simp only [fin, finP, finM, ids, nodupB, tupP, tupM, memN, List.length_cons, List.length_nil, List.nil_append, List.append_nil, List.cons_append, Nat.zero_add, Nat.reduceAdd, ne_eq, not_false_eq_true, eq_self, ev, Vq.look, List.map_cons, List.map_nil, and_true, true_and, Nat.reduceEqDiff, if_true, if_false, reduceCtorEq, ↓reduceIte]; rw [takeR, if_neg (fun hq => absurd hq.2.1 (by assumption))]; exact ⟨rfl, rfl⟩)
    | (refine z_e rfl ?_; simp only [fin, finP, finM, ids, nodupB, tupP, tupM, memN, List.length_cons, List.length_nil, List.nil_append, List.append_nil, List.cons_append, Nat.zero_add, Nat.reduceAdd, ne_eq, not_false_eq_true, eq_self, ev, Vq.look, List.map_cons, List.map_nil, and_true, true_and, Nat.reduceEqDiff, if_true, if_false, reduceCtorEq, ↓reduceIte]; rw [takeR, if_neg (fun hq => absurd hq.1 (by assumption))]; exact ⟨rfl, rfl⟩))
theorem implAddCloth (s : List Int) (hl : s.length ≤ 1048576) (a x : Int) : FnC Try.prog 24 [(false, [.sq dI (s.map eI)]), (false, [.int .i64 a]), (false, [.int .i64 x])] (.tup [(false, [.own 3 dI ((addR s a x).1.map eI)]), (false, [.bool (addR s a x).2])]) := by
  refine fn_z (ty := ty) (ts := [.tmp 6, .tmp 7]) [0, 1, 2, 6, 7, 8, 32] mixed ty_ok Try.func24 (by kernel_rfl) rfl (by kernel_rfl) (by kernel_rfl) rfl (.inr (.inl rfl)) (Nat.le_of_ble_eq_true rfl) (by simp only [entry, entryV, C.toS, Nat.zero_add, Nat.reduceAdd, List.map_cons, List.map_nil]; exact rfl) ?_
  repeat' (first
    | ((with_reducible refine z_run ?_); (conv => whnf))
    | (with_reducible apply z_t)
    | (with_reducible apply z_f)
    | ((with_reducible apply z_b); ((intro h); (try simp only [beq_self_eq_true, eq_self, not_true_eq_false, not_false_eq_true, decide_true, cond_true, cond_false, Bool.not_true, Bool.not_false, Bool.not_eq_true', Bool.not_eq_false', Bool.and_eq_true, Bool.and_eq_false_imp, Bool.or_eq_true, Bool.or_eq_false_iff, decide_eq_true_eq, decide_eq_false_iff_not, Bool.false_eq_true, reduceCtorEq, Int.not_le, Int.not_lt, Decidable.not_not] at h)); rotate_left; ((intro h); (try simp only [beq_self_eq_true, eq_self, not_true_eq_false, not_false_eq_true, decide_true, cond_true, cond_false, Bool.not_true, Bool.not_false, Bool.not_eq_true', Bool.not_eq_false', Bool.and_eq_true, Bool.and_eq_false_imp, Bool.or_eq_true, Bool.or_eq_false_iff, decide_eq_true_eq, decide_eq_false_iff_not, Bool.false_eq_true, reduceCtorEq, Int.not_le, Int.not_lt, Decidable.not_not] at h)))
    | (with_reducible refine z_r ?_ ?_)
    | (with_reducible refine z_wg ?_ ?_)
    | (with_reducible refine z_w ?_ ?_)
    | ((with_reducible apply sh_nil); (intro _))
    | ((with_reducible apply sh_int); (intro _))
    | ((with_reducible apply sh_bool); (intro _))
    | ((with_reducible apply sh_sl); (intro _))
    | (with_reducible refine z_k (copyOf_fn _ (by omega)) ?_)
    | (with_reducible refine z_k (implStockOk _ (by omega)) ?_)
    | (with_reducible refine z_k (isColor_fn _) ?_)
    | (with_reducible refine z_k (within_fn _ _ _) ?_)
    | ((with_reducible refine z_o ?zo ?_); (case zo => decide +kernel))
    | fail)
  all_goals ((try simp only [Int.toNat_natCast, tn1, tp1, List.length_map, eq_self, true_and, and_true] at *); (try simp (disch := omega) only [wr, Int.toNat_natCast, tn1, tp1, List.length_map, eq_self, true_and, and_true] at *))
  all_goals (try (have h6 := (show stockGood s by assumption).1))
  all_goals (try (have hb := stock_at (show stockGood s by assumption) (show 0 ≤ a ∧ a ≤ 5 by assumption)))
  all_goals (try (have hx : 0 ≤ x ∧ x ≤ 1000000 := by assumption))
  all_goals (try (have hw : IntKind.i64.wrap (s.getD a.toNat default + x) = s.getD a.toNat default + x := wr (x := s.getD a.toNat default + x) ⟨by omega, by omega⟩))
  all_goals (first
    | omega
    | (simp only [List.length_set, List.length_append, List.length_map, List.length_nil, List.nil_append]; omega)
    | (refine z_e rfl ?_; simp only [fin, finP, finM, ids, nodupB, tupP, tupM, memN, List.length_cons, List.length_nil, List.nil_append, List.append_nil, List.cons_append, Nat.zero_add, Nat.reduceAdd, ne_eq, not_false_eq_true, eq_self, ev, Vq.look, List.map_cons, List.map_nil, and_true, true_and, Nat.reduceEqDiff, if_true, if_false, reduceCtorEq, ↓reduceIte]
       have hs : stockGood s := by assumption
       have ha : 0 ≤ a ∧ a ≤ 5 := by assumption
       rw [addR, if_pos ⟨hs, ha, by omega, by omega⟩, hw]
       first | exact ⟨set_map eI s a.toNat _, rfl⟩ | exact ⟨(set_map eI s a.toNat _).symm, rfl⟩)
    | (refine z_e rfl ?_; simp only [fin, finP, finM, ids, nodupB, tupP, tupM, memN, List.length_cons, List.length_nil, List.nil_append, List.append_nil, List.cons_append, Nat.zero_add, Nat.reduceAdd, ne_eq, not_false_eq_true, eq_self, ev, Vq.look, List.map_cons, List.map_nil, and_true, true_and, Nat.reduceEqDiff, if_true, if_false, reduceCtorEq, ↓reduceIte]; rw [addR, if_neg (fun hq => by have h1 := hq.2.2; omega)]; exact ⟨rfl, rfl⟩)
    | (refine z_e rfl ?_; simp only [fin, finP, finM, ids, nodupB, tupP, tupM, memN, List.length_cons, List.length_nil, List.nil_append, List.append_nil, List.cons_append, Nat.zero_add, Nat.reduceAdd, ne_eq, not_false_eq_true, eq_self, ev, Vq.look, List.map_cons, List.map_nil, and_true, true_and, Nat.reduceEqDiff, if_true, if_false, reduceCtorEq, ↓reduceIte]; rw [addR, if_neg (fun hq => by have h1 := stock_at hq.1 hq.2.1; have h2 := hq.2.2; omega)]; exact ⟨rfl, rfl⟩)
    | (refine z_e rfl ?_; simp only [fin, finP, finM, ids, nodupB, tupP, tupM, memN, List.length_cons, List.length_nil, List.nil_append, List.append_nil, List.cons_append, Nat.zero_add, Nat.reduceAdd, ne_eq, not_false_eq_true, eq_self, ev, Vq.look, List.map_cons, List.map_nil, and_true, true_and, Nat.reduceEqDiff, if_true, if_false, reduceCtorEq, ↓reduceIte]; rw [addR, if_neg (fun hq => absurd hq.2.1 (by assumption))]; exact ⟨rfl, rfl⟩)
    | (refine z_e rfl ?_; simp only [fin, finP, finM, ids, nodupB, tupP, tupM, memN, List.length_cons, List.length_nil, List.nil_append, List.append_nil, List.cons_append, Nat.zero_add, Nat.reduceAdd, ne_eq, not_false_eq_true, eq_self, ev, Vq.look, List.map_cons, List.map_nil, and_true, true_and, Nat.reduceEqDiff, if_true, if_false, reduceCtorEq, ↓reduceIte]; rw [addR, if_neg (fun hq => absurd hq.1 (by assumption))]; exact ⟨rfl, rfl⟩))
theorem specAddCloth (s : List Int) (hl : s.length ≤ 1048576) (a x : Int) : FnC Try.prog 22 [(false, [.sq dI (s.map eI)]), (false, [.int .i64 a]), (false, [.int .i64 x])] (.tup [(false, [.own 3 dI ((addR s a x).1.map eI)]), (false, [.bool (addR s a x).2])]) := by
  refine fn_z (ty := ty) (ts := [.tmp 6, .tmp 7]) [0, 1, 2, 6, 7, 8, 29] mixed ty_ok Try.func22 (by kernel_rfl) rfl (by kernel_rfl) (by kernel_rfl) rfl (.inr (.inl rfl)) (Nat.le_of_ble_eq_true rfl) (by simp only [entry, entryV, C.toS, Nat.zero_add, Nat.reduceAdd, List.map_cons, List.map_nil]; exact rfl) ?_
  repeat' (first
    | ((with_reducible refine z_run ?_); (conv => whnf))
    | (with_reducible apply z_t)
    | (with_reducible apply z_f)
    | ((with_reducible apply z_b); ((intro h); (try simp only [beq_self_eq_true, eq_self, not_true_eq_false, not_false_eq_true, decide_true, cond_true, cond_false, Bool.not_true, Bool.not_false, Bool.not_eq_true', Bool.not_eq_false', Bool.and_eq_true, Bool.and_eq_false_imp, Bool.or_eq_true, Bool.or_eq_false_iff, decide_eq_true_eq, decide_eq_false_iff_not, Bool.false_eq_true, reduceCtorEq, Int.not_le, Int.not_lt, Decidable.not_not] at h)); rotate_left; ((intro h); (try simp only [beq_self_eq_true, eq_self, not_true_eq_false, not_false_eq_true, decide_true, cond_true, cond_false, Bool.not_true, Bool.not_false, Bool.not_eq_true', Bool.not_eq_false', Bool.and_eq_true, Bool.and_eq_false_imp, Bool.or_eq_true, Bool.or_eq_false_iff, decide_eq_true_eq, decide_eq_false_iff_not, Bool.false_eq_true, reduceCtorEq, Int.not_le, Int.not_lt, Decidable.not_not] at h)))
    | (with_reducible refine z_r ?_ ?_)
    | (with_reducible refine z_wg ?_ ?_)
    | (with_reducible refine z_w ?_ ?_)
    | ((with_reducible apply sh_nil); (intro _))
    | ((with_reducible apply sh_int); (intro _))
    | ((with_reducible apply sh_bool); (intro _))
    | ((with_reducible apply sh_sl); (intro _))
    | (with_reducible refine z_k (specStockOk _ (by omega)) ?_)
    | (with_reducible refine z_k (in_fn _ _ _) ?_)
    | ((with_reducible refine z_o ?zo ?_); (case zo => decide +kernel))
    | fail)
  all_goals ((try simp only [Int.toNat_natCast, tn1, tp1, List.length_map, eq_self, true_and, and_true] at *); (try simp (disch := omega) only [wr, Int.toNat_natCast, tn1, tp1, List.length_map, eq_self, true_and, and_true] at *))
  all_goals (try (have h6 := (show stockGood s by assumption).1))
  all_goals (try (have hb := stock_at (show stockGood s by assumption) (show 0 ≤ a ∧ a ≤ 5 by assumption)))
  all_goals (try (simp only [wr (x := 1000000 - s.getD a.toNat default) ⟨by omega, by omega⟩] at *))
  all_goals (try (have hw : IntKind.i64.wrap (s.getD a.toNat default + x) = s.getD a.toNat default + x := wr (x := s.getD a.toNat default + x) ⟨by omega, by omega⟩))
  all_goals (first
    | omega
    | (simp only [List.length_set, List.length_append, List.length_map, List.length_cons, List.length_nil, List.nil_append]; omega)
    | (refine z_e rfl ?_; simp only [fin, finP, finM, ids, nodupB, tupP, tupM, memN, List.length_cons, List.length_nil, List.nil_append, List.append_nil, List.cons_append, Nat.zero_add, Nat.reduceAdd, ne_eq, not_false_eq_true, eq_self, ev, Vq.look, List.map_cons, List.map_nil, and_true, true_and, Nat.reduceEqDiff, if_true, if_false, reduceCtorEq, ↓reduceIte]
       have hs : stockGood s := by assumption
       have ha : 0 ≤ a ∧ a ≤ 5 := by assumption
       rw [addR, if_pos ⟨hs, ha, by omega, by omega⟩, hw]
       first | exact ⟨set_map eI s a.toNat _, rfl⟩ | exact ⟨(set_map eI s a.toNat _).symm, rfl⟩)
    | (refine z_e rfl ?_; simp only [fin, finP, finM, ids, nodupB, tupP, tupM, memN, List.length_cons, List.length_nil, List.nil_append, List.append_nil, List.cons_append, Nat.zero_add, Nat.reduceAdd, ne_eq, not_false_eq_true, eq_self, ev, Vq.look, List.map_cons, List.map_nil, and_true, true_and, Nat.reduceEqDiff, if_true, if_false, reduceCtorEq, ↓reduceIte]; rw [addR, if_neg (fun hq => by have h1 := hq.2.2; omega)]; exact ⟨rfl, rfl⟩)
    | (refine z_e rfl ?_; simp only [fin, finP, finM, ids, nodupB, tupP, tupM, memN, List.length_cons, List.length_nil, List.nil_append, List.append_nil, List.cons_append, Nat.zero_add, Nat.reduceAdd, ne_eq, not_false_eq_true, eq_self, ev, Vq.look, List.map_cons, List.map_nil, and_true, true_and, Nat.reduceEqDiff, if_true, if_false, reduceCtorEq, ↓reduceIte]; rw [addR, if_neg (fun hq => absurd hq.2.1 (by assumption))]; exact ⟨rfl, rfl⟩)
    | (refine z_e rfl ?_; simp only [fin, finP, finM, ids, nodupB, tupP, tupM, memN, List.length_cons, List.length_nil, List.nil_append, List.append_nil, List.cons_append, Nat.zero_add, Nat.reduceAdd, ne_eq, not_false_eq_true, eq_self, ev, Vq.look, List.map_cons, List.map_nil, and_true, true_and, Nat.reduceEqDiff, if_true, if_false, reduceCtorEq, ↓reduceIte]; rw [addR, if_neg (fun hq => absurd hq.1 (by assumption))]; exact ⟨rfl, rfl⟩))
theorem takeR_len (s : List Int) (a x : Int) : (takeR s a x).1.length = s.length := by unfold takeR; split <;> simp
theorem addR_len (s : List Int) (a x : Int) : (addR s a x).1.length = s.length := by unfold addR; split <;> simp
/-! ### purchases -/
theorem canBuy_succ {l : List TOffer} {q : List Int} {k : Nat} (h : canBuy l q k) (hk : q.getD k default ≠ 0 → 0 ≤ pk l q k) : canBuy l q (k + 1) := by
  intro a ha
  rcases Nat.lt_succ_iff_lt_or_eq.1 ha with h' | rfl
  · exact h a h'
  · exact hk
/-- what is left of the first k, 0 for the others -/
def leftK (l : List TOffer) (q : List Int) (k : Nat) : List Int := (List.range k).map (leftA l q) ++ List.replicate (6 - k) 0
theorem leftK_len (l : List TOffer) (q : List Int) {k : Nat} (h : k ≤ 6) : (leftK l q k).length = 6 := by simp [leftK]; omega
theorem leftK_set (l : List TOffer) (q : List Int) {k : Nat} (h : k < 6) : (leftK l q k).set k (leftA l q k) = leftK l q (k + 1) := by
  unfold leftK
  rw [List.set_append, if_neg (by simp)]
  simp only [List.length_map, List.length_range, Nat.sub_self]
  rw [show 6 - k = (6 - (k + 1)) + 1 by omega, List.replicate_succ, List.set_cons_zero, List.range_succ, List.map_append]
  simp
theorem leftK_zero (l : List TOffer) (q : List Int) {k : Nat} (h : k < 6) (h0 : q.getD k default = 0) : leftK l q (k + 1) = leftK l q k := by
  rw [← leftK_set l q h]
  have : leftA l q k = (leftK l q k).getD k default := by
    rw [leftA, if_pos h0]
    unfold leftK
    rw [List.getD, List.getElem?_append_right (by simp)]
    simp [show 0 < 6 - k by omega]
  rw [this]
  have hk : k < (leftK l q k).length := by rw [leftK_len l q (by omega)]; exact h
  rw [List.getD, List.getElem?_eq_getElem hk]
  simp
theorem buy_bd {l : List TOffer} {q : List Int} {k : Nat} (hq : stockGood q) (hk : k < 6) (h : 0 ≤ pk l q k) :
    goodAt l (pk l q k).toNat ∧ (0 ≤ stepsV (l.getD (pk l q k).toNat default).2.1 (q.getD k default) ∧ stepsV (l.getD (pk l q k).toNat default).2.1 (q.getD k default) ≤ 1000000) ∧ (pk l q k).toNat < l.length
    ∧ (0 ≤ stepsV (l.getD (pk l q k).toNat default).2.1 (q.getD k default) * (l.getD (pk l q k).toNat default).2.1 ∧ stepsV (l.getD (pk l q k).toNat default).2.1 (q.getD k default) * (l.getD (pk l q k).toNat default).2.1 ≤ 1000000000)
    ∧ (0 ≤ costA l (q.getD k default) (pk l q k).toNat ∧ costA l (q.getD k default) (pk l q k).toNat ≤ 10000000000) := by
  obtain ⟨hg, hlt, hga⟩ := pk_good h
  have hn := all_getD.1 hq.2 k (by have := hq.1; omega)
  have hga' := hga
  unfold goodAt goodO at hga'
  have hs := stepsV_bd hga'.2.1 hn
  exact ⟨hga, hs, hlt, mul_bd (B := 1000) hs ⟨by omega, hga'.2.1.2⟩, costA_bd hga hn⟩
end Go.Proofs.Ytloeibdplgcgbaa
