/- Drawn stocks, what lacks, what is enough. No conditions. -/
import Derived.Test.YtloeibdplgcgbaaCurM
import Derived.Test.YtloeibdplgcgbaaStockE
namespace Go.Proofs.Ytloeibdplgcgbaa
open Go.Vq
set_option linter.unusedSimpArgs false
set_option maxHeartbeats 1000000
/-! ### drawn stocks -/
abbrev SSt := TCur × List Int
def stK (l : List Int) (t : Int) (c : TCur) : Nat → SSt
  | 0 => (c, [])
  | k + 1 => (curN l (stK l t c k).1, (stK l t c k).2 ++ [belV l (stK l t c k).1 t])
theorem stK_len (l : List Int) (t : Int) (c : TCur) : ∀ k, (stK l t c k).2.length = k
  | 0 => rfl
  | k + 1 => by simp [stK, stK_len l t c k]
theorem stK_bd (l : List Int) {t : Int} (c : TCur) (ht : 1 ≤ t) : ∀ k, ∀ x ∈ (stK l t c k).2, 0 ≤ x ∧ x < t
  | 0 => by simp [stK]
  | k + 1 => by
    intro x hx
    simp only [stK, List.mem_append, List.mem_singleton] at hx
    rcases hx with hx | rfl
    · exact stK_bd l c ht k x hx
    · exact belV_bd l _ ht
theorem stK_cur {l : List Int} {t : Int} {c : TCur} (hc : c.1 ≤ l.length) : ∀ k, (stK l t c k).1.1 ≤ l.length
  | 0 => hc
  | k + 1 => curN_le (stK_cur hc k)
theorem l31Stock_fn (l : List Int) (hl : l.length ≤ 1048576) (c : TCur) (hc : c.1 ≤ l.length) (t : Int) (ht : 1 ≤ t ∧ t ≤ 256) : FnMC Try.prog 52 [(false, [.ptr 0]), (false, [.val (.int .i64 t)])] [.box (eCur l c)] [.box (eCur l (stK l t c 6).1)] (.one (.own 3 dI ((stK l t c 6).2.map eI))) := by
  refine fn_zm (ty := ty) (ts := [.tmp 4]) [0, 1, 4, 5, 6, 9] mixed ty_ok Try.func52 (by kernel_rfl) rfl (by kernel_rfl) (by kernel_rfl) rfl (.inl rfl) (Nat.le_of_ble_eq_true rfl) (by simp only [likes, Mo.like, and_self]) rfl (by simp only [entryM, maV, Ma.sc, C.toS, Nat.zero_add, Nat.reduceAdd, List.map_cons, List.map_nil]; exact rfl) (by simp only [numb, Mo.ob, C.toS, List.map_cons, List.map_nil]; exact rfl) ?_
  repeat' (first
    | ((with_reducible refine z_run ?_); (conv => whnf))
    | (with_reducible apply z_t)
    | (with_reducible apply z_f)
    | ((with_reducible apply z_b); ((intro h); (try simp only [beq_self_eq_true, eq_self, not_true_eq_false, not_false_eq_true, decide_true, cond_true, cond_false, Bool.not_true, Bool.not_false, Bool.not_eq_true', Bool.not_eq_false', Bool.and_eq_true, Bool.and_eq_false_imp, Bool.or_eq_true, Bool.or_eq_false_iff, decide_eq_true_eq, decide_eq_false_iff_not, Bool.false_eq_true, reduceCtorEq, Int.not_le, Int.not_lt, Decidable.not_not] at h)); rotate_left; ((intro h); (try simp only [beq_self_eq_true, eq_self, not_true_eq_false, not_false_eq_true, decide_true, cond_true, cond_false, Bool.not_true, Bool.not_false, Bool.not_eq_true', Bool.not_eq_false', Bool.and_eq_true, Bool.and_eq_false_imp, Bool.or_eq_true, Bool.or_eq_false_iff, decide_eq_true_eq, decide_eq_false_iff_not, Bool.false_eq_true, reduceCtorEq, Int.not_le, Int.not_lt, Decidable.not_not] at h)))
    | (with_reducible refine z_r ?_ ?_)
    | (with_reducible refine z_wg ?_ ?_)
    | (with_reducible refine z_w ?_ ?_)
    | ((with_reducible apply sh_nil); (intro _))
    | ((with_reducible apply sh_int); (intro _))
    | ((with_reducible apply sh_bool); (intro _))
    | ((with_reducible apply sh_sl); (intro _))
    | (refine z_mm [_] (l01Below_fn l hl _ (by omega)) rfl rfl ⟨rfl, trivial⟩ rfl ?_)
    | ((with_reducible refine z_o ?zo ?_); (case zo => decide +kernel))
    | fail)
  refine z_li (fun k => k ≤ 6) (0 : Nat) (fun k => 6 - k) (fun k => ⟨[(0, .one (.bx 500000 0)), (1, .one (.int .i64 t)), (5, .one (.root 7)), (6, .one (.int .i64 k))], [(500000, .box ((eCur l (stK l t c k).1).map C.toS)), (7, .row 3 dI ((stK l t c k).2.map eI))]⟩) (by omega) ?_ ?_
  · simp only [List.length_map, fillTo_zero, Int.toNat_natCast, Option.isSome_some, and_self, fixB, Nat.reduceLeDiff, false_implies, true_implies, forall_const, St.le0, St.swaps, St.ren, mapV, renO, V.ren, Sc.ren, Ob.ren, swp, slsLe, obsLe, vLe, scLe, scsLe, obLe, Vq.look, Nat.reduceEqDiff, if_true, if_false, reduceCtorEq, ↓reduceIte, true_and, and_true, stK, eCur, C.toS, List.map_cons, List.map_nil]; and_intros <;> first | rfl | omega
  · intro k hk
    have hlen := stK_len l t c k
    repeat' (first
    | ((with_reducible refine z_run ?_); (conv => whnf))
    | (with_reducible apply z_t)
    | (with_reducible apply z_f)
    | ((with_reducible apply z_b); ((intro h); (try simp only [beq_self_eq_true, eq_self, not_true_eq_false, not_false_eq_true, decide_true, cond_true, cond_false, Bool.not_true, Bool.not_false, Bool.not_eq_true', Bool.not_eq_false', Bool.and_eq_true, Bool.and_eq_false_imp, Bool.or_eq_true, Bool.or_eq_false_iff, decide_eq_true_eq, decide_eq_false_iff_not, Bool.false_eq_true, reduceCtorEq, Int.not_le, Int.not_lt, Decidable.not_not] at h)); rotate_left; ((intro h); (try simp only [beq_self_eq_true, eq_self, not_true_eq_false, not_false_eq_true, decide_true, cond_true, cond_false, Bool.not_true, Bool.not_false, Bool.not_eq_true', Bool.not_eq_false', Bool.and_eq_true, Bool.and_eq_false_imp, Bool.or_eq_true, Bool.or_eq_false_iff, decide_eq_true_eq, decide_eq_false_iff_not, Bool.false_eq_true, reduceCtorEq, Int.not_le, Int.not_lt, Decidable.not_not] at h)))
    | (with_reducible refine z_r ?_ ?_)
    | (with_reducible refine z_wg ?_ ?_)
    | (with_reducible refine z_w ?_ ?_)
    | ((with_reducible apply sh_nil); (intro _))
    | ((with_reducible apply sh_int); (intro _))
    | ((with_reducible apply sh_bool); (intro _))
    | ((with_reducible apply sh_sl); (intro _))
    | (refine z_mm [_] (l01Below_fn l hl _ (by omega)) rfl rfl ⟨rfl, trivial⟩ rfl ?_)
    | ((with_reducible refine z_o ?zo ?_); (case zo => decide +kernel))
    | fail)
    all_goals ((try simp only [Int.toNat_natCast, tn1, tp1, List.length_map, eq_self, true_and, and_true] at *); (try simp (disch := omega) only [wr, Int.toNat_natCast, tn1, tp1, List.length_map, eq_self, true_and, and_true] at *))
    all_goals (first
      | omega
      | (simp only [List.length_map, List.length_cons, List.length_nil, hlen]; omega)
      | (refine z_em rfl rfl ?_ ?_ <;> simp only [fin, finP, finM, finO, Mo.ob, ids, nodupB, tupP, tupM, memN, ev, Vq.look, List.map_cons, List.map_nil, and_true, true_and, Nat.reduceEqDiff, if_true, if_false, reduceCtorEq, ↓reduceIte]
         · rw [show k = 6 by omega]
         · rw [show k = 6 by omega])
      | (refine z_n (k + 1) ⟨by omega, by omega⟩ ?_
         simp only [stK, List.map_append, eCur, C.toS, List.map_cons, List.map_nil]
         simp only [List.length_map, fillTo_zero, Int.toNat_natCast, Option.isSome_some, and_self, fixB, Nat.reduceLeDiff, false_implies, true_implies, forall_const, St.le0, St.swaps, St.ren, mapV, renO, V.ren, Sc.ren, Ob.ren, swp, slsLe, obsLe, vLe, scLe, scsLe, obLe, Vq.look, Nat.reduceEqDiff, if_true, if_false, reduceCtorEq, ↓reduceIte, true_and, and_true] <;> (and_intros <;> first | rfl | omega | assumption)))
/-! ### what lacks -/
def lackV (s n : List Int) (k : Nat) : Int := if n.getD k default - s.getD k default > 0 then n.getD k default - s.getD k default else 0
def lackL (s n : List Int) (k : Nat) : List Int := (List.range k).map (lackV s n)
def lackR (s n : List Int) : List Int := if stockGood s ∧ stockGood n then lackL s n 6 else []
theorem lackL_len (s n : List Int) (k : Nat) : (lackL s n k).length = k := by simp [lackL]
theorem lackL_succ (s n : List Int) (k : Nat) : lackL s n (k + 1) = lackL s n k ++ [lackV s n k] := by simp [lackL, List.range_succ]
theorem implLackOf (s n : List Int) (hs : s.length ≤ 2097152) (hn : n.length ≤ 2097152) : FnC Try.prog 34 [(false, [.sq dI (s.map eI)]), (false, [.sq dI (n.map eI)])] (.one (.own 3 dI ((lackR s n).map eI))) := by
  refine fn_z (ty := ty) (ts := [.tmp 4]) [0, 1, 4, 5, 6, 14, 17, 18, 19] mixed ty_ok Try.func34 (by kernel_rfl) rfl (by kernel_rfl) (by kernel_rfl) rfl (.inl rfl) (Nat.le_of_ble_eq_true rfl) (by simp only [entry, entryV, C.toS, Nat.zero_add, Nat.reduceAdd, List.map_cons, List.map_nil]; exact rfl) ?_
  repeat' (first
    | ((with_reducible refine z_run ?_); (conv => whnf))
    | (with_reducible apply z_t)
    | (with_reducible apply z_f)
    | ((with_reducible apply z_b); ((intro h); (try simp only [beq_self_eq_true, eq_self, not_true_eq_false, not_false_eq_true, decide_true, cond_true, cond_false, Bool.not_true, Bool.not_false, Bool.not_eq_true', Bool.not_eq_false', Bool.and_eq_true, Bool.and_eq_false_imp, Bool.or_eq_true, Bool.or_eq_false_iff, decide_eq_true_eq, decide_eq_false_iff_not, Bool.false_eq_true, reduceCtorEq, Int.not_le, Int.not_lt, Decidable.not_not] at h)); rotate_left; ((intro h); (try simp only [beq_self_eq_true, eq_self, not_true_eq_false, not_false_eq_true, decide_true, cond_true, cond_false, Bool.not_true, Bool.not_false, Bool.not_eq_true', Bool.not_eq_false', Bool.and_eq_true, Bool.and_eq_false_imp, Bool.or_eq_true, Bool.or_eq_false_iff, decide_eq_true_eq, decide_eq_false_iff_not, Bool.false_eq_true, reduceCtorEq, Int.not_le, Int.not_lt, Decidable.not_not] at h)))
    | (with_reducible refine z_r ?_ ?_)
    | (with_reducible refine z_wg ?_ ?_)
    | (with_reducible refine z_w ?_ ?_)
    | ((with_reducible apply sh_nil); (intro _))
    | ((with_reducible apply sh_int); (intro _))
    | ((with_reducible apply sh_bool); (intro _))
    | ((with_reducible apply sh_sl); (intro _))
    | (with_reducible refine z_k (implStockOk _ (by omega)) ?_)
    | ((with_reducible refine z_o ?zo ?_); (case zo => decide +kernel))
    | fail)
  all_goals ((try simp only [Int.toNat_natCast, tn1, tp1, List.length_map, eq_self, true_and, and_true] at *); (try simp (disch := omega) only [wr, Int.toNat_natCast, tn1, tp1, List.length_map, eq_self, true_and, and_true] at *))
  · have hs6 : stockGood s := by assumption
    have hn6 : stockGood n := by assumption
    have h6 := hs6.1
    have h7 := hn6.1
    refine z_li (fun k => k ≤ 6) (0 : Nat) (fun k => 6 - k) (fun k => ⟨[(0, .one (.ro dI (s.map eI))), (1, .one (.ro dI (n.map eI))), (5, .one (.root 15)), (17, .one (.int .i64 s.length)), (18, .one (.int .i64 k))], [(15, .row 3 dI ((lackL s n k).map eI))]⟩) (by omega) ?_ ?_
    · simp only [List.length_map, fillTo_zero, Int.toNat_natCast, Option.isSome_some, and_self, fixB, Nat.reduceLeDiff, false_implies, true_implies, forall_const, St.le0, St.swaps, St.ren, mapV, renO, V.ren, Sc.ren, Ob.ren, swp, slsLe, obsLe, vLe, scLe, scsLe, obLe, Vq.look, Nat.reduceEqDiff, if_true, if_false, reduceCtorEq, ↓reduceIte, true_and, and_true] <;> (and_intros <;> first | rfl | omega | assumption)
    · intro k hk
      have hlen := lackL_len s n k
      have hb1 : k < 6 → 0 ≤ s.getD k default ∧ s.getD k default ≤ 1000000 := fun h => all_getD.1 hs6.2 k (by omega)
      have hb2 : k < 6 → 0 ≤ n.getD k default ∧ n.getD k default ≤ 1000000 := fun h => all_getD.1 hn6.2 k (by omega)
      repeat' (first
    | ((with_reducible refine z_run ?_); (conv => whnf))
    | (with_reducible apply z_t)
    | (with_reducible apply z_f)
    | ((with_reducible apply z_b); ((intro h); (try simp only [beq_self_eq_true, eq_self, not_true_eq_false, not_false_eq_true, decide_true, cond_true, cond_false, Bool.not_true, Bool.not_false, Bool.not_eq_true', Bool.not_eq_false', Bool.and_eq_true, Bool.and_eq_false_imp, Bool.or_eq_true, Bool.or_eq_false_iff, decide_eq_true_eq, decide_eq_false_iff_not, Bool.false_eq_true, reduceCtorEq, Int.not_le, Int.not_lt, Decidable.not_not] at h)); rotate_left; ((intro h); (try simp only [beq_self_eq_true, eq_self, not_true_eq_false, not_false_eq_true, decide_true, cond_true, cond_false, Bool.not_true, Bool.not_false, Bool.not_eq_true', Bool.not_eq_false', Bool.and_eq_true, Bool.and_eq_false_imp, Bool.or_eq_true, Bool.or_eq_false_iff, decide_eq_true_eq, decide_eq_false_iff_not, Bool.false_eq_true, reduceCtorEq, Int.not_le, Int.not_lt, Decidable.not_not] at h)))
    | (with_reducible refine z_r ?_ ?_)
    | (with_reducible refine z_wg ?_ ?_)
    | (with_reducible refine z_w ?_ ?_)
    | ((with_reducible apply sh_nil); (intro _))
    | ((with_reducible apply sh_int); (intro _))
    | ((with_reducible apply sh_bool); (intro _))
    | ((with_reducible apply sh_sl); (intro _))
    | (refine z_dp [[0, 1, 2, 3, 5, 6, 7, 4, 8, 9, 10, 11, 12, 13], [0, 1, 2, 3, 5, 6, 7, 8, 4, 9, 10, 11, 12, 13]] (by decide +kernel) ?_ ?_ ?_)
    | exact allP_n
    | (refine allP_c ?_ ?_)
    | ((refine z_sn0 ?_); (simp only [List.length_map, fillTo_zero, Int.toNat_natCast, Option.isSome_some, and_self, fixB, Nat.reduceLeDiff, false_implies, true_implies, forall_const, St.le0, St.swaps, St.ren, mapV, renO, V.ren, Sc.ren, Ob.ren, swp, slsLe, obsLe, vLe, scLe, scsLe, obLe, Vq.look, Nat.reduceEqDiff, if_true, if_false, reduceCtorEq, ↓reduceIte, true_and, and_true] <;> (and_intros <;> first | rfl | omega | assumption); done))
    | ((refine z_sn ?_); (simp only [List.length_map, fillTo_zero, Int.toNat_natCast, Option.isSome_some, and_self, fixB, Nat.reduceLeDiff, false_implies, true_implies, forall_const, St.le0, St.swaps, St.ren, mapV, renO, V.ren, Sc.ren, Ob.ren, swp, slsLe, obsLe, vLe, scLe, scsLe, obLe, Vq.look, Nat.reduceEqDiff, if_true, if_false, reduceCtorEq, ↓reduceIte, true_and, and_true] <;> (and_intros <;> first | rfl | omega | assumption); done))
    | ((with_reducible refine z_o ?zo ?_); (case zo => decide +kernel))
    | fail)
      all_goals ((try simp only [Int.toNat_natCast, tn1, tp1, List.length_map, eq_self, true_and, and_true] at *); (try simp (disch := omega) only [wr, Int.toNat_natCast, tn1, tp1, List.length_map, eq_self, true_and, and_true] at *))
      all_goals (first
        | omega
        | (simp only [List.length_map, List.length_cons, List.length_nil, hlen]; omega)
        | (refine z_e rfl ?_; simp only [fin, finP, finM, ids, nodupB, tupP, tupM, memN, List.length_cons, List.length_nil, List.nil_append, List.append_nil, List.cons_append, Nat.zero_add, Nat.reduceAdd, ne_eq, not_false_eq_true, eq_self, ev, Vq.look, List.map_cons, List.map_nil, and_true, true_and, Nat.reduceEqDiff, if_true, if_false, reduceCtorEq, ↓reduceIte]; rw [lackR, if_pos ⟨hs6, hn6⟩, show k = 6 by omega])
        | (have hc1 := hb1 (by omega)
           have hc2 := hb2 (by omega)
           refine z_n (k + 1) ⟨by omega, by omega⟩ ?_
           try rw [wr (x := n.getD k default - s.getD k default) ⟨by omega, by omega⟩]
           have e : (if 0 > n.getD k default - s.getD k default then 0 else n.getD k default - s.getD k default) = lackV s n k := by unfold lackV; split <;> split <;> omega
           rw [e, lackL_succ, List.map_append]
           simp only [List.length_map, fillTo_zero, Int.toNat_natCast, Option.isSome_some, and_self, fixB, Nat.reduceLeDiff, false_implies, true_implies, forall_const, St.le0, St.swaps, St.ren, mapV, renO, V.ren, Sc.ren, Ob.ren, swp, slsLe, obsLe, vLe, scLe, scsLe, obLe, Vq.look, Nat.reduceEqDiff, if_true, if_false, reduceCtorEq, ↓reduceIte, true_and, and_true] <;> (and_intros <;> first | rfl | omega | assumption)))
  all_goals (refine z_e rfl ?_; simp only [fin, finP, finM, ids, nodupB, tupP, tupM, memN, List.length_cons, List.length_nil, List.nil_append, List.append_nil, List.cons_append, Nat.zero_add, Nat.reduceAdd, ne_eq, not_false_eq_true, eq_self, ev, Vq.look, List.map_cons, List.map_nil, and_true, true_and, Nat.reduceEqDiff, if_true, if_false, reduceCtorEq, ↓reduceIte]; rw [lackR, if_neg]; rfl; intro hq; first | exact h hq.2 | exact h hq.1)
def timesK (s n : List Int) : Nat → Int
  | 0 => 1000000
  | k + 1 => if 0 < n.getD k default then (if s.getD k default / n.getD k default < timesK s n k then s.getD k default / n.getD k default else timesK s n k) else timesK s n k
def timesR (s n : List Int) : Int := if stockGood s ∧ stockGood n then timesK s n 6 else -1
theorem ediv_bd {a b : Int} (ha : 0 ≤ a) (hb : 0 < b) : 0 ≤ a / b ∧ a / b ≤ a := by
  refine ⟨Int.ediv_nonneg ha (by omega), ?_⟩
  have h1 : a * 1 ≤ a * b := Int.mul_le_mul_of_nonneg_left (by omega) ha
  have h2 : a / b < a + 1 := Int.ediv_lt_of_lt_mul hb (by rw [Int.add_mul]; omega)
  omega
theorem implTimesEnough (s n : List Int) (hs : s.length ≤ 2097152) (hn : n.length ≤ 2097152) : FnC Try.prog 35 [(false, [.sq dI (s.map eI)]), (false, [.sq dI (n.map eI)])] (.one (.int .i64 (timesR s n))) := by
  refine fn_z (ty := ty) (ts := [.tmp 4]) [0, 1, 4, 5, 6, 7, 15, 16, 17, 18, 19, 24] mixed ty_ok Try.func35 (by kernel_rfl) rfl (by kernel_rfl) (by kernel_rfl) rfl (.inl rfl) (Nat.le_of_ble_eq_true rfl) (by simp only [entry, entryV, C.toS, Nat.zero_add, Nat.reduceAdd, List.map_cons, List.map_nil]; exact rfl) ?_
  repeat' (first
    | ((with_reducible refine z_run ?_); (conv => whnf))
    | (with_reducible apply z_t)
    | (with_reducible apply z_f)
    | ((with_reducible apply z_b); ((intro h); (try simp only [beq_self_eq_true, eq_self, not_true_eq_false, not_false_eq_true, decide_true, cond_true, cond_false, Bool.not_true, Bool.not_false, Bool.not_eq_true', Bool.not_eq_false', Bool.and_eq_true, Bool.and_eq_false_imp, Bool.or_eq_true, Bool.or_eq_false_iff, decide_eq_true_eq, decide_eq_false_iff_not, Bool.false_eq_true, reduceCtorEq, Int.not_le, Int.not_lt, Decidable.not_not] at h)); rotate_left; ((intro h); (try simp only [beq_self_eq_true, eq_self, not_true_eq_false, not_false_eq_true, decide_true, cond_true, cond_false, Bool.not_true, Bool.not_false, Bool.not_eq_true', Bool.not_eq_false', Bool.and_eq_true, Bool.and_eq_false_imp, Bool.or_eq_true, Bool.or_eq_false_iff, decide_eq_true_eq, decide_eq_false_iff_not, Bool.false_eq_true, reduceCtorEq, Int.not_le, Int.not_lt, Decidable.not_not] at h)))
    | (with_reducible refine z_r ?_ ?_)
    | (with_reducible refine z_wg ?_ ?_)
    | (with_reducible refine z_w ?_ ?_)
    | ((with_reducible apply sh_nil); (intro _))
    | ((with_reducible apply sh_int); (intro _))
    | ((with_reducible apply sh_bool); (intro _))
    | ((with_reducible apply sh_sl); (intro _))
    | (with_reducible refine z_k (implStockOk _ (by omega)) ?_)
    | ((with_reducible refine z_o ?zo ?_); (case zo => decide +kernel))
    | fail)
  all_goals ((try simp only [Int.toNat_natCast, tn1, tp1, List.length_map, eq_self, true_and, and_true] at *); (try simp (disch := omega) only [wr, Int.toNat_natCast, tn1, tp1, List.length_map, eq_self, true_and, and_true] at *))
  · have hs6 : stockGood s := by assumption
    have hn6 : stockGood n := by assumption
    have h6 := hs6.1
    have h7 := hn6.1
    refine z_li (fun k => k ≤ 6) (0 : Nat) (fun k => 6 - k) (fun k => ⟨[(0, .one (.ro dI (s.map eI))), (1, .one (.ro dI (n.map eI))), (5, .one (.int .i64 (timesK s n k))), (16, .one (.ro dI (n.map eI))), (17, .one (.int .i64 n.length)), (18, .one (.int .i64 k))], []⟩) (by omega) ?_ ?_
    · simp only [List.length_map, fillTo_zero, Int.toNat_natCast, Option.isSome_some, and_self, fixB, Nat.reduceLeDiff, false_implies, true_implies, forall_const, St.le0, St.swaps, St.ren, mapV, renO, V.ren, Sc.ren, Ob.ren, swp, slsLe, obsLe, vLe, scLe, scsLe, obLe, Vq.look, Nat.reduceEqDiff, if_true, if_false, reduceCtorEq, ↓reduceIte, true_and, and_true] <;> (and_intros <;> first | rfl | omega | assumption)
    · intro k hk
      have hb1 : k < 6 → 0 ≤ s.getD k default ∧ s.getD k default ≤ 1000000 := fun h => all_getD.1 hs6.2 k (by omega)
      have hb2 : k < 6 → 0 ≤ n.getD k default ∧ n.getD k default ≤ 1000000 := fun h => all_getD.1 hn6.2 k (by omega)
      repeat' (first
    | ((with_reducible refine z_run ?_); (conv => whnf))
    | (with_reducible apply z_t)
    | (with_reducible apply z_f)
    | ((with_reducible apply z_b); ((intro h); (try simp only [beq_self_eq_true, eq_self, not_true_eq_false, not_false_eq_true, decide_true, cond_true, cond_false, Bool.not_true, Bool.not_false, Bool.not_eq_true', Bool.not_eq_false', Bool.and_eq_true, Bool.and_eq_false_imp, Bool.or_eq_true, Bool.or_eq_false_iff, decide_eq_true_eq, decide_eq_false_iff_not, Bool.false_eq_true, reduceCtorEq, Int.not_le, Int.not_lt, Decidable.not_not] at h)); rotate_left; ((intro h); (try simp only [beq_self_eq_true, eq_self, not_true_eq_false, not_false_eq_true, decide_true, cond_true, cond_false, Bool.not_true, Bool.not_false, Bool.not_eq_true', Bool.not_eq_false', Bool.and_eq_true, Bool.and_eq_false_imp, Bool.or_eq_true, Bool.or_eq_false_iff, decide_eq_true_eq, decide_eq_false_iff_not, Bool.false_eq_true, reduceCtorEq, Int.not_le, Int.not_lt, Decidable.not_not] at h)))
    | (with_reducible refine z_r ?_ ?_)
    | (with_reducible refine z_wg ?_ ?_)
    | (with_reducible refine z_w ?_ ?_)
    | ((with_reducible apply sh_nil); (intro _))
    | ((with_reducible apply sh_int); (intro _))
    | ((with_reducible apply sh_bool); (intro _))
    | ((with_reducible apply sh_sl); (intro _))
    | ((with_reducible refine z_o ?zo ?_); (case zo => decide +kernel))
    | fail)
      all_goals ((try simp only [Int.toNat_natCast, tn1, tp1, List.length_map, eq_self, true_and, and_true] at *); (try simp (disch := omega) only [wr, Int.toNat_natCast, tn1, tp1, List.length_map, eq_self, true_and, and_true] at *))
      all_goals (first
        | omega
        | (simp only [List.length_map, List.length_cons, List.length_nil]; omega)
        | (refine z_e rfl ?_; simp only [fin, finP, finM, ids, nodupB, tupP, tupM, memN, List.length_cons, List.length_nil, List.nil_append, List.append_nil, List.cons_append, Nat.zero_add, Nat.reduceAdd, ne_eq, not_false_eq_true, eq_self, ev, Vq.look, List.map_cons, List.map_nil, and_true, true_and, Nat.reduceEqDiff, if_true, if_false, reduceCtorEq, ↓reduceIte]; rw [timesR, if_pos ⟨hs6, hn6⟩, show k = 6 by omega])
        | (have hc1 := hb1 (by omega)
           have hc2 := hb2 (by omega)
           refine z_n (k + 1) ⟨by omega, by omega⟩ ?_
           first
             | (rw [timesK, if_neg (by omega)]; simp only [List.length_map, fillTo_zero, Int.toNat_natCast, Option.isSome_some, and_self, fixB, Nat.reduceLeDiff, false_implies, true_implies, forall_const, St.le0, St.swaps, St.ren, mapV, renO, V.ren, Sc.ren, Ob.ren, swp, slsLe, obsLe, vLe, scLe, scsLe, obLe, Vq.look, Nat.reduceEqDiff, if_true, if_false, reduceCtorEq, ↓reduceIte, true_and, and_true] <;> (and_intros <;> first | rfl | omega | assumption))
             | (have hd := ediv_bd (a := s.getD k default) (b := n.getD k default) (by omega) (by omega)
                rw [tdiv_pos (by omega), wr (x := s.getD k default / n.getD k default) ⟨by omega, by omega⟩] at *
                simp only [timesK, if_pos (show 0 < n.getD k default by omega), List.length_map, fillTo_zero, Int.toNat_natCast, Option.isSome_some, and_self, fixB, Nat.reduceLeDiff, false_implies, true_implies, forall_const, St.le0, St.swaps, St.ren, mapV, renO, V.ren, Sc.ren, Ob.ren, swp, slsLe, obsLe, vLe, scLe, scsLe, obLe, Vq.look, Nat.reduceEqDiff, if_true, if_false, reduceCtorEq, ↓reduceIte, true_and, and_true]; and_intros <;> first | rfl | omega | (split <;> split <;> first | rfl | omega))))
  all_goals (refine z_e rfl ?_; simp only [fin, finP, finM, ids, nodupB, tupP, tupM, memN, List.length_cons, List.length_nil, List.nil_append, List.append_nil, List.cons_append, Nat.zero_add, Nat.reduceAdd, ne_eq, not_false_eq_true, eq_self, ev, Vq.look, List.map_cons, List.map_nil, and_true, true_and, Nat.reduceEqDiff, if_true, if_false, reduceCtorEq, ↓reduceIte]; rw [timesR, if_neg]; intro hq; first | exact h hq.2 | exact h hq.1)
/-! ### what is enough -/
def enough (s n : List Int) : Prop := stockGood s ∧ stockGood n ∧ ∀ k, k < 6 → n.getD k default ≤ s.getD k default
instance (s n : List Int) : Decidable (enough s n) := by unfold enough; infer_instance
theorem lack0 (s n : List Int) : (∀ x ∈ lackL s n 6, 0 ≤ x ∧ x ≤ 0) ↔ ∀ k, k < 6 → n.getD k default ≤ s.getD k default := by
  simp only [lackL, List.mem_map, List.mem_range, forall_exists_index, and_imp, forall_apply_eq_imp_iff₂]
  constructor
  · intro h k hk
    have := h k hk
    unfold lackV at this
    split at this <;> omega
  · intro h k hk
    have := h k hk
    unfold lackV
    split <;> omega
theorem lackR_len (s n : List Int) : (lackR s n).length ≤ 6 := by unfold lackR; split <;> simp [lackL]
theorem isStock0_fn (s : List Int) (hs : s.length ≤ 2097152) : FnC Try.prog 53 [(false, [.sq dI (s.map eI)])] (.one (.bool (decide (∀ x ∈ s, 0 ≤ x ∧ x ≤ 0)))) := by
  refine fn_z (ty := ty) (ts := [.tmp 2]) [0, 2] mixed ty_ok Try.func53 (by kernel_rfl) rfl (by kernel_rfl) (by kernel_rfl) rfl (.inl rfl) (Nat.le_of_ble_eq_true rfl) (by simp only [entry, entryV, C.toS, Nat.zero_add, Nat.reduceAdd, List.map_cons, List.map_nil]; exact rfl) ?_
  repeat' (first
    | ((with_reducible refine z_run ?_); (conv => whnf))
    | (with_reducible apply z_t)
    | (with_reducible apply z_f)
    | ((with_reducible apply z_b); ((intro h); (try simp only [beq_self_eq_true, eq_self, not_true_eq_false, not_false_eq_true, decide_true, cond_true, cond_false, Bool.not_true, Bool.not_false, Bool.not_eq_true', Bool.not_eq_false', Bool.and_eq_true, Bool.and_eq_false_imp, Bool.or_eq_true, Bool.or_eq_false_iff, decide_eq_true_eq, decide_eq_false_iff_not, Bool.false_eq_true, reduceCtorEq, Int.not_le, Int.not_lt, Decidable.not_not] at h)); rotate_left; ((intro h); (try simp only [beq_self_eq_true, eq_self, not_true_eq_false, not_false_eq_true, decide_true, cond_true, cond_false, Bool.not_true, Bool.not_false, Bool.not_eq_true', Bool.not_eq_false', Bool.and_eq_true, Bool.and_eq_false_imp, Bool.or_eq_true, Bool.or_eq_false_iff, decide_eq_true_eq, decide_eq_false_iff_not, Bool.false_eq_true, reduceCtorEq, Int.not_le, Int.not_lt, Decidable.not_not] at h)))
    | (with_reducible refine z_r ?_ ?_)
    | (with_reducible refine z_wg ?_ ?_)
    | (with_reducible refine z_w ?_ ?_)
    | ((with_reducible apply sh_nil); (intro _))
    | ((with_reducible apply sh_int); (intro _))
    | ((with_reducible apply sh_bool); (intro _))
    | ((with_reducible apply sh_sl); (intro _))
    | (with_reducible refine z_k (allWithin_fn _ _ _ hs) ?_)
    | ((with_reducible refine z_o ?zo ?_); (case zo => decide +kernel))
    | fail)
  all_goals refine z_e rfl ?_; simp only [fin, finP, finM, ids, nodupB, tupP, tupM, memN, List.length_cons, List.length_nil, List.nil_append, List.append_nil, List.cons_append, Nat.zero_add, Nat.reduceAdd, ne_eq, not_false_eq_true, eq_self, ev, Vq.look, List.map_cons, List.map_nil, and_true, true_and, Nat.reduceEqDiff, if_true, if_false, reduceCtorEq, ↓reduceIte]
theorem implEnoughFor (s n : List Int) (hs : s.length ≤ 2097152) (hn : n.length ≤ 2097152) : FnC Try.prog 36 [(false, [.sq dI (s.map eI)]), (false, [.sq dI (n.map eI)])] (.one (.bool (decide (enough s n)))) := by
  have hl := lackR_len s n
  refine fn_z (ty := ty) (ts := [.tmp 4]) [0, 1, 4] mixed ty_ok Try.func36 (by kernel_rfl) rfl (by kernel_rfl) (by kernel_rfl) rfl (.inl rfl) (Nat.le_of_ble_eq_true rfl) (by simp only [entry, entryV, C.toS, Nat.zero_add, Nat.reduceAdd, List.map_cons, List.map_nil]; exact rfl) ?_
  repeat' (first
    | ((with_reducible refine z_run ?_); (conv => whnf))
    | (with_reducible apply z_t)
    | (with_reducible apply z_f)
    | ((with_reducible apply z_b); ((intro h); (try simp only [beq_self_eq_true, eq_self, not_true_eq_false, not_false_eq_true, decide_true, cond_true, cond_false, Bool.not_true, Bool.not_false, Bool.not_eq_true', Bool.not_eq_false', Bool.and_eq_true, Bool.and_eq_false_imp, Bool.or_eq_true, Bool.or_eq_false_iff, decide_eq_true_eq, decide_eq_false_iff_not, Bool.false_eq_true, reduceCtorEq, Int.not_le, Int.not_lt, Decidable.not_not] at h)); rotate_left; ((intro h); (try simp only [beq_self_eq_true, eq_self, not_true_eq_false, not_false_eq_true, decide_true, cond_true, cond_false, Bool.not_true, Bool.not_false, Bool.not_eq_true', Bool.not_eq_false', Bool.and_eq_true, Bool.and_eq_false_imp, Bool.or_eq_true, Bool.or_eq_false_iff, decide_eq_true_eq, decide_eq_false_iff_not, Bool.false_eq_true, reduceCtorEq, Int.not_le, Int.not_lt, Decidable.not_not] at h)))
    | (with_reducible refine z_r ?_ ?_)
    | (with_reducible refine z_wg ?_ ?_)
    | (with_reducible refine z_w ?_ ?_)
    | ((with_reducible apply sh_nil); (intro _))
    | ((with_reducible apply sh_int); (intro _))
    | ((with_reducible apply sh_bool); (intro _))
    | ((with_reducible apply sh_sl); (intro _))
    | (with_reducible refine z_k (implStockOk _ (by omega)) ?_)
    | (with_reducible refine z_k (implLackOf _ _ hs hn) ?_)
    | (with_reducible refine z_k (isStock0_fn _ (by omega)) ?_)
    | ((with_reducible refine z_o ?zo ?_); (case zo => decide +kernel))
    | fail)
  all_goals ((try simp only [Int.toNat_natCast, tn1, tp1, List.length_map, eq_self, true_and, and_true] at *); (try simp (disch := omega) only [wr, Int.toNat_natCast, tn1, tp1, List.length_map, eq_self, true_and, and_true] at *))
  all_goals (first
    | omega
    | (refine z_e rfl ?_; simp only [fin, finP, finM, ids, nodupB, tupP, tupM, memN, List.length_cons, List.length_nil, List.nil_append, List.append_nil, List.cons_append, Nat.zero_add, Nat.reduceAdd, ne_eq, not_false_eq_true, eq_self, ev, Vq.look, List.map_cons, List.map_nil, and_true, true_and, Nat.reduceEqDiff, if_true, if_false, reduceCtorEq, ↓reduceIte]; rw [lackR, if_pos ⟨by assumption, by assumption⟩]; exact decide_eq_decide.2 ((lack0 s n).trans ⟨fun h => ⟨by assumption, by assumption, h⟩, fun h => h.2.2⟩))
    | (refine z_e rfl ?_; simp only [fin, finP, finM, ids, nodupB, tupP, tupM, memN, List.length_cons, List.length_nil, List.nil_append, List.append_nil, List.cons_append, Nat.zero_add, Nat.reduceAdd, ne_eq, not_false_eq_true, eq_self, ev, Vq.look, List.map_cons, List.map_nil, and_true, true_and, Nat.reduceEqDiff, if_true, if_false, reduceCtorEq, ↓reduceIte]; refine (decide_eq_false fun hq => ?_).symm; first | exact absurd hq.2.1 (by assumption) | exact absurd hq.1 (by assumption)))
theorem enough_t {s n : List Int} (hs : s.length ≤ 2097152) (hn : n.length ≤ 2097152) (h : enough s n) : FnC Try.prog 36 [(false, [.sq dI (s.map eI)]), (false, [.sq dI (n.map eI)])] (.one (.bool true)) := by
  have := implEnoughFor s n hs hn; rwa [decide_eq_true h] at this
theorem enough_f {s n : List Int} (hs : s.length ≤ 2097152) (hn : n.length ≤ 2097152) (h : ¬ enough s n) : FnC Try.prog 36 [(false, [.sq dI (s.map eI)]), (false, [.sq dI (n.map eI)])] (.one (.bool false)) := by
  have := implEnoughFor s n hs hn; rwa [decide_eq_false h] at this
theorem draw_fn (l : List Int) (hl : l.length ≤ 1048576) : FnC Try.prog 31 [(false, [.sq dU (l.map eU)])] (.tup [(false, [.own 3 dI ((stK l 200 (curZ l) 6).2.map eI)]), (false, [.own 3 dI ((stK l 80 (stK l 200 (curZ l) 6).1 6).2.map eI)])]) := by
  have h0 : (curZ l).1 ≤ l.length := by simp [curZ]
  have h1 := stK_cur (t := 200) h0 6
  refine fn_z (ty := ty) (ts := [.tmp 2, .tmp 3]) [0, 2, 3, 4, 5] mixed ty_ok Try.func31 (by kernel_rfl) rfl (by kernel_rfl) (by kernel_rfl) rfl (.inr (.inl rfl)) (Nat.le_of_ble_eq_true rfl) (by simp only [entry, entryV, C.toS, Nat.zero_add, Nat.reduceAdd, List.map_cons, List.map_nil]; exact rfl) ?_
  repeat' (first
    | ((with_reducible refine z_run ?_); (conv => whnf))
    | (with_reducible apply z_t)
    | (with_reducible apply z_f)
    | ((with_reducible apply z_b); ((intro h); (try simp only [beq_self_eq_true, eq_self, not_true_eq_false, not_false_eq_true, decide_true, cond_true, cond_false, Bool.not_true, Bool.not_false, Bool.not_eq_true', Bool.not_eq_false', Bool.and_eq_true, Bool.and_eq_false_imp, Bool.or_eq_true, Bool.or_eq_false_iff, decide_eq_true_eq, decide_eq_false_iff_not, Bool.false_eq_true, reduceCtorEq, Int.not_le, Int.not_lt, Decidable.not_not] at h)); rotate_left; ((intro h); (try simp only [beq_self_eq_true, eq_self, not_true_eq_false, not_false_eq_true, decide_true, cond_true, cond_false, Bool.not_true, Bool.not_false, Bool.not_eq_true', Bool.not_eq_false', Bool.and_eq_true, Bool.and_eq_false_imp, Bool.or_eq_true, Bool.or_eq_false_iff, decide_eq_true_eq, decide_eq_false_iff_not, Bool.false_eq_true, reduceCtorEq, Int.not_le, Int.not_lt, Decidable.not_not] at h)))
    | (with_reducible refine z_r ?_ ?_)
    | (with_reducible refine z_wg ?_ ?_)
    | (with_reducible refine z_w ?_ ?_)
    | ((with_reducible apply sh_nil); (intro _))
    | ((with_reducible apply sh_int); (intro _))
    | ((with_reducible apply sh_bool); (intro _))
    | ((with_reducible apply sh_sl); (intro _))
    | (with_reducible refine z_k (l01New_fn l hl) ?_)
    | (refine z_mm [_] (l31Stock_fn l hl _ (by assumption) _ (by omega)) rfl rfl ⟨rfl, trivial⟩ rfl ?_)
    | ((with_reducible refine z_o ?zo ?_); (case zo => decide +kernel))
    | fail)
  all_goals refine z_e rfl ?_; simp only [fin, finP, finM, ids, nodupB, tupP, tupM, memN, List.length_cons, List.length_nil, List.nil_append, List.append_nil, List.cons_append, Nat.zero_add, Nat.reduceAdd, ne_eq, not_false_eq_true, eq_self, ev, Vq.look, List.map_cons, List.map_nil, and_true, true_and, Nat.reduceEqDiff, if_true, if_false, reduceCtorEq, ↓reduceIte]
/-! ### how often there is enough -/
theorem timesK_facts {s n : List Int} (hs : ∀ k, 0 ≤ s.getD k default) : ∀ K, 0 ≤ timesK s n K ∧ timesK s n K ≤ 1000000 ∧ (∀ k, k < K → 0 < n.getD k default → n.getD k default * timesK s n K ≤ s.getD k default) ∧ (timesK s n K = 1000000 ∨ ∃ k, k < K ∧ 0 < n.getD k default ∧ s.getD k default < n.getD k default * (timesK s n K + 1))
  | 0 => ⟨by simp [timesK], by simp [timesK], fun k hk => by omega, .inl rfl⟩
  | K + 1 => by
    obtain ⟨h1, h2, h3, h4⟩ := timesK_facts (n := n) hs K
    simp only [timesK]
    by_cases hn : 0 < n.getD K default
    · have hd := ediv_bd (hs K) hn
      have hm : n.getD K default * (s.getD K default / n.getD K default) ≤ s.getD K default := by
        have := Int.ediv_mul_le (s.getD K default) (b := n.getD K default) (by omega)
        rw [Int.mul_comm]; exact this
      have hg : s.getD K default < n.getD K default * (s.getD K default / n.getD K default + 1) := by
        have := Int.lt_ediv_add_one_mul_self (s.getD K default) hn
        rw [Int.mul_comm]; exact this
      rw [if_pos hn]
      by_cases hc : s.getD K default / n.getD K default < timesK s n K
      · rw [if_pos hc]
        refine ⟨by omega, by omega, fun k hk hnk => ?_, .inr ⟨K, by omega, hn, hg⟩⟩
        by_cases hk2 : k < K
        · exact Int.le_trans (Int.mul_le_mul_of_nonneg_left (by omega) (by omega)) (h3 k hk2 hnk)
        · rw [show k = K by omega]; exact hm
      · rw [if_neg hc]
        refine ⟨h1, h2, fun k hk hnk => ?_, ?_⟩
        · by_cases hk2 : k < K
          · exact h3 k hk2 hnk
          · rw [show k = K by omega]
            exact Int.le_trans (Int.mul_le_mul_of_nonneg_left (by omega) (by omega)) hm
        · rcases h4 with h | ⟨k, hk, h⟩
          · exact .inl h
          · exact .inr ⟨k, by omega, h⟩
    · rw [if_neg hn]
      refine ⟨h1, h2, fun k hk hnk => ?_, ?_⟩
      · by_cases hk2 : k < K
        · exact h3 k hk2 hnk
        · rw [show k = K by omega] at hnk; omega
      · rcases h4 with h | ⟨k, hk, h⟩
        · exact .inl h
        · exact .inr ⟨k, by omega, h⟩
end Go.Proofs.Ytloeibdplgcgbaa
