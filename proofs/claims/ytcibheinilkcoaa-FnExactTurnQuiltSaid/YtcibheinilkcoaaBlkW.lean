/- Blocks that are the same; what holds from which sides. No conditions. -/
import Derived.Test.YtcibheinilkcoaaBlkV
namespace Go.Proofs.Ytcibheinilkcoaa
open Go.Vq
set_option linter.unusedSimpArgs false
set_option maxHeartbeats 1000000
def viewL (b : TBlk) (m : Nat) : List TBlk := (List.range m).map fun k : Nat => seenB b k
theorem viewL_len (b : TBlk) (m : Nat) : (viewL b m).length = m := by simp [viewL]
theorem viewL_succ (b : TBlk) (m : Nat) : viewL b (m + 1) = viewL b m ++ [seenB b m] := by simp [viewL, List.range_succ]
theorem viewL_get (b : TBlk) {m k : Nat} (h : k < m) : (viewL b m).getD k default = seenB b k := by
  simp [viewL, List.getD, h]
theorem viewL_c (b : TBlk) (m k : Nat) : ((viewL b m).getD k default).2.length ≤ 16 := by
  by_cases h : k < m
  · rw [viewL_get b h]; exact seenB_len _ _
  · rw [List.getD_eq_getElem?_getD, List.getElem?_eq_none (by rw [viewL_len]; omega)]; exact Nat.zero_le _
def sideL (q : Nat → Bool) (m : Nat) : List Int := ((List.range m).filter q).map fun k : Nat => (k : Int)
theorem sideL_t {q : Nat → Bool} {m : Nat} (h : q m = true) : sideL q (m + 1) = sideL q m ++ [(m : Int)] := by simp [sideL, List.range_succ, h]
theorem sideL_f {q : Nat → Bool} {m : Nat} (h : q m = false) : sideL q (m + 1) = sideL q m := by simp [sideL, List.range_succ, h]
theorem sideL_len (q : Nat → Bool) (m : Nat) : (sideL q m).length ≤ m := by
  rw [sideL, List.length_map]
  exact Nat.le_trans (List.length_filter_le ..) (by simp)
theorem implSeenF (n : Int) (c : List TCell) (hl : c.length ≤ 1048576) (k : Int) : FnC Try.prog 126 [aB n c, (false, [.int .i64 k])] (.agg [.int .i64 (seenB (n, c) k).1, .fz dCell ((seenB (n, c) k).2.map eCell)]) := by
  have h := implSeenFrom n c hl k
  refine ⟨h.cal, h.fn.weak ?_⟩
  simp only [List.length_map, fillTo_zero, Int.toNat_natCast, Option.isSome_some, and_self, fixB, Nat.reduceLeDiff, false_implies, true_implies, forall_const, St.le0, St.swaps, St.ren, mapV, renO, V.ren, Sc.ren, Ob.ren, swp, slsLe, obsLe, vLe, psLe, scLe, scsLe, obLe, Vq.look, Nat.reduceEqDiff, if_true, if_false, reduceCtorEq, ↓reduceIte, true_and, and_true, Rs.V, Rs.O, scsOf, obsOf]
theorem specSeenF (n : Int) (c : List TCell) (hl : c.length ≤ 1048576) (k : Int) : FnC Try.prog 89 [aB n c, (false, [.int .i64 k])] (.agg [.int .i64 (seenB (n, c) k).1, .fz dCell ((seenB (n, c) k).2.map eCell)]) := by
  have h := specSeenFrom n c hl k
  refine ⟨h.cal, h.fn.weak ?_⟩
  simp only [List.length_map, fillTo_zero, Int.toNat_natCast, Option.isSome_some, and_self, fixB, Nat.reduceLeDiff, false_implies, true_implies, forall_const, St.le0, St.swaps, St.ren, mapV, renO, V.ren, Sc.ren, Ob.ren, swp, slsLe, obsLe, vLe, psLe, scLe, scsLe, obLe, Vq.look, Nat.reduceEqDiff, if_true, if_false, reduceCtorEq, ↓reduceIte, true_and, and_true, Rs.V, Rs.O, scsOf, obsOf]
theorem views_fn (n : Int) (c : List TCell) (hl : c.length ≤ 1048576) : FnC Try.prog 93 [aB n c] (.one (.own 63 dBlk ((viewL (n, c) 8).map eBlk))) := by
  refine fn_z (ty := ty) (ts := [.tmp 2]) [0, 1, 2, 3, 4, 6, 7] mixed ty_ok Try.func93 (by kernel_rfl) rfl (by kernel_rfl) (by kernel_rfl) rfl (.inl rfl) (Nat.le_of_ble_eq_true rfl) (by simp only [entry, entryV, C.toS, Nat.zero_add, Nat.reduceAdd, List.map_cons, List.map_nil]; exact rfl) ?_
  repeat' (first
    | ((with_reducible refine z_run ?_); (conv => whnf))
    | (with_reducible apply z_t)
    | (with_reducible apply z_f)
    | ((with_reducible apply z_b); ((intro h); (try simp only [beq_self_eq_true, eq_self, not_true_eq_false, not_false_eq_true, decide_true, cond_true, cond_false, Bool.not_true, Bool.not_false, Bool.not_eq_true', Bool.not_eq_false', Bool.and_eq_true, Bool.and_eq_false_imp, Bool.or_eq_true, Bool.or_eq_false_iff, decide_eq_true_eq, decide_eq_false_iff_not, Bool.false_eq_true, reduceCtorEq, Int.not_le, Int.not_lt, Decidable.not_not] at h)); rotate_left; ((intro h); (try simp only [beq_self_eq_true, eq_self, not_true_eq_false, not_false_eq_true, decide_true, cond_true, cond_false, Bool.not_true, Bool.not_false, Bool.not_eq_true', Bool.not_eq_false', Bool.and_eq_true, Bool.and_eq_false_imp, Bool.or_eq_true, Bool.or_eq_false_iff, decide_eq_true_eq, decide_eq_false_iff_not, Bool.false_eq_true, reduceCtorEq, Int.not_le, Int.not_lt, Decidable.not_not] at h)))
    | (with_reducible refine z_r ?_ ?_)
    | (with_reducible refine z_wg ?_ ?_)
    | (with_reducible refine z_w ?_ ?_)
    | ((with_reducible apply sh_nil); (intro _))
    | ((with_reducible apply sh_int); (intro _))
    | ((with_reducible apply sh_bool); (intro _))
    | ((with_reducible apply sh_sl); (intro _))
    | ((with_reducible refine z_xf ?zc ?zx ?_); (case zc => decide +kernel); (case zx => decide +kernel))
    | (with_reducible refine z_k (implSeenF _ _ hl _) ?_)
    | ((with_reducible refine z_o ?zo ?_); (case zo => decide +kernel))
    | ((with_reducible refine z_x ?zx ?_); (case zx => decide +kernel))
    | fail)
  refine z_li (fun k => k ≤ 8) (0 : Nat) (fun k => 8 - k) (fun k => ⟨[(1, .one (.bx 1 0)), (3, .one (.root 5)), (6, .one (.int .i64 k))], [(5, .row 63 dBlk ((viewL (n, c) k).map eBlk)), (1, .box [.int .i64 n, .ro dCell (c.map eCell)])]⟩) (by omega) ?_ ?_
  · simp only [List.length_map, fillTo_zero, Int.toNat_natCast, Option.isSome_some, and_self, fixB, Nat.reduceLeDiff, false_implies, true_implies, forall_const, St.le0, St.swaps, St.ren, mapV, renO, V.ren, Sc.ren, Ob.ren, swp, slsLe, obsLe, vLe, psLe, scLe, scsLe, obLe, Vq.look, Nat.reduceEqDiff, if_true, if_false, reduceCtorEq, ↓reduceIte, true_and, and_true] <;> (and_intros <;> first | rfl | omega | assumption)
  · intro k hk
    have hvl := viewL_len (n, c) k
    repeat' (first
    | ((with_reducible refine z_run ?_); (conv => whnf))
    | (with_reducible apply z_t)
    | (with_reducible apply z_f)
    | ((with_reducible apply z_b); ((intro h); (try simp only [beq_self_eq_true, eq_self, not_true_eq_false, not_false_eq_true, decide_true, cond_true, cond_false, Bool.not_true, Bool.not_false, Bool.not_eq_true', Bool.not_eq_false', Bool.and_eq_true, Bool.and_eq_false_imp, Bool.or_eq_true, Bool.or_eq_false_iff, decide_eq_true_eq, decide_eq_false_iff_not, Bool.false_eq_true, reduceCtorEq, Int.not_le, Int.not_lt, Decidable.not_not] at h)); rotate_left; ((intro h); (try simp only [beq_self_eq_true, eq_self, not_true_eq_false, not_false_eq_true, decide_true, cond_true, cond_false, Bool.not_true, Bool.not_false, Bool.not_eq_true', Bool.not_eq_false', Bool.and_eq_true, Bool.and_eq_false_imp, Bool.or_eq_true, Bool.or_eq_false_iff, decide_eq_true_eq, decide_eq_false_iff_not, Bool.false_eq_true, reduceCtorEq, Int.not_le, Int.not_lt, Decidable.not_not] at h)))
    | (with_reducible refine z_r ?_ ?_)
    | (with_reducible refine z_wg ?_ ?_)
    | (with_reducible refine z_w ?_ ?_)
    | ((with_reducible apply sh_nil); (intro _))
    | ((with_reducible apply sh_int); (intro _))
    | ((with_reducible apply sh_bool); (intro _))
    | ((with_reducible apply sh_sl); (intro _))
    | ((with_reducible refine z_xf ?zc ?zx ?_); (case zc => decide +kernel); (case zx => decide +kernel))
    | (with_reducible refine z_k (implSeenF _ _ hl _) ?_)
    | ((with_reducible refine z_o ?zo ?_); (case zo => decide +kernel))
    | ((with_reducible refine z_x ?zx ?_); (case zx => decide +kernel))
    | fail)
    all_goals ((try simp only [Int.toNat_natCast, tn1, tp1, List.length_map, eq_self, true_and, and_true] at *); (try simp (disch := omega) only [wr, Int.toNat_natCast, tn1, tp1, List.length_map, eq_self, true_and, and_true] at *))
    all_goals (first
      | omega
      | (simp only [List.length_map, List.length_cons, List.length_nil, hvl]; omega)
      | (refine z_e rfl ?_; simp only [fin, finP, finM, ids, nodupB, tupP, tupM, memN, List.length_cons, List.length_nil, List.nil_append, List.append_nil, List.cons_append, Nat.zero_add, Nat.reduceAdd, ne_eq, not_false_eq_true, eq_self, ev, Vq.look, List.map_cons, List.map_nil, and_true, true_and, Nat.reduceEqDiff, if_true, if_false, reduceCtorEq, ↓reduceIte]; rw [show k = 8 by omega]; done)
      | (refine z_n (k + 1) ⟨by omega, by omega⟩ ?_; rw [viewL_succ, List.map_append]; simp only [List.length_map, fillTo_zero, Int.toNat_natCast, Option.isSome_some, and_self, fixB, Nat.reduceLeDiff, false_implies, true_implies, forall_const, St.le0, St.swaps, St.ren, mapV, renO, V.ren, Sc.ren, Ob.ren, swp, slsLe, obsLe, vLe, psLe, scLe, scsLe, obLe, Vq.look, Nat.reduceEqDiff, if_true, if_false, reduceCtorEq, ↓reduceIte, true_and, and_true] <;> (and_intros <;> first | rfl | omega | assumption); done)
      | (trace_state; fail))
end Go.Proofs.Ytcibheinilkcoaa
