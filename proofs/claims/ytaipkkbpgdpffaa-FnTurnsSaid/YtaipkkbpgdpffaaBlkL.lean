/- How alike two blocks are. No conditions. -/
import Derived.Test.YtaipkkbpgdpffaaBlkW
namespace Go.Proofs.Ytaipkkbpgdpffaa
open Go.Vq
set_option linter.unusedSimpArgs false
set_option maxHeartbeats 1000000
def colA (t : TCell) (s : Int) : Int := if cellOk t ∧ 0 ≤ s ∧ s ≤ 3 then (if s = 0 ∨ (t.1 = 1 ∧ s = 1) ∨ (t.1 = 2 ∧ s = 3) then t.2.1 else t.2.2) else -1
def likeN (t u : TCell) : Nat → Int
  | 0 => 0
  | k + 1 => likeN t u k + if colA t k = colA u k then 1 else 0
theorem likeN_bd (t u : TCell) (k : Nat) : 0 ≤ likeN t u k ∧ likeN t u k ≤ k := by
  induction k with
  | zero => simp [likeN]
  | succ k ih => simp only [likeN]; split <;> omega
def likeC (t u : TCell) : Int := if cellOk t ∧ cellOk u then likeN t u 4 else 0
theorem likeC_bd (t u : TCell) : 0 ≤ likeC t u ∧ likeC t u ≤ 4 := by
  unfold likeC
  have := likeN_bd t u 4
  split <;> omega
def likS (c d : List TCell) : Nat → Int
  | 0 => 0
  | k + 1 => likS c d k + likeC (c.getD k default) (d.getD k default)
theorem likS_bd (c d : List TCell) (k : Nat) : 0 ≤ likS c d k ∧ likS c d k ≤ 4 * k := by
  induction k with
  | zero => simp [likS]
  | succ k ih => have := likeC_bd (c.getD k default) (d.getD k default); simp only [likS]; omega
def paired (b d : TBlk) : Prop := blkOk b.1 b.2 ∧ blkOk d.1 d.2 ∧ b.1 = d.1
instance (b d : TBlk) : Decidable (paired b d) := by unfold paired; infer_instance
theorem paired_len {b d : TBlk} (h : paired b d) : b.2.length = d.2.length ∧ b.2.length ≤ 16 := by
  have h1 := h.1.2.1
  have h2 := h.2.1.2.1
  have h3 := blk_len h.1
  rw [← h.2.2] at h2
  omega
def likeB (b d : TBlk) : Int := if paired b d then likS b.2 d.2 b.2.length else 0
theorem likeB_bd (b d : TBlk) : 0 ≤ likeB b d ∧ likeB b d ≤ 64 := by
  unfold likeB
  split
  · rename_i h
    have := likS_bd b.2 d.2 b.2.length
    have := (paired_len h).2
    omega
  · omega
def bestN (b d : TBlk) : Nat → Int
  | 0 => 0
  | k + 1 => if likeB b (seenB d k) > bestN b d k then likeB b (seenB d k) else bestN b d k
theorem bestN_bd (b d : TBlk) (k : Nat) : 0 ≤ bestN b d k ∧ bestN b d k ≤ 64 := by
  induction k with
  | zero => simp [bestN]
  | succ k ih => have := likeB_bd b (seenB d k); simp only [bestN]; split <;> omega
def bestB (b d : TBlk) : Int := if paired b d then bestN b d 8 else 0
theorem implColorAt (t : TCell) (s : Int) : FnC Try.prog 124 [aC t, (false, [.int .i64 s])] (.one (.int .i64 (colA t s))) := by
  refine fn_z (ty := ty) (ts := [.tmp 4]) [0, 1, 2, 4, 12, 32] mixed ty_ok Try.func124 (by kernel_rfl) rfl (by kernel_rfl) (by kernel_rfl) rfl (.inl rfl) (Nat.le_of_ble_eq_true rfl) (by simp only [entry, entryV, C.toS, Nat.zero_add, Nat.reduceAdd, List.map_cons, List.map_nil]; exact rfl) ?_
  repeat' (first
    | ((with_reducible refine z_run ?_); (conv => whnf))
    | (with_reducible apply z_t)
    | (with_reducible apply z_f)
    | ((with_reducible apply z_b); ((intro h); (try simp only [beq_self_eq_true, eq_self, not_true_eq_false, not_false_eq_true, decide_true, cond_true, cond_false, Bool.not_true, Bool.not_false, Bool.not_eq_true', Bool.not_eq_false', Bool.and_eq_true, Bool.and_eq_false_imp, Bool.or_eq_true, Bool.or_eq_false_iff, decide_eq_true_eq, decide_eq_false_iff_not, Bool.false_eq_true, reduceCtorEq, Int.not_le, Int.not_lt, Decidable.not_not] at h)); rotate_left; ((intro h); (try simp only [beq_self_eq_true, eq_self, not_true_eq_false, not_false_eq_true, decide_true, cond_true, cond_false, Bool.not_true, Bool.not_false, Bool.not_eq_true', Bool.not_eq_false', Bool.and_eq_true, Bool.and_eq_false_imp, Bool.or_eq_true, Bool.or_eq_false_iff, decide_eq_true_eq, decide_eq_false_iff_not, Bool.false_eq_true, reduceCtorEq, Int.not_le, Int.not_lt, Decidable.not_not] at h)))
    | (with_reducible refine z_r ?_ ?_)
    | (with_reducible refine z_wg ?_ ?_)
    | (with_reducible refine z_w ?_ ?_)
    | ((with_reducible apply sh_nil); (intro _))
    | ((with_reducible apply sh_int); (intro _))
    | ((with_reducible apply sh_bool); (intro _))
    | ((with_reducible apply sh_sl); (intro _))
    | ((with_reducible refine z_xf ?zc ?zx ?_); (case zc => decide +kernel); (case zx => decide +kernel))
    | (with_reducible refine z_k (implCellOkT _) ?_)
    | (with_reducible refine z_k (within_fn _ _ _) ?_)
    | ((with_reducible refine z_o ?zo ?_); (case zo => decide +kernel))
    | ((with_reducible refine z_x ?zx ?_); (case zx => decide +kernel))
    | ((refine z_mf (d := ?zD) (f := ?zF) (caps := ?zA) (τ := ?zT) (ps := ?zP) (cs := ?zC) ?zd ?ze ?zt ?za ?zp ?zl ?_); (case zd => exact rfl); (case ze => exact rfl); (case zt => (simp only [frzAll, frz, frzL, frzV, frzS, drp, unSs, unS, unsing, ev, Vq.look, List.map_cons, List.map_nil, List.drop_zero, List.drop_succ_cons, Nat.reduceAdd, Nat.zero_add, Option.map_some, Nat.reduceEqDiff, if_true, if_false, reduceCtorEq, ↓reduceIte]; exact rfl)); (case za => exact rfl); (case zp => exact rfl); (case zl => (simp only [unSs, unS, unsing, List.drop_zero, List.drop_succ_cons, Nat.reduceAdd, Nat.zero_add, Option.map_some, List.length_map, fillTo_zero, Int.toNat_natCast, Option.isSome_some, and_self, fixB, Nat.reduceLeDiff, false_implies, true_implies, forall_const, St.le0, St.swaps, St.ren, mapV, renO, V.ren, Sc.ren, Ob.ren, swp, slsLe, obsLe, vLe, scLe, scsLe, obLe, Vq.look, Nat.reduceEqDiff, if_true, if_false, reduceCtorEq, ↓reduceIte, true_and, and_true] <;> (and_intros <;> first | rfl | omega))))
    | fail)
  all_goals ((try simp only [Int.toNat_natCast, tn1, tp1, List.length_map, eq_self, true_and, and_true] at *); (try simp (disch := omega) only [wr, Int.toNat_natCast, tn1, tp1, List.length_map, eq_self, true_and, and_true] at *))
  all_goals (try (exfalso; omega))
  all_goals (refine z_e rfl ?_; simp only [fin, finP, finM, ids, nodupB, tupP, tupM, memN, List.length_cons, List.length_nil, List.nil_append, List.append_nil, List.cons_append, Nat.zero_add, Nat.reduceAdd, ne_eq, not_false_eq_true, eq_self, ev, Vq.look, List.map_cons, List.map_nil, and_true, true_and, Nat.reduceEqDiff, if_true, if_false, reduceCtorEq, ↓reduceIte]; unfold colA; first
    | (rw [if_pos ⟨by assumption, by assumption⟩, if_pos (by omega)])
    | (rw [if_pos ⟨by assumption, by assumption⟩, if_neg (by omega)])
    | (rw [if_neg (fun h => absurd h.2 (by assumption))])
    | (rw [if_neg (fun h => absurd h.1 (by assumption))])
    | (trace_state; fail))
theorem specColorAt (t : TCell) (s : Int) : FnC Try.prog 42 [aC t, (false, [.int .i64 s])] (.one (.int .i64 (colA t s))) := by
  refine fn_z (ty := ty) (ts := [.tmp 4]) [0, 1, 2, 4, 12, 32] mixed ty_ok Try.func42 (by kernel_rfl) rfl (by kernel_rfl) (by kernel_rfl) rfl (.inl rfl) (Nat.le_of_ble_eq_true rfl) (by simp only [entry, entryV, C.toS, Nat.zero_add, Nat.reduceAdd, List.map_cons, List.map_nil]; exact rfl) ?_
  repeat' (first
    | ((with_reducible refine z_run ?_); (conv => whnf))
    | (with_reducible apply z_t)
    | (with_reducible apply z_f)
    | ((with_reducible apply z_b); ((intro h); (try simp only [beq_self_eq_true, eq_self, not_true_eq_false, not_false_eq_true, decide_true, cond_true, cond_false, Bool.not_true, Bool.not_false, Bool.not_eq_true', Bool.not_eq_false', Bool.and_eq_true, Bool.and_eq_false_imp, Bool.or_eq_true, Bool.or_eq_false_iff, decide_eq_true_eq, decide_eq_false_iff_not, Bool.false_eq_true, reduceCtorEq, Int.not_le, Int.not_lt, Decidable.not_not] at h)); rotate_left; ((intro h); (try simp only [beq_self_eq_true, eq_self, not_true_eq_false, not_false_eq_true, decide_true, cond_true, cond_false, Bool.not_true, Bool.not_false, Bool.not_eq_true', Bool.not_eq_false', Bool.and_eq_true, Bool.and_eq_false_imp, Bool.or_eq_true, Bool.or_eq_false_iff, decide_eq_true_eq, decide_eq_false_iff_not, Bool.false_eq_true, reduceCtorEq, Int.not_le, Int.not_lt, Decidable.not_not] at h)))
    | (with_reducible refine z_r ?_ ?_)
    | (with_reducible refine z_wg ?_ ?_)
    | (with_reducible refine z_w ?_ ?_)
    | ((with_reducible apply sh_nil); (intro _))
    | ((with_reducible apply sh_int); (intro _))
    | ((with_reducible apply sh_bool); (intro _))
    | ((with_reducible apply sh_sl); (intro _))
    | ((with_reducible refine z_xf ?zc ?zx ?_); (case zc => decide +kernel); (case zx => decide +kernel))
    | (with_reducible refine z_k (specCellOkT _) ?_)
    | (with_reducible refine z_k (in_fn _ _ _) ?_)
    | ((with_reducible refine z_o ?zo ?_); (case zo => decide +kernel))
    | ((with_reducible refine z_x ?zx ?_); (case zx => decide +kernel))
    | ((refine z_mf (d := ?zD) (f := ?zF) (caps := ?zA) (τ := ?zT) (ps := ?zP) (cs := ?zC) ?zd ?ze ?zt ?za ?zp ?zl ?_); (case zd => exact rfl); (case ze => exact rfl); (case zt => (simp only [frzAll, frz, frzL, frzV, frzS, drp, unSs, unS, unsing, ev, Vq.look, List.map_cons, List.map_nil, List.drop_zero, List.drop_succ_cons, Nat.reduceAdd, Nat.zero_add, Option.map_some, Nat.reduceEqDiff, if_true, if_false, reduceCtorEq, ↓reduceIte]; exact rfl)); (case za => exact rfl); (case zp => exact rfl); (case zl => (simp only [unSs, unS, unsing, List.drop_zero, List.drop_succ_cons, Nat.reduceAdd, Nat.zero_add, Option.map_some, List.length_map, fillTo_zero, Int.toNat_natCast, Option.isSome_some, and_self, fixB, Nat.reduceLeDiff, false_implies, true_implies, forall_const, St.le0, St.swaps, St.ren, mapV, renO, V.ren, Sc.ren, Ob.ren, swp, slsLe, obsLe, vLe, scLe, scsLe, obLe, Vq.look, Nat.reduceEqDiff, if_true, if_false, reduceCtorEq, ↓reduceIte, true_and, and_true] <;> (and_intros <;> first | rfl | omega))))
    | fail)
  all_goals ((try simp only [Int.toNat_natCast, tn1, tp1, List.length_map, eq_self, true_and, and_true] at *); (try simp (disch := omega) only [wr, Int.toNat_natCast, tn1, tp1, List.length_map, eq_self, true_and, and_true] at *))
  all_goals (try (exfalso; omega))
  all_goals (refine z_e rfl ?_; simp only [fin, finP, finM, ids, nodupB, tupP, tupM, memN, List.length_cons, List.length_nil, List.nil_append, List.append_nil, List.cons_append, Nat.zero_add, Nat.reduceAdd, ne_eq, not_false_eq_true, eq_self, ev, Vq.look, List.map_cons, List.map_nil, and_true, true_and, Nat.reduceEqDiff, if_true, if_false, reduceCtorEq, ↓reduceIte]; unfold colA; first
    | (rw [if_pos ⟨by assumption, by assumption⟩, if_pos (by omega)])
    | (rw [if_pos ⟨by assumption, by assumption⟩, if_neg (by omega)])
    | (rw [if_neg (fun h => absurd h.2 (by assumption))])
    | (rw [if_neg (fun h => absurd h.1 (by assumption))])
    | (trace_state; fail))
theorem implCellLikeness (t u : TCell) : FnC Try.prog 119 [aC t, aC u] (.one (.int .i64 (likeC t u))) := by
  refine fn_z (ty := ty) (ts := [.tmp 4]) [0, 1, 2, 3, 4, 5, 6, 14, 15, 16, 24] mixed ty_ok Try.func119 (by kernel_rfl) rfl (by kernel_rfl) (by kernel_rfl) rfl (.inl rfl) (Nat.le_of_ble_eq_true rfl) (by simp only [entry, entryV, C.toS, Nat.zero_add, Nat.reduceAdd, List.map_cons, List.map_nil]; exact rfl) ?_
  repeat' (first
    | ((with_reducible refine z_run ?_); (conv => whnf))
    | (with_reducible apply z_t)
    | (with_reducible apply z_f)
    | ((with_reducible apply z_b); ((intro h); (try simp only [beq_self_eq_true, eq_self, not_true_eq_false, not_false_eq_true, decide_true, cond_true, cond_false, Bool.not_true, Bool.not_false, Bool.not_eq_true', Bool.not_eq_false', Bool.and_eq_true, Bool.and_eq_false_imp, Bool.or_eq_true, Bool.or_eq_false_iff, decide_eq_true_eq, decide_eq_false_iff_not, Bool.false_eq_true, reduceCtorEq, Int.not_le, Int.not_lt, Decidable.not_not] at h)); rotate_left; ((intro h); (try simp only [beq_self_eq_true, eq_self, not_true_eq_false, not_false_eq_true, decide_true, cond_true, cond_false, Bool.not_true, Bool.not_false, Bool.not_eq_true', Bool.not_eq_false', Bool.and_eq_true, Bool.and_eq_false_imp, Bool.or_eq_true, Bool.or_eq_false_iff, decide_eq_true_eq, decide_eq_false_iff_not, Bool.false_eq_true, reduceCtorEq, Int.not_le, Int.not_lt, Decidable.not_not] at h)))
    | (with_reducible refine z_r ?_ ?_)
    | (with_reducible refine z_wg ?_ ?_)
    | (with_reducible refine z_w ?_ ?_)
    | ((with_reducible apply sh_nil); (intro _))
    | ((with_reducible apply sh_int); (intro _))
    | ((with_reducible apply sh_bool); (intro _))
    | ((with_reducible apply sh_sl); (intro _))
    | ((with_reducible refine z_xf ?zc ?zx ?_); (case zc => decide +kernel); (case zx => decide +kernel))
    | (with_reducible refine z_k (implCellOkT _) ?_)
    | ((with_reducible refine z_o ?zo ?_); (case zo => decide +kernel))
    | ((with_reducible refine z_x ?zx ?_); (case zx => decide +kernel))
    | ((refine z_mf (d := ?zD) (f := ?zF) (caps := ?zA) (τ := ?zT) (ps := ?zP) (cs := ?zC) ?zd ?ze ?zt ?za ?zp ?zl ?_); (case zd => exact rfl); (case ze => exact rfl); (case zt => (simp only [frzAll, frz, frzL, frzV, frzS, drp, unSs, unS, unsing, ev, Vq.look, List.map_cons, List.map_nil, List.drop_zero, List.drop_succ_cons, Nat.reduceAdd, Nat.zero_add, Option.map_some, Nat.reduceEqDiff, if_true, if_false, reduceCtorEq, ↓reduceIte]; exact rfl)); (case za => exact rfl); (case zp => exact rfl); (case zl => (simp only [unSs, unS, unsing, List.drop_zero, List.drop_succ_cons, Nat.reduceAdd, Nat.zero_add, Option.map_some, List.length_map, fillTo_zero, Int.toNat_natCast, Option.isSome_some, and_self, fixB, Nat.reduceLeDiff, false_implies, true_implies, forall_const, St.le0, St.swaps, St.ren, mapV, renO, V.ren, Sc.ren, Ob.ren, swp, slsLe, obsLe, vLe, scLe, scsLe, obLe, Vq.look, Nat.reduceEqDiff, if_true, if_false, reduceCtorEq, ↓reduceIte, true_and, and_true] <;> (and_intros <;> first | rfl | omega))))
    | fail)
  all_goals ((try simp only [Int.toNat_natCast, tn1, tp1, List.length_map, eq_self, true_and, and_true] at *); (try simp (disch := omega) only [wr, Int.toNat_natCast, tn1, tp1, List.length_map, eq_self, true_and, and_true] at *))
  all_goals (first
    | (refine z_e rfl ?_; simp only [fin, finP, finM, ids, nodupB, tupP, tupM, memN, List.length_cons, List.length_nil, List.nil_append, List.append_nil, List.cons_append, Nat.zero_add, Nat.reduceAdd, ne_eq, not_false_eq_true, eq_self, ev, Vq.look, List.map_cons, List.map_nil, and_true, true_and, Nat.reduceEqDiff, if_true, if_false, reduceCtorEq, ↓reduceIte]; rw [likeC, if_neg (fun h => absurd h.2 (by assumption))])
    | (refine z_e rfl ?_; simp only [fin, finP, finM, ids, nodupB, tupP, tupM, memN, List.length_cons, List.length_nil, List.nil_append, List.append_nil, List.cons_append, Nat.zero_add, Nat.reduceAdd, ne_eq, not_false_eq_true, eq_self, ev, Vq.look, List.map_cons, List.map_nil, and_true, true_and, Nat.reduceEqDiff, if_true, if_false, reduceCtorEq, ↓reduceIte]; rw [likeC, if_neg (fun h => absurd h.1 (by assumption))])
    | skip)
  refine z_li (fun k => k ≤ 4) (0 : Nat) (fun k => 4 - k) (fun k => ⟨[(2, .one (.bx 2 0)), (3, .one (.bx 3 0)), (5, .one (.int .i64 (likeN t u k))), (15, .one (.int .i64 k))], [(3, .box [.int .i64 u.1, .int .i64 u.2.1, .int .i64 u.2.2]), (2, .box [.int .i64 t.1, .int .i64 t.2.1, .int .i64 t.2.2])]⟩) (by omega) ?_ ?_
  · simp only [List.length_map, fillTo_zero, Int.toNat_natCast, Option.isSome_some, and_self, fixB, Nat.reduceLeDiff, false_implies, true_implies, forall_const, St.le0, St.swaps, St.ren, mapV, renO, V.ren, Sc.ren, Ob.ren, swp, slsLe, obsLe, vLe, scLe, scsLe, obLe, Vq.look, Nat.reduceEqDiff, if_true, if_false, reduceCtorEq, ↓reduceIte, true_and, and_true] <;> (and_intros <;> first | rfl | omega | assumption)
  · intro k hk
    have hb := likeN_bd t u k
    repeat' (first
    | ((with_reducible refine z_run ?_); (conv => whnf))
    | (with_reducible apply z_t)
    | (with_reducible apply z_f)
    | ((with_reducible apply z_b); ((intro h); (try simp only [beq_self_eq_true, eq_self, not_true_eq_false, not_false_eq_true, decide_true, cond_true, cond_false, Bool.not_true, Bool.not_false, Bool.not_eq_true', Bool.not_eq_false', Bool.and_eq_true, Bool.and_eq_false_imp, Bool.or_eq_true, Bool.or_eq_false_iff, decide_eq_true_eq, decide_eq_false_iff_not, Bool.false_eq_true, reduceCtorEq, Int.not_le, Int.not_lt, Decidable.not_not] at h)); rotate_left; ((intro h); (try simp only [beq_self_eq_true, eq_self, not_true_eq_false, not_false_eq_true, decide_true, cond_true, cond_false, Bool.not_true, Bool.not_false, Bool.not_eq_true', Bool.not_eq_false', Bool.and_eq_true, Bool.and_eq_false_imp, Bool.or_eq_true, Bool.or_eq_false_iff, decide_eq_true_eq, decide_eq_false_iff_not, Bool.false_eq_true, reduceCtorEq, Int.not_le, Int.not_lt, Decidable.not_not] at h)))
    | (with_reducible refine z_r ?_ ?_)
    | (with_reducible refine z_wg ?_ ?_)
    | (with_reducible refine z_w ?_ ?_)
    | ((with_reducible apply sh_nil); (intro _))
    | ((with_reducible apply sh_int); (intro _))
    | ((with_reducible apply sh_bool); (intro _))
    | ((with_reducible apply sh_sl); (intro _))
    | ((with_reducible refine z_xf ?zc ?zx ?_); (case zc => decide +kernel); (case zx => decide +kernel))
    | (with_reducible refine z_k (implColorAt _ _) ?_)
    | ((with_reducible refine z_o ?zo ?_); (case zo => decide +kernel))
    | ((with_reducible refine z_x ?zx ?_); (case zx => decide +kernel))
    | ((refine z_mf (d := ?zD) (f := ?zF) (caps := ?zA) (τ := ?zT) (ps := ?zP) (cs := ?zC) ?zd ?ze ?zt ?za ?zp ?zl ?_); (case zd => exact rfl); (case ze => exact rfl); (case zt => (simp only [frzAll, frz, frzL, frzV, frzS, drp, unSs, unS, unsing, ev, Vq.look, List.map_cons, List.map_nil, List.drop_zero, List.drop_succ_cons, Nat.reduceAdd, Nat.zero_add, Option.map_some, Nat.reduceEqDiff, if_true, if_false, reduceCtorEq, ↓reduceIte]; exact rfl)); (case za => exact rfl); (case zp => exact rfl); (case zl => (simp only [unSs, unS, unsing, List.drop_zero, List.drop_succ_cons, Nat.reduceAdd, Nat.zero_add, Option.map_some, List.length_map, fillTo_zero, Int.toNat_natCast, Option.isSome_some, and_self, fixB, Nat.reduceLeDiff, false_implies, true_implies, forall_const, St.le0, St.swaps, St.ren, mapV, renO, V.ren, Sc.ren, Ob.ren, swp, slsLe, obsLe, vLe, scLe, scsLe, obLe, Vq.look, Nat.reduceEqDiff, if_true, if_false, reduceCtorEq, ↓reduceIte, true_and, and_true] <;> (and_intros <;> first | rfl | omega))))
    | fail)
    all_goals ((try simp only [Int.toNat_natCast, tn1, tp1, List.length_map, eq_self, true_and, and_true] at *); (try simp (disch := omega) only [wr, Int.toNat_natCast, tn1, tp1, List.length_map, eq_self, true_and, and_true] at *))
    all_goals (first
      | omega
      | (refine z_n (k + 1) ⟨by omega, by omega⟩ ?_; rw [likeN, if_pos (by assumption)]; simp only [List.length_map, fillTo_zero, Int.toNat_natCast, Option.isSome_some, and_self, fixB, Nat.reduceLeDiff, false_implies, true_implies, forall_const, St.le0, St.swaps, St.ren, mapV, renO, V.ren, Sc.ren, Ob.ren, swp, slsLe, obsLe, vLe, scLe, scsLe, obLe, Vq.look, Nat.reduceEqDiff, if_true, if_false, reduceCtorEq, ↓reduceIte, true_and, and_true] <;> (and_intros <;> first | rfl | omega | assumption); done)
      | (refine z_n (k + 1) ⟨by omega, by omega⟩ ?_; rw [likeN, if_neg (by assumption), Int.add_zero]; simp only [List.length_map, fillTo_zero, Int.toNat_natCast, Option.isSome_some, and_self, fixB, Nat.reduceLeDiff, false_implies, true_implies, forall_const, St.le0, St.swaps, St.ren, mapV, renO, V.ren, Sc.ren, Ob.ren, swp, slsLe, obsLe, vLe, scLe, scsLe, obLe, Vq.look, Nat.reduceEqDiff, if_true, if_false, reduceCtorEq, ↓reduceIte, true_and, and_true] <;> (and_intros <;> first | rfl | omega | assumption); done)
      | (refine z_e rfl ?_; simp only [fin, finP, finM, ids, nodupB, tupP, tupM, memN, List.length_cons, List.length_nil, List.nil_append, List.append_nil, List.cons_append, Nat.zero_add, Nat.reduceAdd, ne_eq, not_false_eq_true, eq_self, ev, Vq.look, List.map_cons, List.map_nil, and_true, true_and, Nat.reduceEqDiff, if_true, if_false, reduceCtorEq, ↓reduceIte]; rw [likeC, if_pos ⟨by assumption, by assumption⟩, show k = 4 by omega])
      | (trace_state; fail))
theorem specCellLikeness (t u : TCell) : FnC Try.prog 118 [aC t, aC u] (.one (.int .i64 (likeC t u))) := by
  refine fn_z (ty := ty) (ts := [.tmp 4]) [0, 1, 2, 3, 4, 5, 6, 16, 25] mixed ty_ok Try.func118 (by kernel_rfl) rfl (by kernel_rfl) (by kernel_rfl) rfl (.inl rfl) (Nat.le_of_ble_eq_true rfl) (by simp only [entry, entryV, C.toS, Nat.zero_add, Nat.reduceAdd, List.map_cons, List.map_nil]; exact rfl) ?_
  repeat' (first
    | ((with_reducible refine z_run ?_); (conv => whnf))
    | (with_reducible apply z_t)
    | (with_reducible apply z_f)
    | ((with_reducible apply z_b); ((intro h); (try simp only [beq_self_eq_true, eq_self, not_true_eq_false, not_false_eq_true, decide_true, cond_true, cond_false, Bool.not_true, Bool.not_false, Bool.not_eq_true', Bool.not_eq_false', Bool.and_eq_true, Bool.and_eq_false_imp, Bool.or_eq_true, Bool.or_eq_false_iff, decide_eq_true_eq, decide_eq_false_iff_not, Bool.false_eq_true, reduceCtorEq, Int.not_le, Int.not_lt, Decidable.not_not] at h)); rotate_left; ((intro h); (try simp only [beq_self_eq_true, eq_self, not_true_eq_false, not_false_eq_true, decide_true, cond_true, cond_false, Bool.not_true, Bool.not_false, Bool.not_eq_true', Bool.not_eq_false', Bool.and_eq_true, Bool.and_eq_false_imp, Bool.or_eq_true, Bool.or_eq_false_iff, decide_eq_true_eq, decide_eq_false_iff_not, Bool.false_eq_true, reduceCtorEq, Int.not_le, Int.not_lt, Decidable.not_not] at h)))
    | (with_reducible refine z_r ?_ ?_)
    | (with_reducible refine z_wg ?_ ?_)
    | (with_reducible refine z_w ?_ ?_)
    | ((with_reducible apply sh_nil); (intro _))
    | ((with_reducible apply sh_int); (intro _))
    | ((with_reducible apply sh_bool); (intro _))
    | ((with_reducible apply sh_sl); (intro _))
    | ((with_reducible refine z_xf ?zc ?zx ?_); (case zc => decide +kernel); (case zx => decide +kernel))
    | ((with_reducible refine z_o ?zo ?_); (case zo => decide +kernel))
    | ((with_reducible refine z_x ?zx ?_); (case zx => decide +kernel))
    | ((refine z_mf (d := ?zD) (f := ?zF) (caps := ?zA) (τ := ?zT) (ps := ?zP) (cs := ?zC) ?zd ?ze ?zt ?za ?zp ?zl ?_); (case zd => exact rfl); (case ze => exact rfl); (case zt => (simp only [frzAll, frz, frzL, frzV, frzS, drp, unSs, unS, unsing, ev, Vq.look, List.map_cons, List.map_nil, List.drop_zero, List.drop_succ_cons, Nat.reduceAdd, Nat.zero_add, Option.map_some, Nat.reduceEqDiff, if_true, if_false, reduceCtorEq, ↓reduceIte]; exact rfl)); (case za => exact rfl); (case zp => exact rfl); (case zl => (simp only [unSs, unS, unsing, List.drop_zero, List.drop_succ_cons, Nat.reduceAdd, Nat.zero_add, Option.map_some, List.length_map, fillTo_zero, Int.toNat_natCast, Option.isSome_some, and_self, fixB, Nat.reduceLeDiff, false_implies, true_implies, forall_const, St.le0, St.swaps, St.ren, mapV, renO, V.ren, Sc.ren, Ob.ren, swp, slsLe, obsLe, vLe, scLe, scsLe, obLe, Vq.look, Nat.reduceEqDiff, if_true, if_false, reduceCtorEq, ↓reduceIte, true_and, and_true] <;> (and_intros <;> first | rfl | omega))))
    | fail)
  refine z_li (fun k => k ≤ 4 ∧ (¬ (cellOk t ∧ cellOk u) → k = 0)) (0 : Nat) (fun k => 4 - k) (fun k => ⟨[(2, .one (.bx 2 0)), (3, .one (.bx 3 0)), (5, .one (.int .i64 (likeN t u k))), (6, .one (.int .i64 k))], [(3, .box [.int .i64 u.1, .int .i64 u.2.1, .int .i64 u.2.2]), (2, .box [.int .i64 t.1, .int .i64 t.2.1, .int .i64 t.2.2])]⟩) ⟨by omega, fun _ => rfl⟩ ?_ ?_
  · simp only [List.length_map, fillTo_zero, Int.toNat_natCast, Option.isSome_some, and_self, fixB, Nat.reduceLeDiff, false_implies, true_implies, forall_const, St.le0, St.swaps, St.ren, mapV, renO, V.ren, Sc.ren, Ob.ren, swp, slsLe, obsLe, vLe, scLe, scsLe, obLe, Vq.look, Nat.reduceEqDiff, if_true, if_false, reduceCtorEq, ↓reduceIte, true_and, and_true] <;> (and_intros <;> first | rfl | omega | assumption)
  · intro k ⟨hk, hz⟩
    have hb := likeN_bd t u k
    repeat' (first
    | ((with_reducible refine z_run ?_); (conv => whnf))
    | (with_reducible apply z_t)
    | (with_reducible apply z_f)
    | ((with_reducible apply z_b); ((intro h); (try simp only [beq_self_eq_true, eq_self, not_true_eq_false, not_false_eq_true, decide_true, cond_true, cond_false, Bool.not_true, Bool.not_false, Bool.not_eq_true', Bool.not_eq_false', Bool.and_eq_true, Bool.and_eq_false_imp, Bool.or_eq_true, Bool.or_eq_false_iff, decide_eq_true_eq, decide_eq_false_iff_not, Bool.false_eq_true, reduceCtorEq, Int.not_le, Int.not_lt, Decidable.not_not] at h)); rotate_left; ((intro h); (try simp only [beq_self_eq_true, eq_self, not_true_eq_false, not_false_eq_true, decide_true, cond_true, cond_false, Bool.not_true, Bool.not_false, Bool.not_eq_true', Bool.not_eq_false', Bool.and_eq_true, Bool.and_eq_false_imp, Bool.or_eq_true, Bool.or_eq_false_iff, decide_eq_true_eq, decide_eq_false_iff_not, Bool.false_eq_true, reduceCtorEq, Int.not_le, Int.not_lt, Decidable.not_not] at h)))
    | (with_reducible refine z_r ?_ ?_)
    | (with_reducible refine z_wg ?_ ?_)
    | (with_reducible refine z_w ?_ ?_)
    | ((with_reducible apply sh_nil); (intro _))
    | ((with_reducible apply sh_int); (intro _))
    | ((with_reducible apply sh_bool); (intro _))
    | ((with_reducible apply sh_sl); (intro _))
    | ((with_reducible refine z_xf ?zc ?zx ?_); (case zc => decide +kernel); (case zx => decide +kernel))
    | (with_reducible refine z_k (specCellOkT _) ?_)
    | (with_reducible refine z_k (specColorAt _ _) ?_)
    | ((with_reducible refine z_o ?zo ?_); (case zo => decide +kernel))
    | ((with_reducible refine z_x ?zx ?_); (case zx => decide +kernel))
    | ((refine z_mf (d := ?zD) (f := ?zF) (caps := ?zA) (τ := ?zT) (ps := ?zP) (cs := ?zC) ?zd ?ze ?zt ?za ?zp ?zl ?_); (case zd => exact rfl); (case ze => exact rfl); (case zt => (simp only [frzAll, frz, frzL, frzV, frzS, drp, unSs, unS, unsing, ev, Vq.look, List.map_cons, List.map_nil, List.drop_zero, List.drop_succ_cons, Nat.reduceAdd, Nat.zero_add, Option.map_some, Nat.reduceEqDiff, if_true, if_false, reduceCtorEq, ↓reduceIte]; exact rfl)); (case za => exact rfl); (case zp => exact rfl); (case zl => (simp only [unSs, unS, unsing, List.drop_zero, List.drop_succ_cons, Nat.reduceAdd, Nat.zero_add, Option.map_some, List.length_map, fillTo_zero, Int.toNat_natCast, Option.isSome_some, and_self, fixB, Nat.reduceLeDiff, false_implies, true_implies, forall_const, St.le0, St.swaps, St.ren, mapV, renO, V.ren, Sc.ren, Ob.ren, swp, slsLe, obsLe, vLe, scLe, scsLe, obLe, Vq.look, Nat.reduceEqDiff, if_true, if_false, reduceCtorEq, ↓reduceIte, true_and, and_true] <;> (and_intros <;> first | rfl | omega))))
    | fail)
    all_goals ((try simp only [Int.toNat_natCast, tn1, tp1, List.length_map, eq_self, true_and, and_true] at *); (try simp (disch := omega) only [wr, Int.toNat_natCast, tn1, tp1, List.length_map, eq_self, true_and, and_true] at *))
    all_goals (first
      | omega
      | (refine z_n (k + 1) ⟨⟨by omega, fun h => absurd ⟨by assumption, by assumption⟩ h⟩, by omega⟩ ?_; rw [likeN, if_pos (by assumption)]; simp only [List.length_map, fillTo_zero, Int.toNat_natCast, Option.isSome_some, and_self, fixB, Nat.reduceLeDiff, false_implies, true_implies, forall_const, St.le0, St.swaps, St.ren, mapV, renO, V.ren, Sc.ren, Ob.ren, swp, slsLe, obsLe, vLe, scLe, scsLe, obLe, Vq.look, Nat.reduceEqDiff, if_true, if_false, reduceCtorEq, ↓reduceIte, true_and, and_true] <;> (and_intros <;> first | rfl | omega | assumption); done)
      | (refine z_n (k + 1) ⟨⟨by omega, fun h => absurd ⟨by assumption, by assumption⟩ h⟩, by omega⟩ ?_; rw [likeN, if_neg (by assumption), Int.add_zero]; simp only [List.length_map, fillTo_zero, Int.toNat_natCast, Option.isSome_some, and_self, fixB, Nat.reduceLeDiff, false_implies, true_implies, forall_const, St.le0, St.swaps, St.ren, mapV, renO, V.ren, Sc.ren, Ob.ren, swp, slsLe, obsLe, vLe, scLe, scsLe, obLe, Vq.look, Nat.reduceEqDiff, if_true, if_false, reduceCtorEq, ↓reduceIte, true_and, and_true] <;> (and_intros <;> first | rfl | omega | assumption); done)
      | (refine z_e rfl ?_; simp only [fin, finP, finM, ids, nodupB, tupP, tupM, memN, List.length_cons, List.length_nil, List.nil_append, List.append_nil, List.cons_append, Nat.zero_add, Nat.reduceAdd, ne_eq, not_false_eq_true, eq_self, ev, Vq.look, List.map_cons, List.map_nil, and_true, true_and, Nat.reduceEqDiff, if_true, if_false, reduceCtorEq, ↓reduceIte]; have hq : ¬ (cellOk t ∧ cellOk u) := fun h => absurd h.2 (by assumption)
         rw [likeC, if_neg hq, hz hq]; rfl)
      | (refine z_e rfl ?_; simp only [fin, finP, finM, ids, nodupB, tupP, tupM, memN, List.length_cons, List.length_nil, List.nil_append, List.append_nil, List.cons_append, Nat.zero_add, Nat.reduceAdd, ne_eq, not_false_eq_true, eq_self, ev, Vq.look, List.map_cons, List.map_nil, and_true, true_and, Nat.reduceEqDiff, if_true, if_false, reduceCtorEq, ↓reduceIte]; have hq : ¬ (cellOk t ∧ cellOk u) := fun h => absurd h.1 (by assumption)
         rw [likeC, if_neg hq, hz hq]; rfl)
      | (refine z_e rfl ?_; simp only [fin, finP, finM, ids, nodupB, tupP, tupM, memN, List.length_cons, List.length_nil, List.nil_append, List.append_nil, List.cons_append, Nat.zero_add, Nat.reduceAdd, ne_eq, not_false_eq_true, eq_self, ev, Vq.look, List.map_cons, List.map_nil, and_true, true_and, Nat.reduceEqDiff, if_true, if_false, reduceCtorEq, ↓reduceIte]; by_cases hq : cellOk t ∧ cellOk u
         · rw [likeC, if_pos hq, show k = 4 by omega]
         · have := hz hq; omega)
      | (trace_state; fail))
theorem arePaired_fn (b d : TBlk) (hb : b.2.length ≤ 2097152) (hd : d.2.length ≤ 2097152) : FnC Try.prog 98 [aB b.1 b.2, aB d.1 d.2] (.one (.bool (decide (paired b d)))) := by
  refine fn_z (ty := ty) (ts := [.tmp 4]) [0, 1, 2, 3, 4] mixed ty_ok Try.func98 (by kernel_rfl) rfl (by kernel_rfl) (by kernel_rfl) rfl (.inl rfl) (Nat.le_of_ble_eq_true rfl) (by simp only [entry, entryV, C.toS, Nat.zero_add, Nat.reduceAdd, List.map_cons, List.map_nil]; exact rfl) ?_
  repeat' (first
    | ((with_reducible refine z_run ?_); (conv => whnf))
    | (with_reducible apply z_t)
    | (with_reducible apply z_f)
    | ((with_reducible apply z_b); ((intro h); (try simp only [beq_self_eq_true, eq_self, not_true_eq_false, not_false_eq_true, decide_true, cond_true, cond_false, Bool.not_true, Bool.not_false, Bool.not_eq_true', Bool.not_eq_false', Bool.and_eq_true, Bool.and_eq_false_imp, Bool.or_eq_true, Bool.or_eq_false_iff, decide_eq_true_eq, decide_eq_false_iff_not, Bool.false_eq_true, reduceCtorEq, Int.not_le, Int.not_lt, Decidable.not_not] at h)); rotate_left; ((intro h); (try simp only [beq_self_eq_true, eq_self, not_true_eq_false, not_false_eq_true, decide_true, cond_true, cond_false, Bool.not_true, Bool.not_false, Bool.not_eq_true', Bool.not_eq_false', Bool.and_eq_true, Bool.and_eq_false_imp, Bool.or_eq_true, Bool.or_eq_false_iff, decide_eq_true_eq, decide_eq_false_iff_not, Bool.false_eq_true, reduceCtorEq, Int.not_le, Int.not_lt, Decidable.not_not] at h)))
    | (with_reducible refine z_r ?_ ?_)
    | (with_reducible refine z_wg ?_ ?_)
    | (with_reducible refine z_w ?_ ?_)
    | ((with_reducible apply sh_nil); (intro _))
    | ((with_reducible apply sh_int); (intro _))
    | ((with_reducible apply sh_bool); (intro _))
    | ((with_reducible apply sh_sl); (intro _))
    | ((with_reducible refine z_xf ?zc ?zx ?_); (case zc => decide +kernel); (case zx => decide +kernel))
    | (with_reducible refine z_k (implBlockOk _ _ (by omega)) ?_)
    | ((with_reducible refine z_o ?zo ?_); (case zo => decide +kernel))
    | ((with_reducible refine z_x ?zx ?_); (case zx => decide +kernel))
    | ((refine z_mf (d := ?zD) (f := ?zF) (caps := ?zA) (τ := ?zT) (ps := ?zP) (cs := ?zC) ?zd ?ze ?zt ?za ?zp ?zl ?_); (case zd => exact rfl); (case ze => exact rfl); (case zt => (simp only [frzAll, frz, frzL, frzV, frzS, drp, unSs, unS, unsing, ev, Vq.look, List.map_cons, List.map_nil, List.drop_zero, List.drop_succ_cons, Nat.reduceAdd, Nat.zero_add, Option.map_some, Nat.reduceEqDiff, if_true, if_false, reduceCtorEq, ↓reduceIte]; exact rfl)); (case za => exact rfl); (case zp => exact rfl); (case zl => (simp only [unSs, unS, unsing, List.drop_zero, List.drop_succ_cons, Nat.reduceAdd, Nat.zero_add, Option.map_some, List.length_map, fillTo_zero, Int.toNat_natCast, Option.isSome_some, and_self, fixB, Nat.reduceLeDiff, false_implies, true_implies, forall_const, St.le0, St.swaps, St.ren, mapV, renO, V.ren, Sc.ren, Ob.ren, swp, slsLe, obsLe, vLe, scLe, scsLe, obLe, Vq.look, Nat.reduceEqDiff, if_true, if_false, reduceCtorEq, ↓reduceIte, true_and, and_true] <;> (and_intros <;> first | rfl | omega))))
    | fail)
  all_goals ((try simp only [Int.toNat_natCast, tn1, tp1, List.length_map, eq_self, true_and, and_true] at *); (try simp (disch := omega) only [wr, Int.toNat_natCast, tn1, tp1, List.length_map, eq_self, true_and, and_true] at *))
  all_goals (first
    | (refine z_e rfl ?_; simp only [fin, finP, finM, ids, nodupB, tupP, tupM, memN, List.length_cons, List.length_nil, List.nil_append, List.append_nil, List.cons_append, Nat.zero_add, Nat.reduceAdd, ne_eq, not_false_eq_true, eq_self, ev, Vq.look, List.map_cons, List.map_nil, and_true, true_and, Nat.reduceEqDiff, if_true, if_false, reduceCtorEq, ↓reduceIte]; exact decide_eq_decide.2 ⟨fun h => ⟨by assumption, by assumption, h⟩, fun h => h.2.2⟩)
    | (refine z_e rfl ?_; simp only [fin, finP, finM, ids, nodupB, tupP, tupM, memN, List.length_cons, List.length_nil, List.nil_append, List.append_nil, List.cons_append, Nat.zero_add, Nat.reduceAdd, ne_eq, not_false_eq_true, eq_self, ev, Vq.look, List.map_cons, List.map_nil, and_true, true_and, Nat.reduceEqDiff, if_true, if_false, reduceCtorEq, ↓reduceIte]; exact (decide_eq_false fun h => absurd h.2.1 (by assumption)).symm)
    | (refine z_e rfl ?_; simp only [fin, finP, finM, ids, nodupB, tupP, tupM, memN, List.length_cons, List.length_nil, List.nil_append, List.append_nil, List.cons_append, Nat.zero_add, Nat.reduceAdd, ne_eq, not_false_eq_true, eq_self, ev, Vq.look, List.map_cons, List.map_nil, and_true, true_and, Nat.reduceEqDiff, if_true, if_false, reduceCtorEq, ↓reduceIte]; exact (decide_eq_false fun h => absurd h.1 (by assumption)).symm)
    | (trace_state; fail))
theorem l29Ok_fn (b d : TBlk) (hb : b.2.length ≤ 2097152) (hd : d.2.length ≤ 2097152) : FnC Try.prog 96 [aB b.1 b.2, aB d.1 d.2] (.one (.bool (decide (paired b d)))) := by
  refine fn_z (ty := ty) (ts := [.tmp 4]) [0, 1, 2, 3, 4] mixed ty_ok Try.func96 (by kernel_rfl) rfl (by kernel_rfl) (by kernel_rfl) rfl (.inl rfl) (Nat.le_of_ble_eq_true rfl) (by simp only [entry, entryV, C.toS, Nat.zero_add, Nat.reduceAdd, List.map_cons, List.map_nil]; exact rfl) ?_
  repeat' (first
    | ((with_reducible refine z_run ?_); (conv => whnf))
    | (with_reducible apply z_t)
    | (with_reducible apply z_f)
    | ((with_reducible apply z_b); ((intro h); (try simp only [beq_self_eq_true, eq_self, not_true_eq_false, not_false_eq_true, decide_true, cond_true, cond_false, Bool.not_true, Bool.not_false, Bool.not_eq_true', Bool.not_eq_false', Bool.and_eq_true, Bool.and_eq_false_imp, Bool.or_eq_true, Bool.or_eq_false_iff, decide_eq_true_eq, decide_eq_false_iff_not, Bool.false_eq_true, reduceCtorEq, Int.not_le, Int.not_lt, Decidable.not_not] at h)); rotate_left; ((intro h); (try simp only [beq_self_eq_true, eq_self, not_true_eq_false, not_false_eq_true, decide_true, cond_true, cond_false, Bool.not_true, Bool.not_false, Bool.not_eq_true', Bool.not_eq_false', Bool.and_eq_true, Bool.and_eq_false_imp, Bool.or_eq_true, Bool.or_eq_false_iff, decide_eq_true_eq, decide_eq_false_iff_not, Bool.false_eq_true, reduceCtorEq, Int.not_le, Int.not_lt, Decidable.not_not] at h)))
    | (with_reducible refine z_r ?_ ?_)
    | (with_reducible refine z_wg ?_ ?_)
    | (with_reducible refine z_w ?_ ?_)
    | ((with_reducible apply sh_nil); (intro _))
    | ((with_reducible apply sh_int); (intro _))
    | ((with_reducible apply sh_bool); (intro _))
    | ((with_reducible apply sh_sl); (intro _))
    | ((with_reducible refine z_xf ?zc ?zx ?_); (case zc => decide +kernel); (case zx => decide +kernel))
    | (with_reducible refine z_k (specBlockOk _ _ (by omega)) ?_)
    | ((with_reducible refine z_o ?zo ?_); (case zo => decide +kernel))
    | ((with_reducible refine z_x ?zx ?_); (case zx => decide +kernel))
    | ((refine z_mf (d := ?zD) (f := ?zF) (caps := ?zA) (τ := ?zT) (ps := ?zP) (cs := ?zC) ?zd ?ze ?zt ?za ?zp ?zl ?_); (case zd => exact rfl); (case ze => exact rfl); (case zt => (simp only [frzAll, frz, frzL, frzV, frzS, drp, unSs, unS, unsing, ev, Vq.look, List.map_cons, List.map_nil, List.drop_zero, List.drop_succ_cons, Nat.reduceAdd, Nat.zero_add, Option.map_some, Nat.reduceEqDiff, if_true, if_false, reduceCtorEq, ↓reduceIte]; exact rfl)); (case za => exact rfl); (case zp => exact rfl); (case zl => (simp only [unSs, unS, unsing, List.drop_zero, List.drop_succ_cons, Nat.reduceAdd, Nat.zero_add, Option.map_some, List.length_map, fillTo_zero, Int.toNat_natCast, Option.isSome_some, and_self, fixB, Nat.reduceLeDiff, false_implies, true_implies, forall_const, St.le0, St.swaps, St.ren, mapV, renO, V.ren, Sc.ren, Ob.ren, swp, slsLe, obsLe, vLe, scLe, scsLe, obLe, Vq.look, Nat.reduceEqDiff, if_true, if_false, reduceCtorEq, ↓reduceIte, true_and, and_true] <;> (and_intros <;> first | rfl | omega))))
    | fail)
  all_goals ((try simp only [Int.toNat_natCast, tn1, tp1, List.length_map, eq_self, true_and, and_true] at *); (try simp (disch := omega) only [wr, Int.toNat_natCast, tn1, tp1, List.length_map, eq_self, true_and, and_true] at *))
  all_goals (first
    | (refine z_e rfl ?_; simp only [fin, finP, finM, ids, nodupB, tupP, tupM, memN, List.length_cons, List.length_nil, List.nil_append, List.append_nil, List.cons_append, Nat.zero_add, Nat.reduceAdd, ne_eq, not_false_eq_true, eq_self, ev, Vq.look, List.map_cons, List.map_nil, and_true, true_and, Nat.reduceEqDiff, if_true, if_false, reduceCtorEq, ↓reduceIte]; exact decide_eq_decide.2 ⟨fun h => ⟨by assumption, by assumption, h⟩, fun h => h.2.2⟩)
    | (refine z_e rfl ?_; simp only [fin, finP, finM, ids, nodupB, tupP, tupM, memN, List.length_cons, List.length_nil, List.nil_append, List.append_nil, List.cons_append, Nat.zero_add, Nat.reduceAdd, ne_eq, not_false_eq_true, eq_self, ev, Vq.look, List.map_cons, List.map_nil, and_true, true_and, Nat.reduceEqDiff, if_true, if_false, reduceCtorEq, ↓reduceIte]; exact (decide_eq_false fun h => absurd h.2.1 (by assumption)).symm)
    | (refine z_e rfl ?_; simp only [fin, finP, finM, ids, nodupB, tupP, tupM, memN, List.length_cons, List.length_nil, List.nil_append, List.append_nil, List.cons_append, Nat.zero_add, Nat.reduceAdd, ne_eq, not_false_eq_true, eq_self, ev, Vq.look, List.map_cons, List.map_nil, and_true, true_and, Nat.reduceEqDiff, if_true, if_false, reduceCtorEq, ↓reduceIte]; exact (decide_eq_false fun h => absurd h.1 (by assumption)).symm)
    | (trace_state; fail))
theorem implLikeness (b d : TBlk) (hb : b.2.length ≤ 2097152) (hd : d.2.length ≤ 2097152) : FnC Try.prog 100 [aB b.1 b.2, aB d.1 d.2] (.one (.int .i64 (likeB b d))) := by
  refine fn_z (ty := ty) (ts := [.tmp 4]) [0, 1, 2, 3, 4, 5, 6, 10, 13, 14, 15] mixed ty_ok Try.func100 (by kernel_rfl) rfl (by kernel_rfl) (by kernel_rfl) rfl (.inl rfl) (Nat.le_of_ble_eq_true rfl) (by simp only [entry, entryV, C.toS, Nat.zero_add, Nat.reduceAdd, List.map_cons, List.map_nil]; exact rfl) ?_
  repeat' (first
    | ((with_reducible refine z_run ?_); (conv => whnf))
    | (with_reducible apply z_t)
    | (with_reducible apply z_f)
    | ((with_reducible apply z_b); ((intro h); (try simp only [beq_self_eq_true, eq_self, not_true_eq_false, not_false_eq_true, decide_true, cond_true, cond_false, Bool.not_true, Bool.not_false, Bool.not_eq_true', Bool.not_eq_false', Bool.and_eq_true, Bool.and_eq_false_imp, Bool.or_eq_true, Bool.or_eq_false_iff, decide_eq_true_eq, decide_eq_false_iff_not, Bool.false_eq_true, reduceCtorEq, Int.not_le, Int.not_lt, Decidable.not_not] at h)); rotate_left; ((intro h); (try simp only [beq_self_eq_true, eq_self, not_true_eq_false, not_false_eq_true, decide_true, cond_true, cond_false, Bool.not_true, Bool.not_false, Bool.not_eq_true', Bool.not_eq_false', Bool.and_eq_true, Bool.and_eq_false_imp, Bool.or_eq_true, Bool.or_eq_false_iff, decide_eq_true_eq, decide_eq_false_iff_not, Bool.false_eq_true, reduceCtorEq, Int.not_le, Int.not_lt, Decidable.not_not] at h)))
    | (with_reducible refine z_r ?_ ?_)
    | (with_reducible refine z_wg ?_ ?_)
    | (with_reducible refine z_w ?_ ?_)
    | ((with_reducible apply sh_nil); (intro _))
    | ((with_reducible apply sh_int); (intro _))
    | ((with_reducible apply sh_bool); (intro _))
    | ((with_reducible apply sh_sl); (intro _))
    | ((with_reducible refine z_xf ?zc ?zx ?_); (case zc => decide +kernel); (case zx => decide +kernel))
    | (with_reducible refine z_k (arePaired_fn b d hb hd) ?_)
    | ((with_reducible refine z_o ?zo ?_); (case zo => decide +kernel))
    | ((with_reducible refine z_x ?zx ?_); (case zx => decide +kernel))
    | ((refine z_mf (d := ?zD) (f := ?zF) (caps := ?zA) (τ := ?zT) (ps := ?zP) (cs := ?zC) ?zd ?ze ?zt ?za ?zp ?zl ?_); (case zd => exact rfl); (case ze => exact rfl); (case zt => (simp only [frzAll, frz, frzL, frzV, frzS, drp, unSs, unS, unsing, ev, Vq.look, List.map_cons, List.map_nil, List.drop_zero, List.drop_succ_cons, Nat.reduceAdd, Nat.zero_add, Option.map_some, Nat.reduceEqDiff, if_true, if_false, reduceCtorEq, ↓reduceIte]; exact rfl)); (case za => exact rfl); (case zp => exact rfl); (case zl => (simp only [unSs, unS, unsing, List.drop_zero, List.drop_succ_cons, Nat.reduceAdd, Nat.zero_add, Option.map_some, List.length_map, fillTo_zero, Int.toNat_natCast, Option.isSome_some, and_self, fixB, Nat.reduceLeDiff, false_implies, true_implies, forall_const, St.le0, St.swaps, St.ren, mapV, renO, V.ren, Sc.ren, Ob.ren, swp, slsLe, obsLe, vLe, scLe, scsLe, obLe, Vq.look, Nat.reduceEqDiff, if_true, if_false, reduceCtorEq, ↓reduceIte, true_and, and_true] <;> (and_intros <;> first | rfl | omega))))
    | fail)
  all_goals ((try simp only [Int.toNat_natCast, tn1, tp1, List.length_map, eq_self, true_and, and_true] at *); (try simp (disch := omega) only [wr, Int.toNat_natCast, tn1, tp1, List.length_map, eq_self, true_and, and_true] at *))
  all_goals (first
    | (refine z_e rfl ?_; simp only [fin, finP, finM, ids, nodupB, tupP, tupM, memN, List.length_cons, List.length_nil, List.nil_append, List.append_nil, List.cons_append, Nat.zero_add, Nat.reduceAdd, ne_eq, not_false_eq_true, eq_self, ev, Vq.look, List.map_cons, List.map_nil, and_true, true_and, Nat.reduceEqDiff, if_true, if_false, reduceCtorEq, ↓reduceIte]; rw [likeB, if_neg (by assumption)])
    | skip)
  have hp : paired b d := by assumption
  have hpl := paired_len hp
  refine z_li (fun k => k ≤ b.2.length) (0 : Nat) (fun k => b.2.length - k) (fun k => ⟨[(2, .one (.bx 2 0)), (3, .one (.bx 3 0)), (5, .one (.int .i64 (likS b.2 d.2 k))), (13, .one (.int .i64 b.2.length)), (14, .one (.int .i64 k))], [(3, .box [.int .i64 d.1, .ro dCell (d.2.map eCell)]), (2, .box [.int .i64 b.1, .ro dCell (b.2.map eCell)])]⟩) (by omega) ?_ ?_
  · simp only [List.length_map, fillTo_zero, Int.toNat_natCast, Option.isSome_some, and_self, fixB, Nat.reduceLeDiff, false_implies, true_implies, forall_const, St.le0, St.swaps, St.ren, mapV, renO, V.ren, Sc.ren, Ob.ren, swp, slsLe, obsLe, vLe, scLe, scsLe, obLe, Vq.look, Nat.reduceEqDiff, if_true, if_false, reduceCtorEq, ↓reduceIte, true_and, and_true] <;> (and_intros <;> first | rfl | omega | assumption)
  · intro k hk
    have hs := likS_bd b.2 d.2 k
    have hcb := likeC_bd (b.2.getD k default) (d.2.getD k default)
    repeat' (first
    | ((with_reducible refine z_run ?_); (conv => whnf))
    | (with_reducible apply z_t)
    | (with_reducible apply z_f)
    | ((with_reducible apply z_b); ((intro h); (try simp only [beq_self_eq_true, eq_self, not_true_eq_false, not_false_eq_true, decide_true, cond_true, cond_false, Bool.not_true, Bool.not_false, Bool.not_eq_true', Bool.not_eq_false', Bool.and_eq_true, Bool.and_eq_false_imp, Bool.or_eq_true, Bool.or_eq_false_iff, decide_eq_true_eq, decide_eq_false_iff_not, Bool.false_eq_true, reduceCtorEq, Int.not_le, Int.not_lt, Decidable.not_not] at h)); rotate_left; ((intro h); (try simp only [beq_self_eq_true, eq_self, not_true_eq_false, not_false_eq_true, decide_true, cond_true, cond_false, Bool.not_true, Bool.not_false, Bool.not_eq_true', Bool.not_eq_false', Bool.and_eq_true, Bool.and_eq_false_imp, Bool.or_eq_true, Bool.or_eq_false_iff, decide_eq_true_eq, decide_eq_false_iff_not, Bool.false_eq_true, reduceCtorEq, Int.not_le, Int.not_lt, Decidable.not_not] at h)))
    | (with_reducible refine z_r ?_ ?_)
    | (with_reducible refine z_wg ?_ ?_)
    | (with_reducible refine z_w ?_ ?_)
    | ((with_reducible apply sh_nil); (intro _))
    | ((with_reducible apply sh_int); (intro _))
    | ((with_reducible apply sh_bool); (intro _))
    | ((with_reducible apply sh_sl); (intro _))
    | ((with_reducible refine z_xf ?zc ?zx ?_); (case zc => decide +kernel); (case zx => decide +kernel))
    | (with_reducible refine z_k (implCellLikeness _ _) ?_)
    | ((with_reducible refine z_o ?zo ?_); (case zo => decide +kernel))
    | ((with_reducible refine z_x ?zx ?_); (case zx => decide +kernel))
    | ((refine z_mf (d := ?zD) (f := ?zF) (caps := ?zA) (τ := ?zT) (ps := ?zP) (cs := ?zC) ?zd ?ze ?zt ?za ?zp ?zl ?_); (case zd => exact rfl); (case ze => exact rfl); (case zt => (simp only [frzAll, frz, frzL, frzV, frzS, drp, unSs, unS, unsing, ev, Vq.look, List.map_cons, List.map_nil, List.drop_zero, List.drop_succ_cons, Nat.reduceAdd, Nat.zero_add, Option.map_some, Nat.reduceEqDiff, if_true, if_false, reduceCtorEq, ↓reduceIte]; exact rfl)); (case za => exact rfl); (case zp => exact rfl); (case zl => (simp only [unSs, unS, unsing, List.drop_zero, List.drop_succ_cons, Nat.reduceAdd, Nat.zero_add, Option.map_some, List.length_map, fillTo_zero, Int.toNat_natCast, Option.isSome_some, and_self, fixB, Nat.reduceLeDiff, false_implies, true_implies, forall_const, St.le0, St.swaps, St.ren, mapV, renO, V.ren, Sc.ren, Ob.ren, swp, slsLe, obsLe, vLe, scLe, scsLe, obLe, Vq.look, Nat.reduceEqDiff, if_true, if_false, reduceCtorEq, ↓reduceIte, true_and, and_true] <;> (and_intros <;> first | rfl | omega))))
    | fail)
    all_goals ((try simp only [Int.toNat_natCast, tn1, tp1, List.length_map, eq_self, true_and, and_true] at *); (try simp (disch := omega) only [wr, Int.toNat_natCast, tn1, tp1, List.length_map, eq_self, true_and, and_true] at *))
    all_goals (first
      | omega
      | (refine z_n (k + 1) ⟨by omega, by omega⟩ ?_; rw [likS]; simp only [List.length_map, fillTo_zero, Int.toNat_natCast, Option.isSome_some, and_self, fixB, Nat.reduceLeDiff, false_implies, true_implies, forall_const, St.le0, St.swaps, St.ren, mapV, renO, V.ren, Sc.ren, Ob.ren, swp, slsLe, obsLe, vLe, scLe, scsLe, obLe, Vq.look, Nat.reduceEqDiff, if_true, if_false, reduceCtorEq, ↓reduceIte, true_and, and_true] <;> (and_intros <;> first | rfl | omega | assumption); done)
      | (refine z_e rfl ?_; simp only [fin, finP, finM, ids, nodupB, tupP, tupM, memN, List.length_cons, List.length_nil, List.nil_append, List.append_nil, List.cons_append, Nat.zero_add, Nat.reduceAdd, ne_eq, not_false_eq_true, eq_self, ev, Vq.look, List.map_cons, List.map_nil, and_true, true_and, Nat.reduceEqDiff, if_true, if_false, reduceCtorEq, ↓reduceIte]; rw [likeB, if_pos hp, show k = b.2.length by omega])
      | (trace_state; fail))
theorem specLikeness (b d : TBlk) (hb : b.2.length ≤ 2097152) (hd : d.2.length ≤ 2097152) : FnC Try.prog 97 [aB b.1 b.2, aB d.1 d.2] (.one (.int .i64 (likeB b d))) := by
  refine fn_z (ty := ty) (ts := [.tmp 4]) [0, 1, 2, 3, 4, 5, 6, 10, 15] mixed ty_ok Try.func97 (by kernel_rfl) rfl (by kernel_rfl) (by kernel_rfl) rfl (.inl rfl) (Nat.le_of_ble_eq_true rfl) (by simp only [entry, entryV, C.toS, Nat.zero_add, Nat.reduceAdd, List.map_cons, List.map_nil]; exact rfl) ?_
  repeat' (first
    | ((with_reducible refine z_run ?_); (conv => whnf))
    | (with_reducible apply z_t)
    | (with_reducible apply z_f)
    | ((with_reducible apply z_b); ((intro h); (try simp only [beq_self_eq_true, eq_self, not_true_eq_false, not_false_eq_true, decide_true, cond_true, cond_false, Bool.not_true, Bool.not_false, Bool.not_eq_true', Bool.not_eq_false', Bool.and_eq_true, Bool.and_eq_false_imp, Bool.or_eq_true, Bool.or_eq_false_iff, decide_eq_true_eq, decide_eq_false_iff_not, Bool.false_eq_true, reduceCtorEq, Int.not_le, Int.not_lt, Decidable.not_not] at h)); rotate_left; ((intro h); (try simp only [beq_self_eq_true, eq_self, not_true_eq_false, not_false_eq_true, decide_true, cond_true, cond_false, Bool.not_true, Bool.not_false, Bool.not_eq_true', Bool.not_eq_false', Bool.and_eq_true, Bool.and_eq_false_imp, Bool.or_eq_true, Bool.or_eq_false_iff, decide_eq_true_eq, decide_eq_false_iff_not, Bool.false_eq_true, reduceCtorEq, Int.not_le, Int.not_lt, Decidable.not_not] at h)))
    | (with_reducible refine z_r ?_ ?_)
    | (with_reducible refine z_wg ?_ ?_)
    | (with_reducible refine z_w ?_ ?_)
    | ((with_reducible apply sh_nil); (intro _))
    | ((with_reducible apply sh_int); (intro _))
    | ((with_reducible apply sh_bool); (intro _))
    | ((with_reducible apply sh_sl); (intro _))
    | ((with_reducible refine z_xf ?zc ?zx ?_); (case zc => decide +kernel); (case zx => decide +kernel))
    | (with_reducible refine z_k (l29Ok_fn b d hb hd) ?_)
    | ((with_reducible refine z_o ?zo ?_); (case zo => decide +kernel))
    | ((with_reducible refine z_x ?zx ?_); (case zx => decide +kernel))
    | ((refine z_mf (d := ?zD) (f := ?zF) (caps := ?zA) (τ := ?zT) (ps := ?zP) (cs := ?zC) ?zd ?ze ?zt ?za ?zp ?zl ?_); (case zd => exact rfl); (case ze => exact rfl); (case zt => (simp only [frzAll, frz, frzL, frzV, frzS, drp, unSs, unS, unsing, ev, Vq.look, List.map_cons, List.map_nil, List.drop_zero, List.drop_succ_cons, Nat.reduceAdd, Nat.zero_add, Option.map_some, Nat.reduceEqDiff, if_true, if_false, reduceCtorEq, ↓reduceIte]; exact rfl)); (case za => exact rfl); (case zp => exact rfl); (case zl => (simp only [unSs, unS, unsing, List.drop_zero, List.drop_succ_cons, Nat.reduceAdd, Nat.zero_add, Option.map_some, List.length_map, fillTo_zero, Int.toNat_natCast, Option.isSome_some, and_self, fixB, Nat.reduceLeDiff, false_implies, true_implies, forall_const, St.le0, St.swaps, St.ren, mapV, renO, V.ren, Sc.ren, Ob.ren, swp, slsLe, obsLe, vLe, scLe, scsLe, obLe, Vq.look, Nat.reduceEqDiff, if_true, if_false, reduceCtorEq, ↓reduceIte, true_and, and_true] <;> (and_intros <;> first | rfl | omega))))
    | fail)
  all_goals ((try simp only [Int.toNat_natCast, tn1, tp1, List.length_map, eq_self, true_and, and_true] at *); (try simp (disch := omega) only [wr, Int.toNat_natCast, tn1, tp1, List.length_map, eq_self, true_and, and_true] at *))
  all_goals (first
    | (refine z_e rfl ?_; simp only [fin, finP, finM, ids, nodupB, tupP, tupM, memN, List.length_cons, List.length_nil, List.nil_append, List.append_nil, List.cons_append, Nat.zero_add, Nat.reduceAdd, ne_eq, not_false_eq_true, eq_self, ev, Vq.look, List.map_cons, List.map_nil, and_true, true_and, Nat.reduceEqDiff, if_true, if_false, reduceCtorEq, ↓reduceIte]; rw [likeB, if_neg (by assumption)])
    | skip)
  have hp : paired b d := by assumption
  have hpl := paired_len hp
  refine z_li (fun k => k ≤ b.2.length) (0 : Nat) (fun k => b.2.length - k) (fun k => ⟨[(2, .one (.bx 2 0)), (3, .one (.bx 3 0)), (5, .one (.int .i64 (likS b.2 d.2 k))), (6, .one (.int .i64 k))], [(3, .box [.int .i64 d.1, .ro dCell (d.2.map eCell)]), (2, .box [.int .i64 b.1, .ro dCell (b.2.map eCell)])]⟩) (by omega) ?_ ?_
  · simp only [List.length_map, fillTo_zero, Int.toNat_natCast, Option.isSome_some, and_self, fixB, Nat.reduceLeDiff, false_implies, true_implies, forall_const, St.le0, St.swaps, St.ren, mapV, renO, V.ren, Sc.ren, Ob.ren, swp, slsLe, obsLe, vLe, scLe, scsLe, obLe, Vq.look, Nat.reduceEqDiff, if_true, if_false, reduceCtorEq, ↓reduceIte, true_and, and_true] <;> (and_intros <;> first | rfl | omega | assumption)
  · intro k hk
    have hs := likS_bd b.2 d.2 k
    have hcb := likeC_bd (b.2.getD k default) (d.2.getD k default)
    repeat' (first
    | ((with_reducible refine z_run ?_); (conv => whnf))
    | (with_reducible apply z_t)
    | (with_reducible apply z_f)
    | ((with_reducible apply z_b); ((intro h); (try simp only [beq_self_eq_true, eq_self, not_true_eq_false, not_false_eq_true, decide_true, cond_true, cond_false, Bool.not_true, Bool.not_false, Bool.not_eq_true', Bool.not_eq_false', Bool.and_eq_true, Bool.and_eq_false_imp, Bool.or_eq_true, Bool.or_eq_false_iff, decide_eq_true_eq, decide_eq_false_iff_not, Bool.false_eq_true, reduceCtorEq, Int.not_le, Int.not_lt, Decidable.not_not] at h)); rotate_left; ((intro h); (try simp only [beq_self_eq_true, eq_self, not_true_eq_false, not_false_eq_true, decide_true, cond_true, cond_false, Bool.not_true, Bool.not_false, Bool.not_eq_true', Bool.not_eq_false', Bool.and_eq_true, Bool.and_eq_false_imp, Bool.or_eq_true, Bool.or_eq_false_iff, decide_eq_true_eq, decide_eq_false_iff_not, Bool.false_eq_true, reduceCtorEq, Int.not_le, Int.not_lt, Decidable.not_not] at h)))
    | (with_reducible refine z_r ?_ ?_)
    | (with_reducible refine z_wg ?_ ?_)
    | (with_reducible refine z_w ?_ ?_)
    | ((with_reducible apply sh_nil); (intro _))
    | ((with_reducible apply sh_int); (intro _))
    | ((with_reducible apply sh_bool); (intro _))
    | ((with_reducible apply sh_sl); (intro _))
    | ((with_reducible refine z_xf ?zc ?zx ?_); (case zc => decide +kernel); (case zx => decide +kernel))
    | (with_reducible refine z_k (specCellLikeness _ _) ?_)
    | ((with_reducible refine z_o ?zo ?_); (case zo => decide +kernel))
    | ((with_reducible refine z_x ?zx ?_); (case zx => decide +kernel))
    | ((refine z_mf (d := ?zD) (f := ?zF) (caps := ?zA) (τ := ?zT) (ps := ?zP) (cs := ?zC) ?zd ?ze ?zt ?za ?zp ?zl ?_); (case zd => exact rfl); (case ze => exact rfl); (case zt => (simp only [frzAll, frz, frzL, frzV, frzS, drp, unSs, unS, unsing, ev, Vq.look, List.map_cons, List.map_nil, List.drop_zero, List.drop_succ_cons, Nat.reduceAdd, Nat.zero_add, Option.map_some, Nat.reduceEqDiff, if_true, if_false, reduceCtorEq, ↓reduceIte]; exact rfl)); (case za => exact rfl); (case zp => exact rfl); (case zl => (simp only [unSs, unS, unsing, List.drop_zero, List.drop_succ_cons, Nat.reduceAdd, Nat.zero_add, Option.map_some, List.length_map, fillTo_zero, Int.toNat_natCast, Option.isSome_some, and_self, fixB, Nat.reduceLeDiff, false_implies, true_implies, forall_const, St.le0, St.swaps, St.ren, mapV, renO, V.ren, Sc.ren, Ob.ren, swp, slsLe, obsLe, vLe, scLe, scsLe, obLe, Vq.look, Nat.reduceEqDiff, if_true, if_false, reduceCtorEq, ↓reduceIte, true_and, and_true] <;> (and_intros <;> first | rfl | omega))))
    | fail)
    all_goals ((try simp only [Int.toNat_natCast, tn1, tp1, List.length_map, eq_self, true_and, and_true] at *); (try simp (disch := omega) only [wr, Int.toNat_natCast, tn1, tp1, List.length_map, eq_self, true_and, and_true] at *))
    all_goals (first
      | omega
      | (refine z_n (k + 1) ⟨by omega, by omega⟩ ?_; rw [likS]; simp only [List.length_map, fillTo_zero, Int.toNat_natCast, Option.isSome_some, and_self, fixB, Nat.reduceLeDiff, false_implies, true_implies, forall_const, St.le0, St.swaps, St.ren, mapV, renO, V.ren, Sc.ren, Ob.ren, swp, slsLe, obsLe, vLe, scLe, scsLe, obLe, Vq.look, Nat.reduceEqDiff, if_true, if_false, reduceCtorEq, ↓reduceIte, true_and, and_true] <;> (and_intros <;> first | rfl | omega | assumption); done)
      | (refine z_e rfl ?_; simp only [fin, finP, finM, ids, nodupB, tupP, tupM, memN, List.length_cons, List.length_nil, List.nil_append, List.append_nil, List.cons_append, Nat.zero_add, Nat.reduceAdd, ne_eq, not_false_eq_true, eq_self, ev, Vq.look, List.map_cons, List.map_nil, and_true, true_and, Nat.reduceEqDiff, if_true, if_false, reduceCtorEq, ↓reduceIte]; rw [likeB, if_pos hp, show k = b.2.length by omega])
      | (trace_state; fail))
theorem implBestLikeness (b d : TBlk) (hb : b.2.length ≤ 1048576) (hd : d.2.length ≤ 1048576) : FnC Try.prog 56 [aB b.1 b.2, aB d.1 d.2] (.one (.int .i64 (bestB b d))) := by
  refine fn_z (ty := ty) (ts := [.tmp 4]) [0, 1, 2, 3, 4, 5, 7, 11, 13, 14, 15, 16] mixed ty_ok Try.func56 (by kernel_rfl) rfl (by kernel_rfl) (by kernel_rfl) rfl (.inl rfl) (Nat.le_of_ble_eq_true rfl) (by simp only [entry, entryV, C.toS, Nat.zero_add, Nat.reduceAdd, List.map_cons, List.map_nil]; exact rfl) ?_
  repeat' (first
    | ((with_reducible refine z_run ?_); (conv => whnf))
    | (with_reducible apply z_t)
    | (with_reducible apply z_f)
    | ((with_reducible apply z_b); ((intro h); (try simp only [beq_self_eq_true, eq_self, not_true_eq_false, not_false_eq_true, decide_true, cond_true, cond_false, Bool.not_true, Bool.not_false, Bool.not_eq_true', Bool.not_eq_false', Bool.and_eq_true, Bool.and_eq_false_imp, Bool.or_eq_true, Bool.or_eq_false_iff, decide_eq_true_eq, decide_eq_false_iff_not, Bool.false_eq_true, reduceCtorEq, Int.not_le, Int.not_lt, Decidable.not_not] at h)); rotate_left; ((intro h); (try simp only [beq_self_eq_true, eq_self, not_true_eq_false, not_false_eq_true, decide_true, cond_true, cond_false, Bool.not_true, Bool.not_false, Bool.not_eq_true', Bool.not_eq_false', Bool.and_eq_true, Bool.and_eq_false_imp, Bool.or_eq_true, Bool.or_eq_false_iff, decide_eq_true_eq, decide_eq_false_iff_not, Bool.false_eq_true, reduceCtorEq, Int.not_le, Int.not_lt, Decidable.not_not] at h)))
    | (with_reducible refine z_r ?_ ?_)
    | (with_reducible refine z_wg ?_ ?_)
    | (with_reducible refine z_w ?_ ?_)
    | ((with_reducible apply sh_nil); (intro _))
    | ((with_reducible apply sh_int); (intro _))
    | ((with_reducible apply sh_bool); (intro _))
    | ((with_reducible apply sh_sl); (intro _))
    | ((with_reducible refine z_xf ?zc ?zx ?_); (case zc => decide +kernel); (case zx => decide +kernel))
    | (with_reducible refine z_k (arePaired_fn b d (by omega) (by omega)) ?_)
    | (with_reducible refine z_k (views_fn _ _ (by omega)) ?_)
    | ((with_reducible refine z_o ?zo ?_); (case zo => decide +kernel))
    | ((with_reducible refine z_x ?zx ?_); (case zx => decide +kernel))
    | ((refine z_mf (d := ?zD) (f := ?zF) (caps := ?zA) (τ := ?zT) (ps := ?zP) (cs := ?zC) ?zd ?ze ?zt ?za ?zp ?zl ?_); (case zd => exact rfl); (case ze => exact rfl); (case zt => (simp only [frzAll, frz, frzL, frzV, frzS, drp, unSs, unS, unsing, ev, Vq.look, List.map_cons, List.map_nil, List.drop_zero, List.drop_succ_cons, Nat.reduceAdd, Nat.zero_add, Option.map_some, Nat.reduceEqDiff, if_true, if_false, reduceCtorEq, ↓reduceIte]; exact rfl)); (case za => exact rfl); (case zp => exact rfl); (case zl => (simp only [unSs, unS, unsing, List.drop_zero, List.drop_succ_cons, Nat.reduceAdd, Nat.zero_add, Option.map_some, List.length_map, fillTo_zero, Int.toNat_natCast, Option.isSome_some, and_self, fixB, Nat.reduceLeDiff, false_implies, true_implies, forall_const, St.le0, St.swaps, St.ren, mapV, renO, V.ren, Sc.ren, Ob.ren, swp, slsLe, obsLe, vLe, scLe, scsLe, obLe, Vq.look, Nat.reduceEqDiff, if_true, if_false, reduceCtorEq, ↓reduceIte, true_and, and_true] <;> (and_intros <;> first | rfl | omega))))
    | fail)
  all_goals ((try simp only [Int.toNat_natCast, tn1, tp1, List.length_map, eq_self, true_and, and_true] at *); (try simp (disch := omega) only [wr, Int.toNat_natCast, tn1, tp1, List.length_map, eq_self, true_and, and_true] at *))
  all_goals (first
    | (refine z_e rfl ?_; simp only [fin, finP, finM, ids, nodupB, tupP, tupM, memN, List.length_cons, List.length_nil, List.nil_append, List.append_nil, List.cons_append, Nat.zero_add, Nat.reduceAdd, ne_eq, not_false_eq_true, eq_self, ev, Vq.look, List.map_cons, List.map_nil, and_true, true_and, Nat.reduceEqDiff, if_true, if_false, reduceCtorEq, ↓reduceIte]; rw [bestB, if_neg (by assumption)])
    | skip)
  have hp : paired b d := by assumption
  refine z_li (fun k => k ≤ 8) (0 : Nat) (fun k => 8 - k) (fun k => ⟨[(2, .one (.bx 2 0)), (3, .one (.bx 3 0)), (5, .one (.int .i64 (bestN b d k))), (13, .one (.root 13)), (14, .one (.int .i64 8)), (15, .one (.int .i64 k))], [(13, .row 30 dBlk ((viewL d 8).map eBlk)), (3, .box [.int .i64 d.1, .ro dCell (d.2.map eCell)]), (2, .box [.int .i64 b.1, .ro dCell (b.2.map eCell)])]⟩) (by omega) ?_ ?_
  · simp only [viewL_len]; simp only [List.length_map, fillTo_zero, Int.toNat_natCast, Option.isSome_some, and_self, fixB, Nat.reduceLeDiff, false_implies, true_implies, forall_const, St.le0, St.swaps, St.ren, mapV, renO, V.ren, Sc.ren, Ob.ren, swp, slsLe, obsLe, vLe, scLe, scsLe, obLe, Vq.look, Nat.reduceEqDiff, if_true, if_false, reduceCtorEq, ↓reduceIte, true_and, and_true] <;> (and_intros <;> first | rfl | omega | assumption)
  · intro k hk
    have hs := bestN_bd b d k
    have hvl := viewL_len d 8
    have hg := fun h => viewL_get d (m := 8) (k := k) h
    repeat' (first
    | ((with_reducible refine z_run ?_); (conv => whnf))
    | (with_reducible apply z_t)
    | (with_reducible apply z_f)
    | ((with_reducible apply z_b); ((intro h); (try simp only [beq_self_eq_true, eq_self, not_true_eq_false, not_false_eq_true, decide_true, cond_true, cond_false, Bool.not_true, Bool.not_false, Bool.not_eq_true', Bool.not_eq_false', Bool.and_eq_true, Bool.and_eq_false_imp, Bool.or_eq_true, Bool.or_eq_false_iff, decide_eq_true_eq, decide_eq_false_iff_not, Bool.false_eq_true, reduceCtorEq, Int.not_le, Int.not_lt, Decidable.not_not] at h)); rotate_left; ((intro h); (try simp only [beq_self_eq_true, eq_self, not_true_eq_false, not_false_eq_true, decide_true, cond_true, cond_false, Bool.not_true, Bool.not_false, Bool.not_eq_true', Bool.not_eq_false', Bool.and_eq_true, Bool.and_eq_false_imp, Bool.or_eq_true, Bool.or_eq_false_iff, decide_eq_true_eq, decide_eq_false_iff_not, Bool.false_eq_true, reduceCtorEq, Int.not_le, Int.not_lt, Decidable.not_not] at h)))
    | (with_reducible refine z_r ?_ ?_)
    | (with_reducible refine z_wg ?_ ?_)
    | (with_reducible refine z_w ?_ ?_)
    | ((with_reducible apply sh_nil); (intro _))
    | ((with_reducible apply sh_int); (intro _))
    | ((with_reducible apply sh_bool); (intro _))
    | ((with_reducible apply sh_sl); (intro _))
    | ((with_reducible refine z_xf ?zc ?zx ?_); (case zc => decide +kernel); (case zx => decide +kernel))
    | (with_reducible refine z_k (implLikeness b ((viewL d 8).getD (Int.toNat k) default) (by omega) (by have := viewL_c d 8 (Int.toNat k); omega)) ?_)
    | ((with_reducible refine z_o ?zo ?_); (case zo => decide +kernel))
    | ((with_reducible refine z_x ?zx ?_); (case zx => decide +kernel))
    | ((refine z_mf (d := ?zD) (f := ?zF) (caps := ?zA) (τ := ?zT) (ps := ?zP) (cs := ?zC) ?zd ?ze ?zt ?za ?zp ?zl ?_); (case zd => exact rfl); (case ze => exact rfl); (case zt => (simp only [frzAll, frz, frzL, frzV, frzS, drp, unSs, unS, unsing, ev, Vq.look, List.map_cons, List.map_nil, List.drop_zero, List.drop_succ_cons, Nat.reduceAdd, Nat.zero_add, Option.map_some, Nat.reduceEqDiff, if_true, if_false, reduceCtorEq, ↓reduceIte]; exact rfl)); (case za => exact rfl); (case zp => exact rfl); (case zl => (simp only [unSs, unS, unsing, List.drop_zero, List.drop_succ_cons, Nat.reduceAdd, Nat.zero_add, Option.map_some, List.length_map, fillTo_zero, Int.toNat_natCast, Option.isSome_some, and_self, fixB, Nat.reduceLeDiff, false_implies, true_implies, forall_const, St.le0, St.swaps, St.ren, mapV, renO, V.ren, Sc.ren, Ob.ren, swp, slsLe, obsLe, vLe, scLe, scsLe, obLe, Vq.look, Nat.reduceEqDiff, if_true, if_false, reduceCtorEq, ↓reduceIte, true_and, and_true] <;> (and_intros <;> first | rfl | omega))))
    | fail)
    all_goals ((try simp only [Int.toNat_natCast, tn1, tp1, List.length_map, eq_self, true_and, and_true] at *); (try simp (disch := omega) only [wr, Int.toNat_natCast, tn1, tp1, List.length_map, eq_self, true_and, and_true] at *))
    all_goals (first
      | omega
      | (refine z_n (k + 1) ⟨by omega, by omega⟩ ?_; rw [bestN, ← hg (by omega)]; simp only [List.length_map, fillTo_zero, Int.toNat_natCast, Option.isSome_some, and_self, fixB, Nat.reduceLeDiff, false_implies, true_implies, forall_const, St.le0, St.swaps, St.ren, mapV, renO, V.ren, Sc.ren, Ob.ren, swp, slsLe, obsLe, vLe, scLe, scsLe, obLe, Vq.look, Nat.reduceEqDiff, if_true, if_false, reduceCtorEq, ↓reduceIte, true_and, and_true] <;> (and_intros <;> first | rfl | omega | assumption); done)
      | (refine z_e rfl ?_; simp only [fin, finP, finM, ids, nodupB, tupP, tupM, memN, List.length_cons, List.length_nil, List.nil_append, List.append_nil, List.cons_append, Nat.zero_add, Nat.reduceAdd, ne_eq, not_false_eq_true, eq_self, ev, Vq.look, List.map_cons, List.map_nil, and_true, true_and, Nat.reduceEqDiff, if_true, if_false, reduceCtorEq, ↓reduceIte]; rw [bestB, if_pos hp, show k = 8 by omega])
      | (trace_state; fail))
theorem specBestLikeness (b d : TBlk) (hb : b.2.length ≤ 1048576) (hd : d.2.length ≤ 1048576) : FnC Try.prog 55 [aB b.1 b.2, aB d.1 d.2] (.one (.int .i64 (bestB b d))) := by
  refine fn_z (ty := ty) (ts := [.tmp 4]) [0, 1, 2, 3, 4, 5, 6, 13] mixed ty_ok Try.func55 (by kernel_rfl) rfl (by kernel_rfl) (by kernel_rfl) rfl (.inl rfl) (Nat.le_of_ble_eq_true rfl) (by simp only [entry, entryV, C.toS, Nat.zero_add, Nat.reduceAdd, List.map_cons, List.map_nil]; exact rfl) ?_
  repeat' (first
    | ((with_reducible refine z_run ?_); (conv => whnf))
    | (with_reducible apply z_t)
    | (with_reducible apply z_f)
    | ((with_reducible apply z_b); ((intro h); (try simp only [beq_self_eq_true, eq_self, not_true_eq_false, not_false_eq_true, decide_true, cond_true, cond_false, Bool.not_true, Bool.not_false, Bool.not_eq_true', Bool.not_eq_false', Bool.and_eq_true, Bool.and_eq_false_imp, Bool.or_eq_true, Bool.or_eq_false_iff, decide_eq_true_eq, decide_eq_false_iff_not, Bool.false_eq_true, reduceCtorEq, Int.not_le, Int.not_lt, Decidable.not_not] at h)); rotate_left; ((intro h); (try simp only [beq_self_eq_true, eq_self, not_true_eq_false, not_false_eq_true, decide_true, cond_true, cond_false, Bool.not_true, Bool.not_false, Bool.not_eq_true', Bool.not_eq_false', Bool.and_eq_true, Bool.and_eq_false_imp, Bool.or_eq_true, Bool.or_eq_false_iff, decide_eq_true_eq, decide_eq_false_iff_not, Bool.false_eq_true, reduceCtorEq, Int.not_le, Int.not_lt, Decidable.not_not] at h)))
    | (with_reducible refine z_r ?_ ?_)
    | (with_reducible refine z_wg ?_ ?_)
    | (with_reducible refine z_w ?_ ?_)
    | ((with_reducible apply sh_nil); (intro _))
    | ((with_reducible apply sh_int); (intro _))
    | ((with_reducible apply sh_bool); (intro _))
    | ((with_reducible apply sh_sl); (intro _))
    | ((with_reducible refine z_xf ?zc ?zx ?_); (case zc => decide +kernel); (case zx => decide +kernel))
    | ((with_reducible refine z_o ?zo ?_); (case zo => decide +kernel))
    | ((with_reducible refine z_x ?zx ?_); (case zx => decide +kernel))
    | ((refine z_mf (d := ?zD) (f := ?zF) (caps := ?zA) (τ := ?zT) (ps := ?zP) (cs := ?zC) ?zd ?ze ?zt ?za ?zp ?zl ?_); (case zd => exact rfl); (case ze => exact rfl); (case zt => (simp only [frzAll, frz, frzL, frzV, frzS, drp, unSs, unS, unsing, ev, Vq.look, List.map_cons, List.map_nil, List.drop_zero, List.drop_succ_cons, Nat.reduceAdd, Nat.zero_add, Option.map_some, Nat.reduceEqDiff, if_true, if_false, reduceCtorEq, ↓reduceIte]; exact rfl)); (case za => exact rfl); (case zp => exact rfl); (case zl => (simp only [unSs, unS, unsing, List.drop_zero, List.drop_succ_cons, Nat.reduceAdd, Nat.zero_add, Option.map_some, List.length_map, fillTo_zero, Int.toNat_natCast, Option.isSome_some, and_self, fixB, Nat.reduceLeDiff, false_implies, true_implies, forall_const, St.le0, St.swaps, St.ren, mapV, renO, V.ren, Sc.ren, Ob.ren, swp, slsLe, obsLe, vLe, scLe, scsLe, obLe, Vq.look, Nat.reduceEqDiff, if_true, if_false, reduceCtorEq, ↓reduceIte, true_and, and_true] <;> (and_intros <;> first | rfl | omega))))
    | fail)
  refine z_li (fun k => k ≤ 8 ∧ (¬ paired b d → k = 0)) (0 : Nat) (fun k => 8 - k) (fun k => ⟨[(2, .one (.bx 2 0)), (3, .one (.bx 3 0)), (5, .one (.int .i64 (bestN b d k))), (6, .one (.int .i64 k))], [(3, .box [.int .i64 d.1, .ro dCell (d.2.map eCell)]), (2, .box [.int .i64 b.1, .ro dCell (b.2.map eCell)])]⟩) ⟨by omega, fun _ => rfl⟩ ?_ ?_
  · simp only [List.length_map, fillTo_zero, Int.toNat_natCast, Option.isSome_some, and_self, fixB, Nat.reduceLeDiff, false_implies, true_implies, forall_const, St.le0, St.swaps, St.ren, mapV, renO, V.ren, Sc.ren, Ob.ren, swp, slsLe, obsLe, vLe, scLe, scsLe, obLe, Vq.look, Nat.reduceEqDiff, if_true, if_false, reduceCtorEq, ↓reduceIte, true_and, and_true] <;> (and_intros <;> first | rfl | omega | assumption)
  · intro k ⟨hk, hz⟩
    have hs := bestN_bd b d k
    have hsl := seenB_len d k
    repeat' (first
    | ((with_reducible refine z_run ?_); (conv => whnf))
    | (with_reducible apply z_t)
    | (with_reducible apply z_f)
    | ((with_reducible apply z_b); ((intro h); (try simp only [beq_self_eq_true, eq_self, not_true_eq_false, not_false_eq_true, decide_true, cond_true, cond_false, Bool.not_true, Bool.not_false, Bool.not_eq_true', Bool.not_eq_false', Bool.and_eq_true, Bool.and_eq_false_imp, Bool.or_eq_true, Bool.or_eq_false_iff, decide_eq_true_eq, decide_eq_false_iff_not, Bool.false_eq_true, reduceCtorEq, Int.not_le, Int.not_lt, Decidable.not_not] at h)); rotate_left; ((intro h); (try simp only [beq_self_eq_true, eq_self, not_true_eq_false, not_false_eq_true, decide_true, cond_true, cond_false, Bool.not_true, Bool.not_false, Bool.not_eq_true', Bool.not_eq_false', Bool.and_eq_true, Bool.and_eq_false_imp, Bool.or_eq_true, Bool.or_eq_false_iff, decide_eq_true_eq, decide_eq_false_iff_not, Bool.false_eq_true, reduceCtorEq, Int.not_le, Int.not_lt, Decidable.not_not] at h)))
    | (with_reducible refine z_r ?_ ?_)
    | (with_reducible refine z_wg ?_ ?_)
    | (with_reducible refine z_w ?_ ?_)
    | ((with_reducible apply sh_nil); (intro _))
    | ((with_reducible apply sh_int); (intro _))
    | ((with_reducible apply sh_bool); (intro _))
    | ((with_reducible apply sh_sl); (intro _))
    | ((with_reducible refine z_xf ?zc ?zx ?_); (case zc => decide +kernel); (case zx => decide +kernel))
    | (with_reducible refine z_k (l29Ok_fn b d (by omega) (by omega)) ?_)
    | (with_reducible refine z_k (specSeenFrom _ _ (by omega) _) ?_)
    | (with_reducible refine z_k (specLikeness b (seenB d k) (by omega) (by omega)) ?_)
    | ((with_reducible refine z_o ?zo ?_); (case zo => decide +kernel))
    | ((with_reducible refine z_x ?zx ?_); (case zx => decide +kernel))
    | ((refine z_mf (d := ?zD) (f := ?zF) (caps := ?zA) (τ := ?zT) (ps := ?zP) (cs := ?zC) ?zd ?ze ?zt ?za ?zp ?zl ?_); (case zd => exact rfl); (case ze => exact rfl); (case zt => (simp only [frzAll, frz, frzL, frzV, frzS, drp, unSs, unS, unsing, ev, Vq.look, List.map_cons, List.map_nil, List.drop_zero, List.drop_succ_cons, Nat.reduceAdd, Nat.zero_add, Option.map_some, Nat.reduceEqDiff, if_true, if_false, reduceCtorEq, ↓reduceIte]; exact rfl)); (case za => exact rfl); (case zp => exact rfl); (case zl => (simp only [unSs, unS, unsing, List.drop_zero, List.drop_succ_cons, Nat.reduceAdd, Nat.zero_add, Option.map_some, List.length_map, fillTo_zero, Int.toNat_natCast, Option.isSome_some, and_self, fixB, Nat.reduceLeDiff, false_implies, true_implies, forall_const, St.le0, St.swaps, St.ren, mapV, renO, V.ren, Sc.ren, Ob.ren, swp, slsLe, obsLe, vLe, scLe, scsLe, obLe, Vq.look, Nat.reduceEqDiff, if_true, if_false, reduceCtorEq, ↓reduceIte, true_and, and_true] <;> (and_intros <;> first | rfl | omega))))
    | fail)
    all_goals ((try simp only [Int.toNat_natCast, tn1, tp1, List.length_map, eq_self, true_and, and_true] at *); (try simp (disch := omega) only [wr, Int.toNat_natCast, tn1, tp1, List.length_map, eq_self, true_and, and_true] at *))
    all_goals (first
      | omega
      | (refine z_n (k + 1) ⟨⟨by omega, fun h => absurd (by assumption) h⟩, by omega⟩ ?_; rw [bestN]; simp only [List.length_map, fillTo_zero, Int.toNat_natCast, Option.isSome_some, and_self, fixB, Nat.reduceLeDiff, false_implies, true_implies, forall_const, St.le0, St.swaps, St.ren, mapV, renO, V.ren, Sc.ren, Ob.ren, swp, slsLe, obsLe, vLe, scLe, scsLe, obLe, Vq.look, Nat.reduceEqDiff, if_true, if_false, reduceCtorEq, ↓reduceIte, true_and, and_true] <;> (and_intros <;> first | rfl | omega | assumption); done)
      | (refine z_e rfl ?_; simp only [fin, finP, finM, ids, nodupB, tupP, tupM, memN, List.length_cons, List.length_nil, List.nil_append, List.append_nil, List.cons_append, Nat.zero_add, Nat.reduceAdd, ne_eq, not_false_eq_true, eq_self, ev, Vq.look, List.map_cons, List.map_nil, and_true, true_and, Nat.reduceEqDiff, if_true, if_false, reduceCtorEq, ↓reduceIte]; rw [bestB, if_neg (by assumption), hz (by assumption)]; rfl)
      | (refine z_e rfl ?_; simp only [fin, finP, finM, ids, nodupB, tupP, tupM, memN, List.length_cons, List.length_nil, List.nil_append, List.append_nil, List.cons_append, Nat.zero_add, Nat.reduceAdd, ne_eq, not_false_eq_true, eq_self, ev, Vq.look, List.map_cons, List.map_nil, and_true, true_and, Nat.reduceEqDiff, if_true, if_false, reduceCtorEq, ↓reduceIte]; by_cases hq : paired b d
         · rw [bestB, if_pos hq, show k = 8 by omega]
         · have := hz hq; omega)
      | (trace_state; fail))
end Go.Proofs.Ytaipkkbpgdpffaa
