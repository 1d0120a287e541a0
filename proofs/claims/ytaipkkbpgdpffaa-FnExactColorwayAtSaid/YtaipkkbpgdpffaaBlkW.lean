/- Blocks that are the same; what holds from which sides. No conditions. -/
import Derived.Test.YtaipkkbpgdpffaaBlkV
namespace Go.Proofs.Ytaipkkbpgdpffaa
open Go.Vq
set_option linter.unusedSimpArgs false
set_option maxHeartbeats 1000000
def viewL (b : TBlk) (m : Nat) : List TBlk := (List.range m).map fun k : Nat => seenB b k
theorem viewL_len (b : TBlk) (m : Nat) : (viewL b m).length = m := by simp [viewL]
theorem viewL_succ (b : TBlk) (m : Nat) : viewL b (m + 1) = viewL b m ++ [seenB b m] := by simp [viewL, List.range_succ]
theorem viewL_get (b : TBlk) {m k : Nat} (h : k < m) : (viewL b m).getD k default = seenB b k := by
  simp [viewL, List.getD, h]
theorem viewL_c (b : TBlk) (m k : Nat) : ((viewL b m).getD k default).2.length ≤ 16 := by
  by_cases h : k < m
  · rw [viewL_get b h]; exact seenB_len _ _
  · rw [List.getD_eq_getElem?_getD, List.getElem?_eq_none (by rw [viewL_len]; omega)]; exact Nat.zero_le _
def sideL (q : Nat → Bool) (m : Nat) : List Int := ((List.range m).filter q).map fun k : Nat => (k : Int)
theorem sideL_t {q : Nat → Bool} {m : Nat} (h : q m = true) : sideL q (m + 1) = sideL q m ++ [(m : Int)] := by simp [sideL, List.range_succ, h]
theorem sideL_f {q : Nat → Bool} {m : Nat} (h : q m = false) : sideL q (m + 1) = sideL q m := by simp [sideL, List.range_succ, h]
theorem sideL_len (q : Nat → Bool) (m : Nat) : (sideL q m).length ≤ m := by
  rw [sideL, List.length_map]
  exact Nat.le_trans (List.length_filter_le ..) (by simp)
theorem implSameBlock (n m : Int) (c d : List TCell) (hl : c.length ≤ 2097152) (hd : d.length ≤ 2097152) : FnC Try.prog 29 [aB n c, aB m d] (.one (.bool (decide ((n, c) = (m, d))))) := by
  refine fn_z (ty := ty) (ts := [.tmp 4]) [0, 1, 2, 3, 4, 5, 19, 22, 23, 24, 36] mixed ty_ok Try.func29 (by kernel_rfl) rfl (by kernel_rfl) (by kernel_rfl) rfl (.inl rfl) (Nat.le_of_ble_eq_true rfl) (by simp only [entry, entryV, C.toS, Nat.zero_add, Nat.reduceAdd, List.map_cons, List.map_nil]; exact rfl) ?_
  repeat' (first
    | ((with_reducible refine z_run ?_); (conv => whnf))
    | (with_reducible apply z_t)
    | (with_reducible apply z_f)
    | ((with_reducible apply z_b); ((intro h); (try simp only [beq_self_eq_true, eq_self, not_true_eq_false, not_false_eq_true, decide_true, cond_true, cond_false, Bool.not_true, Bool.not_false, Bool.not_eq_true', Bool.not_eq_false', Bool.and_eq_true, Bool.and_eq_false_imp, Bool.or_eq_true, Bool.or_eq_false_iff, decide_eq_true_eq, decide_eq_false_iff_not, Bool.false_eq_true, reduceCtorEq, Int.not_le, Int.not_lt, Decidable.not_not] at h)); rotate_left; ((intro h); (try simp only [beq_self_eq_true, eq_self, not_true_eq_false, not_false_eq_true, decide_true, cond_true, cond_false, Bool.not_true, Bool.not_false, Bool.not_eq_true', Bool.not_eq_false', Bool.and_eq_true, Bool.and_eq_false_imp, Bool.or_eq_true, Bool.or_eq_false_iff, decide_eq_true_eq, decide_eq_false_iff_not, Bool.false_eq_true, reduceCtorEq, Int.not_le, Int.not_lt, Decidable.not_not] at h)))
    | (with_reducible refine z_r ?_ ?_)
    | (with_reducible refine z_wg ?_ ?_)
    | (with_reducible refine z_w ?_ ?_)
    | ((with_reducible apply sh_nil); (intro _))
    | ((with_reducible apply sh_int); (intro _))
    | ((with_reducible apply sh_bool); (intro _))
    | ((with_reducible apply sh_sl); (intro _))
    | ((with_reducible refine z_xf ?zc ?zx ?_); (case zc => decide +kernel); (case zx => decide +kernel))
    | ((with_reducible refine z_o ?zo ?_); (case zo => decide +kernel))
    | ((with_reducible refine z_x ?zx ?_); (case zx => decide +kernel))
    | ((refine z_mf (d := ?zD) (f := ?zF) (caps := ?zA) (τ := ?zT) (ps := ?zP) (cs := ?zC) ?zd ?ze ?zt ?za ?zp ?zl ?_); (case zd => exact rfl); (case ze => exact rfl); (case zt => (simp only [frzAll, frz, frzL, frzV, frzS, drp, unSs, unS, unsing, ev, Vq.look, List.map_cons, List.map_nil, List.drop_zero, List.drop_succ_cons, Nat.reduceAdd, Nat.zero_add, Option.map_some, Nat.reduceEqDiff, if_true, if_false, reduceCtorEq, ↓reduceIte]; exact rfl)); (case za => exact rfl); (case zp => exact rfl); (case zl => (simp only [unSs, unS, unsing, List.drop_zero, List.drop_succ_cons, Nat.reduceAdd, Nat.zero_add, Option.map_some, List.length_map, fillTo_zero, Int.toNat_natCast, Option.isSome_some, and_self, fixB, Nat.reduceLeDiff, false_implies, true_implies, forall_const, St.le0, St.swaps, St.ren, mapV, renO, V.ren, Sc.ren, Ob.ren, swp, slsLe, obsLe, vLe, scLe, scsLe, obLe, Vq.look, Nat.reduceEqDiff, if_true, if_false, reduceCtorEq, ↓reduceIte, true_and, and_true] <;> (and_intros <;> first | rfl | omega))))
    | fail)
  all_goals ((try simp only [Int.toNat_natCast, tn1, tp1, List.length_map, eq_self, true_and, and_true] at *); (try simp (disch := omega) only [wr, Int.toNat_natCast, tn1, tp1, List.length_map, eq_self, true_and, and_true] at *))
  all_goals (first
    | omega
    | (refine z_e rfl ?_; simp only [fin, finP, finM, ids, nodupB, tupP, tupM, memN, List.length_cons, List.length_nil, List.nil_append, List.append_nil, List.cons_append, Nat.zero_add, Nat.reduceAdd, ne_eq, not_false_eq_true, eq_self, ev, Vq.look, List.map_cons, List.map_nil, and_true, true_and, Nat.reduceEqDiff, if_true, if_false, reduceCtorEq, ↓reduceIte]; refine (decide_eq_false fun hq => ?_).symm; cases hq; simp_all; done)
    | (refine z_li (fun k => k ≤ c.length ∧ ∀ i, i < k → c.getD i default = d.getD i default) (0 : Nat) (fun k => c.length - k) (fun k => ⟨[(2, .one (.bx 2 0)), (3, .one (.bx 3 0)), (22, .one (.int .i64 c.length)), (23, .one (.int .i64 k))], [(3, .box [.int .i64 m, .ro dCell (d.map eCell)]), (2, .box [.int .i64 n, .ro dCell (c.map eCell)])]⟩) ⟨by omega, by omega⟩ ?_ ?_
       · simp only [List.length_map, fillTo_zero, Int.toNat_natCast, Option.isSome_some, and_self, fixB, Nat.reduceLeDiff, false_implies, true_implies, forall_const, St.le0, St.swaps, St.ren, mapV, renO, V.ren, Sc.ren, Ob.ren, swp, slsLe, obsLe, vLe, scLe, scsLe, obLe, Vq.look, Nat.reduceEqDiff, if_true, if_false, reduceCtorEq, ↓reduceIte, true_and, and_true] <;> (and_intros <;> first | rfl | omega | assumption)
       · intro k ⟨hk, hI⟩
         have hcd : c.length = d.length := by omega
         repeat' (first
    | ((with_reducible refine z_run ?_); (conv => whnf))
    | (with_reducible apply z_t)
    | (with_reducible apply z_f)
    | ((with_reducible apply z_b); ((intro h); (try simp only [beq_self_eq_true, eq_self, not_true_eq_false, not_false_eq_true, decide_true, cond_true, cond_false, Bool.not_true, Bool.not_false, Bool.not_eq_true', Bool.not_eq_false', Bool.and_eq_true, Bool.and_eq_false_imp, Bool.or_eq_true, Bool.or_eq_false_iff, decide_eq_true_eq, decide_eq_false_iff_not, Bool.false_eq_true, reduceCtorEq, Int.not_le, Int.not_lt, Decidable.not_not] at h)); rotate_left; ((intro h); (try simp only [beq_self_eq_true, eq_self, not_true_eq_false, not_false_eq_true, decide_true, cond_true, cond_false, Bool.not_true, Bool.not_false, Bool.not_eq_true', Bool.not_eq_false', Bool.and_eq_true, Bool.and_eq_false_imp, Bool.or_eq_true, Bool.or_eq_false_iff, decide_eq_true_eq, decide_eq_false_iff_not, Bool.false_eq_true, reduceCtorEq, Int.not_le, Int.not_lt, Decidable.not_not] at h)))
    | (with_reducible refine z_r ?_ ?_)
    | (with_reducible refine z_wg ?_ ?_)
    | (with_reducible refine z_w ?_ ?_)
    | ((with_reducible apply sh_nil); (intro _))
    | ((with_reducible apply sh_int); (intro _))
    | ((with_reducible apply sh_bool); (intro _))
    | ((with_reducible apply sh_sl); (intro _))
    | ((with_reducible refine z_xf ?zc ?zx ?_); (case zc => decide +kernel); (case zx => decide +kernel))
    | ((with_reducible refine z_o ?zo ?_); (case zo => decide +kernel))
    | ((with_reducible refine z_x ?zx ?_); (case zx => decide +kernel))
    | ((refine z_mf (d := ?zD) (f := ?zF) (caps := ?zA) (τ := ?zT) (ps := ?zP) (cs := ?zC) ?zd ?ze ?zt ?za ?zp ?zl ?_); (case zd => exact rfl); (case ze => exact rfl); (case zt => (simp only [frzAll, frz, frzL, frzV, frzS, drp, unSs, unS, unsing, ev, Vq.look, List.map_cons, List.map_nil, List.drop_zero, List.drop_succ_cons, Nat.reduceAdd, Nat.zero_add, Option.map_some, Nat.reduceEqDiff, if_true, if_false, reduceCtorEq, ↓reduceIte]; exact rfl)); (case za => exact rfl); (case zp => exact rfl); (case zl => (simp only [unSs, unS, unsing, List.drop_zero, List.drop_succ_cons, Nat.reduceAdd, Nat.zero_add, Option.map_some, List.length_map, fillTo_zero, Int.toNat_natCast, Option.isSome_some, and_self, fixB, Nat.reduceLeDiff, false_implies, true_implies, forall_const, St.le0, St.swaps, St.ren, mapV, renO, V.ren, Sc.ren, Ob.ren, swp, slsLe, obsLe, vLe, scLe, scsLe, obLe, Vq.look, Nat.reduceEqDiff, if_true, if_false, reduceCtorEq, ↓reduceIte, true_and, and_true] <;> (and_intros <;> first | rfl | omega))))
    | fail)
         all_goals ((try simp only [Int.toNat_natCast, tn1, tp1, List.length_map, eq_self, true_and, and_true] at *); (try simp (disch := omega) only [wr, Int.toNat_natCast, tn1, tp1, List.length_map, eq_self, true_and, and_true] at *))
         all_goals (first
           | omega
           | (refine z_n (k + 1) ⟨⟨by omega, all_succ hI (by simp only [Prod.ext_iff]; assumption)⟩, by omega⟩ ?_; simp only [List.length_map, fillTo_zero, Int.toNat_natCast, Option.isSome_some, and_self, fixB, Nat.reduceLeDiff, false_implies, true_implies, forall_const, St.le0, St.swaps, St.ren, mapV, renO, V.ren, Sc.ren, Ob.ren, swp, slsLe, obsLe, vLe, scLe, scsLe, obLe, Vq.look, Nat.reduceEqDiff, if_true, if_false, reduceCtorEq, ↓reduceIte, true_and, and_true] <;> (and_intros <;> first | rfl | omega | assumption); done)
           | (refine z_e rfl ?_; simp only [fin, finP, finM, ids, nodupB, tupP, tupM, memN, List.length_cons, List.length_nil, List.nil_append, List.append_nil, List.cons_append, Nat.zero_add, Nat.reduceAdd, ne_eq, not_false_eq_true, eq_self, ev, Vq.look, List.map_cons, List.map_nil, and_true, true_and, Nat.reduceEqDiff, if_true, if_false, reduceCtorEq, ↓reduceIte]; refine (decide_eq_false fun hq => ?_).symm; cases hq; simp_all; done)
           | (refine z_e rfl ?_; simp only [fin, finP, finM, ids, nodupB, tupP, tupM, memN, List.length_cons, List.length_nil, List.nil_append, List.append_nil, List.cons_append, Nat.zero_add, Nat.reduceAdd, ne_eq, not_false_eq_true, eq_self, ev, Vq.look, List.map_cons, List.map_nil, and_true, true_and, Nat.reduceEqDiff, if_true, if_false, reduceCtorEq, ↓reduceIte]; refine (decide_eq_true ?_).symm; rw [eq_getD hcd fun i hi => hI i (by omega)]; simp_all; done)
           | (trace_state; fail)))
    | (trace_state; fail))
theorem specSameBlock (n m : Int) (c d : List TCell) (hl : c.length ≤ 2097152) (hd : d.length ≤ 2097152) : FnC Try.prog 91 [aB n c, aB m d] (.one (.bool (decide ((n, c) = (m, d))))) := by
  refine fn_z (ty := ty) (ts := [.tmp 4]) [0, 1, 2, 3, 4, 5, 19, 24, 37] mixed ty_ok Try.func91 (by kernel_rfl) rfl (by kernel_rfl) (by kernel_rfl) rfl (.inl rfl) (Nat.le_of_ble_eq_true rfl) (by simp only [entry, entryV, C.toS, Nat.zero_add, Nat.reduceAdd, List.map_cons, List.map_nil]; exact rfl) ?_
  repeat' (first
    | ((with_reducible refine z_run ?_); (conv => whnf))
    | (with_reducible apply z_t)
    | (with_reducible apply z_f)
    | ((with_reducible apply z_b); ((intro h); (try simp only [beq_self_eq_true, eq_self, not_true_eq_false, not_false_eq_true, decide_true, cond_true, cond_false, Bool.not_true, Bool.not_false, Bool.not_eq_true', Bool.not_eq_false', Bool.and_eq_true, Bool.and_eq_false_imp, Bool.or_eq_true, Bool.or_eq_false_iff, decide_eq_true_eq, decide_eq_false_iff_not, Bool.false_eq_true, reduceCtorEq, Int.not_le, Int.not_lt, Decidable.not_not] at h)); rotate_left; ((intro h); (try simp only [beq_self_eq_true, eq_self, not_true_eq_false, not_false_eq_true, decide_true, cond_true, cond_false, Bool.not_true, Bool.not_false, Bool.not_eq_true', Bool.not_eq_false', Bool.and_eq_true, Bool.and_eq_false_imp, Bool.or_eq_true, Bool.or_eq_false_iff, decide_eq_true_eq, decide_eq_false_iff_not, Bool.false_eq_true, reduceCtorEq, Int.not_le, Int.not_lt, Decidable.not_not] at h)))
    | (with_reducible refine z_r ?_ ?_)
    | (with_reducible refine z_wg ?_ ?_)
    | (with_reducible refine z_w ?_ ?_)
    | ((with_reducible apply sh_nil); (intro _))
    | ((with_reducible apply sh_int); (intro _))
    | ((with_reducible apply sh_bool); (intro _))
    | ((with_reducible apply sh_sl); (intro _))
    | ((with_reducible refine z_xf ?zc ?zx ?_); (case zc => decide +kernel); (case zx => decide +kernel))
    | ((with_reducible refine z_o ?zo ?_); (case zo => decide +kernel))
    | ((with_reducible refine z_x ?zx ?_); (case zx => decide +kernel))
    | ((refine z_mf (d := ?zD) (f := ?zF) (caps := ?zA) (τ := ?zT) (ps := ?zP) (cs := ?zC) ?zd ?ze ?zt ?za ?zp ?zl ?_); (case zd => exact rfl); (case ze => exact rfl); (case zt => (simp only [frzAll, frz, frzL, frzV, frzS, drp, unSs, unS, unsing, ev, Vq.look, List.map_cons, List.map_nil, List.drop_zero, List.drop_succ_cons, Nat.reduceAdd, Nat.zero_add, Option.map_some, Nat.reduceEqDiff, if_true, if_false, reduceCtorEq, ↓reduceIte]; exact rfl)); (case za => exact rfl); (case zp => exact rfl); (case zl => (simp only [unSs, unS, unsing, List.drop_zero, List.drop_succ_cons, Nat.reduceAdd, Nat.zero_add, Option.map_some, List.length_map, fillTo_zero, Int.toNat_natCast, Option.isSome_some, and_self, fixB, Nat.reduceLeDiff, false_implies, true_implies, forall_const, St.le0, St.swaps, St.ren, mapV, renO, V.ren, Sc.ren, Ob.ren, swp, slsLe, obsLe, vLe, scLe, scsLe, obLe, Vq.look, Nat.reduceEqDiff, if_true, if_false, reduceCtorEq, ↓reduceIte, true_and, and_true] <;> (and_intros <;> first | rfl | omega))))
    | fail)
  all_goals ((try simp only [Int.toNat_natCast, tn1, tp1, List.length_map, eq_self, true_and, and_true] at *); (try simp (disch := omega) only [wr, Int.toNat_natCast, tn1, tp1, List.length_map, eq_self, true_and, and_true] at *))
  all_goals (first
    | omega
    | (refine z_e rfl ?_; simp only [fin, finP, finM, ids, nodupB, tupP, tupM, memN, List.length_cons, List.length_nil, List.nil_append, List.append_nil, List.cons_append, Nat.zero_add, Nat.reduceAdd, ne_eq, not_false_eq_true, eq_self, ev, Vq.look, List.map_cons, List.map_nil, and_true, true_and, Nat.reduceEqDiff, if_true, if_false, reduceCtorEq, ↓reduceIte]; refine (decide_eq_false fun hq => ?_).symm; cases hq; simp_all; done)
    | (refine z_li (fun k => k ≤ c.length ∧ ∀ i, i < k → c.getD i default = d.getD i default) (0 : Nat) (fun k => c.length - k) (fun k => ⟨[(2, .one (.bx 2 0)), (3, .one (.bx 3 0)), (5, .one (.int .i64 k))], [(3, .box [.int .i64 m, .ro dCell (d.map eCell)]), (2, .box [.int .i64 n, .ro dCell (c.map eCell)])]⟩) ⟨by omega, by omega⟩ ?_ ?_
       · simp only [List.length_map, fillTo_zero, Int.toNat_natCast, Option.isSome_some, and_self, fixB, Nat.reduceLeDiff, false_implies, true_implies, forall_const, St.le0, St.swaps, St.ren, mapV, renO, V.ren, Sc.ren, Ob.ren, swp, slsLe, obsLe, vLe, scLe, scsLe, obLe, Vq.look, Nat.reduceEqDiff, if_true, if_false, reduceCtorEq, ↓reduceIte, true_and, and_true] <;> (and_intros <;> first | rfl | omega | assumption)
       · intro k ⟨hk, hI⟩
         have hcd : c.length = d.length := by omega
         repeat' (first
    | ((with_reducible refine z_run ?_); (conv => whnf))
    | (with_reducible apply z_t)
    | (with_reducible apply z_f)
    | ((with_reducible apply z_b); ((intro h); (try simp only [beq_self_eq_true, eq_self, not_true_eq_false, not_false_eq_true, decide_true, cond_true, cond_false, Bool.not_true, Bool.not_false, Bool.not_eq_true', Bool.not_eq_false', Bool.and_eq_true, Bool.and_eq_false_imp, Bool.or_eq_true, Bool.or_eq_false_iff, decide_eq_true_eq, decide_eq_false_iff_not, Bool.false_eq_true, reduceCtorEq, Int.not_le, Int.not_lt, Decidable.not_not] at h)); rotate_left; ((intro h); (try simp only [beq_self_eq_true, eq_self, not_true_eq_false, not_false_eq_true, decide_true, cond_true, cond_false, Bool.not_true, Bool.not_false, Bool.not_eq_true', Bool.not_eq_false', Bool.and_eq_true, Bool.and_eq_false_imp, Bool.or_eq_true, Bool.or_eq_false_iff, decide_eq_true_eq, decide_eq_false_iff_not, Bool.false_eq_true, reduceCtorEq, Int.not_le, Int.not_lt, Decidable.not_not] at h)))
    | (with_reducible refine z_r ?_ ?_)
    | (with_reducible refine z_wg ?_ ?_)
    | (with_reducible refine z_w ?_ ?_)
    | ((with_reducible apply sh_nil); (intro _))
    | ((with_reducible apply sh_int); (intro _))
    | ((with_reducible apply sh_bool); (intro _))
    | ((with_reducible apply sh_sl); (intro _))
    | ((with_reducible refine z_xf ?zc ?zx ?_); (case zc => decide +kernel); (case zx => decide +kernel))
    | ((with_reducible refine z_o ?zo ?_); (case zo => decide +kernel))
    | ((with_reducible refine z_x ?zx ?_); (case zx => decide +kernel))
    | ((refine z_mf (d := ?zD) (f := ?zF) (caps := ?zA) (τ := ?zT) (ps := ?zP) (cs := ?zC) ?zd ?ze ?zt ?za ?zp ?zl ?_); (case zd => exact rfl); (case ze => exact rfl); (case zt => (simp only [frzAll, frz, frzL, frzV, frzS, drp, unSs, unS, unsing, ev, Vq.look, List.map_cons, List.map_nil, List.drop_zero, List.drop_succ_cons, Nat.reduceAdd, Nat.zero_add, Option.map_some, Nat.reduceEqDiff, if_true, if_false, reduceCtorEq, ↓reduceIte]; exact rfl)); (case za => exact rfl); (case zp => exact rfl); (case zl => (simp only [unSs, unS, unsing, List.drop_zero, List.drop_succ_cons, Nat.reduceAdd, Nat.zero_add, Option.map_some, List.length_map, fillTo_zero, Int.toNat_natCast, Option.isSome_some, and_self, fixB, Nat.reduceLeDiff, false_implies, true_implies, forall_const, St.le0, St.swaps, St.ren, mapV, renO, V.ren, Sc.ren, Ob.ren, swp, slsLe, obsLe, vLe, scLe, scsLe, obLe, Vq.look, Nat.reduceEqDiff, if_true, if_false, reduceCtorEq, ↓reduceIte, true_and, and_true] <;> (and_intros <;> first | rfl | omega))))
    | fail)
         all_goals ((try simp only [Int.toNat_natCast, tn1, tp1, List.length_map, eq_self, true_and, and_true] at *); (try simp (disch := omega) only [wr, Int.toNat_natCast, tn1, tp1, List.length_map, eq_self, true_and, and_true] at *))
         all_goals (first
           | omega
           | (refine z_n (k + 1) ⟨⟨by omega, all_succ hI (by simp only [Prod.ext_iff]; assumption)⟩, by omega⟩ ?_; simp only [List.length_map, fillTo_zero, Int.toNat_natCast, Option.isSome_some, and_self, fixB, Nat.reduceLeDiff, false_implies, true_implies, forall_const, St.le0, St.swaps, St.ren, mapV, renO, V.ren, Sc.ren, Ob.ren, swp, slsLe, obsLe, vLe, scLe, scsLe, obLe, Vq.look, Nat.reduceEqDiff, if_true, if_false, reduceCtorEq, ↓reduceIte, true_and, and_true] <;> (and_intros <;> first | rfl | omega | assumption); done)
           | (refine z_e rfl ?_; simp only [fin, finP, finM, ids, nodupB, tupP, tupM, memN, List.length_cons, List.length_nil, List.nil_append, List.append_nil, List.cons_append, Nat.zero_add, Nat.reduceAdd, ne_eq, not_false_eq_true, eq_self, ev, Vq.look, List.map_cons, List.map_nil, and_true, true_and, Nat.reduceEqDiff, if_true, if_false, reduceCtorEq, ↓reduceIte]; refine (decide_eq_false fun hq => ?_).symm; cases hq; simp_all; done)
           | (refine z_e rfl ?_; simp only [fin, finP, finM, ids, nodupB, tupP, tupM, memN, List.length_cons, List.length_nil, List.nil_append, List.append_nil, List.cons_append, Nat.zero_add, Nat.reduceAdd, ne_eq, not_false_eq_true, eq_self, ev, Vq.look, List.map_cons, List.map_nil, and_true, true_and, Nat.reduceEqDiff, if_true, if_false, reduceCtorEq, ↓reduceIte]; refine (decide_eq_true ?_).symm; rw [eq_getD hcd fun i hi => hI i (by omega)]; simp_all; done)
           | (trace_state; fail)))
    | (trace_state; fail))
theorem implSeenF (n : Int) (c : List TCell) (hl : c.length ≤ 1048576) (k : Int) : FnC Try.prog 39 [aB n c, (false, [.int .i64 k])] (.agg [.int .i64 (seenB (n, c) k).1, .fz dCell ((seenB (n, c) k).2.map eCell)]) := by
  have h := implSeenFrom n c hl k
  refine ⟨h.cal, h.fn.weak ?_⟩
  simp only [List.length_map, fillTo_zero, Int.toNat_natCast, Option.isSome_some, and_self, fixB, Nat.reduceLeDiff, false_implies, true_implies, forall_const, St.le0, St.swaps, St.ren, mapV, renO, V.ren, Sc.ren, Ob.ren, swp, slsLe, obsLe, vLe, scLe, scsLe, obLe, Vq.look, Nat.reduceEqDiff, if_true, if_false, reduceCtorEq, ↓reduceIte, true_and, and_true, Rs.V, Rs.O, scsOf, obsOf]
theorem specSeenF (n : Int) (c : List TCell) (hl : c.length ≤ 1048576) (k : Int) : FnC Try.prog 38 [aB n c, (false, [.int .i64 k])] (.agg [.int .i64 (seenB (n, c) k).1, .fz dCell ((seenB (n, c) k).2.map eCell)]) := by
  have h := specSeenFrom n c hl k
  refine ⟨h.cal, h.fn.weak ?_⟩
  simp only [List.length_map, fillTo_zero, Int.toNat_natCast, Option.isSome_some, and_self, fixB, Nat.reduceLeDiff, false_implies, true_implies, forall_const, St.le0, St.swaps, St.ren, mapV, renO, V.ren, Sc.ren, Ob.ren, swp, slsLe, obsLe, vLe, scLe, scsLe, obLe, Vq.look, Nat.reduceEqDiff, if_true, if_false, reduceCtorEq, ↓reduceIte, true_and, and_true, Rs.V, Rs.O, scsOf, obsOf]
theorem views_fn (n : Int) (c : List TCell) (hl : c.length ≤ 1048576) : FnC Try.prog 99 [aB n c] (.one (.own 30 dBlk ((viewL (n, c) 8).map eBlk))) := by
  refine fn_z (ty := ty) (ts := [.tmp 2]) [0, 1, 2, 3, 4, 6, 7] mixed ty_ok Try.func99 (by kernel_rfl) rfl (by kernel_rfl) (by kernel_rfl) rfl (.inl rfl) (Nat.le_of_ble_eq_true rfl) (by simp only [entry, entryV, C.toS, Nat.zero_add, Nat.reduceAdd, List.map_cons, List.map_nil]; exact rfl) ?_
  repeat' (first
    | ((with_reducible refine z_run ?_); (conv => whnf))
    | (with_reducible apply z_t)
    | (with_reducible apply z_f)
    | ((with_reducible apply z_b); ((intro h); (try simp only [beq_self_eq_true, eq_self, not_true_eq_false, not_false_eq_true, decide_true, cond_true, cond_false, Bool.not_true, Bool.not_false, Bool.not_eq_true', Bool.not_eq_false', Bool.and_eq_true, Bool.and_eq_false_imp, Bool.or_eq_true, Bool.or_eq_false_iff, decide_eq_true_eq, decide_eq_false_iff_not, Bool.false_eq_true, reduceCtorEq, Int.not_le, Int.not_lt, Decidable.not_not] at h)); rotate_left; ((intro h); (try simp only [beq_self_eq_true, eq_self, not_true_eq_false, not_false_eq_true, decide_true, cond_true, cond_false, Bool.not_true, Bool.not_false, Bool.not_eq_true', Bool.not_eq_false', Bool.and_eq_true, Bool.and_eq_false_imp, Bool.or_eq_true, Bool.or_eq_false_iff, decide_eq_true_eq, decide_eq_false_iff_not, Bool.false_eq_true, reduceCtorEq, Int.not_le, Int.not_lt, Decidable.not_not] at h)))
    | (with_reducible refine z_r ?_ ?_)
    | (with_reducible refine z_wg ?_ ?_)
    | (with_reducible refine z_w ?_ ?_)
    | ((with_reducible apply sh_nil); (intro _))
    | ((with_reducible apply sh_int); (intro _))
    | ((with_reducible apply sh_bool); (intro _))
    | ((with_reducible apply sh_sl); (intro _))
    | ((with_reducible refine z_xf ?zc ?zx ?_); (case zc => decide +kernel); (case zx => decide +kernel))
    | (with_reducible refine z_k (implSeenF _ _ hl _) ?_)
    | ((with_reducible refine z_o ?zo ?_); (case zo => decide +kernel))
    | ((with_reducible refine z_x ?zx ?_); (case zx => decide +kernel))
    | ((refine z_mf (d := ?zD) (f := ?zF) (caps := ?zA) (τ := ?zT) (ps := ?zP) (cs := ?zC) ?zd ?ze ?zt ?za ?zp ?zl ?_); (case zd => exact rfl); (case ze => exact rfl); (case zt => (simp only [frzAll, frz, frzL, frzV, frzS, drp, unSs, unS, unsing, ev, Vq.look, List.map_cons, List.map_nil, List.drop_zero, List.drop_succ_cons, Nat.reduceAdd, Nat.zero_add, Option.map_some, Nat.reduceEqDiff, if_true, if_false, reduceCtorEq, ↓reduceIte]; exact rfl)); (case za => exact rfl); (case zp => exact rfl); (case zl => (simp only [unSs, unS, unsing, List.drop_zero, List.drop_succ_cons, Nat.reduceAdd, Nat.zero_add, Option.map_some, List.length_map, fillTo_zero, Int.toNat_natCast, Option.isSome_some, and_self, fixB, Nat.reduceLeDiff, false_implies, true_implies, forall_const, St.le0, St.swaps, St.ren, mapV, renO, V.ren, Sc.ren, Ob.ren, swp, slsLe, obsLe, vLe, scLe, scsLe, obLe, Vq.look, Nat.reduceEqDiff, if_true, if_false, reduceCtorEq, ↓reduceIte, true_and, and_true] <;> (and_intros <;> first | rfl | omega))))
    | fail)
  refine z_li (fun k => k ≤ 8) (0 : Nat) (fun k => 8 - k) (fun k => ⟨[(1, .one (.bx 1 0)), (3, .one (.root 5)), (6, .one (.int .i64 k))], [(5, .row 30 dBlk ((viewL (n, c) k).map eBlk)), (1, .box [.int .i64 n, .ro dCell (c.map eCell)])]⟩) (by omega) ?_ ?_
  · simp only [List.length_map, fillTo_zero, Int.toNat_natCast, Option.isSome_some, and_self, fixB, Nat.reduceLeDiff, false_implies, true_implies, forall_const, St.le0, St.swaps, St.ren, mapV, renO, V.ren, Sc.ren, Ob.ren, swp, slsLe, obsLe, vLe, scLe, scsLe, obLe, Vq.look, Nat.reduceEqDiff, if_true, if_false, reduceCtorEq, ↓reduceIte, true_and, and_true] <;> (and_intros <;> first | rfl | omega | assumption)
  · intro k hk
    have hvl := viewL_len (n, c) k
    repeat' (first
    | ((with_reducible refine z_run ?_); (conv => whnf))
    | (with_reducible apply z_t)
    | (with_reducible apply z_f)
    | ((with_reducible apply z_b); ((intro h); (try simp only [beq_self_eq_true, eq_self, not_true_eq_false, not_false_eq_true, decide_true, cond_true, cond_false, Bool.not_true, Bool.not_false, Bool.not_eq_true', Bool.not_eq_false', Bool.and_eq_true, Bool.and_eq_false_imp, Bool.or_eq_true, Bool.or_eq_false_iff, decide_eq_true_eq, decide_eq_false_iff_not, Bool.false_eq_true, reduceCtorEq, Int.not_le, Int.not_lt, Decidable.not_not] at h)); rotate_left; ((intro h); (try simp only [beq_self_eq_true, eq_self, not_true_eq_false, not_false_eq_true, decide_true, cond_true, cond_false, Bool.not_true, Bool.not_false, Bool.not_eq_true', Bool.not_eq_false', Bool.and_eq_true, Bool.and_eq_false_imp, Bool.or_eq_true, Bool.or_eq_false_iff, decide_eq_true_eq, decide_eq_false_iff_not, Bool.false_eq_true, reduceCtorEq, Int.not_le, Int.not_lt, Decidable.not_not] at h)))
    | (with_reducible refine z_r ?_ ?_)
    | (with_reducible refine z_wg ?_ ?_)
    | (with_reducible refine z_w ?_ ?_)
    | ((with_reducible apply sh_nil); (intro _))
    | ((with_reducible apply sh_int); (intro _))
    | ((with_reducible apply sh_bool); (intro _))
    | ((with_reducible apply sh_sl); (intro _))
    | ((with_reducible refine z_xf ?zc ?zx ?_); (case zc => decide +kernel); (case zx => decide +kernel))
    | (with_reducible refine z_k (implSeenF _ _ hl _) ?_)
    | ((with_reducible refine z_o ?zo ?_); (case zo => decide +kernel))
    | ((with_reducible refine z_x ?zx ?_); (case zx => decide +kernel))
    | ((refine z_mf (d := ?zD) (f := ?zF) (caps := ?zA) (τ := ?zT) (ps := ?zP) (cs := ?zC) ?zd ?ze ?zt ?za ?zp ?zl ?_); (case zd => exact rfl); (case ze => exact rfl); (case zt => (simp only [frzAll, frz, frzL, frzV, frzS, drp, unSs, unS, unsing, ev, Vq.look, List.map_cons, List.map_nil, List.drop_zero, List.drop_succ_cons, Nat.reduceAdd, Nat.zero_add, Option.map_some, Nat.reduceEqDiff, if_true, if_false, reduceCtorEq, ↓reduceIte]; exact rfl)); (case za => exact rfl); (case zp => exact rfl); (case zl => (simp only [unSs, unS, unsing, List.drop_zero, List.drop_succ_cons, Nat.reduceAdd, Nat.zero_add, Option.map_some, List.length_map, fillTo_zero, Int.toNat_natCast, Option.isSome_some, and_self, fixB, Nat.reduceLeDiff, false_implies, true_implies, forall_const, St.le0, St.swaps, St.ren, mapV, renO, V.ren, Sc.ren, Ob.ren, swp, slsLe, obsLe, vLe, scLe, scsLe, obLe, Vq.look, Nat.reduceEqDiff, if_true, if_false, reduceCtorEq, ↓reduceIte, true_and, and_true] <;> (and_intros <;> first | rfl | omega))))
    | fail)
    all_goals ((try simp only [Int.toNat_natCast, tn1, tp1, List.length_map, eq_self, true_and, and_true] at *); (try simp (disch := omega) only [wr, Int.toNat_natCast, tn1, tp1, List.length_map, eq_self, true_and, and_true] at *))
    all_goals (first
      | omega
      | (simp only [List.length_map, List.length_cons, List.length_nil, hvl]; omega)
      | (refine z_e rfl ?_; simp only [fin, finP, finM, ids, nodupB, tupP, tupM, memN, List.length_cons, List.length_nil, List.nil_append, List.append_nil, List.cons_append, Nat.zero_add, Nat.reduceAdd, ne_eq, not_false_eq_true, eq_self, ev, Vq.look, List.map_cons, List.map_nil, and_true, true_and, Nat.reduceEqDiff, if_true, if_false, reduceCtorEq, ↓reduceIte]; rw [show k = 8 by omega]; done)
      | (refine z_n (k + 1) ⟨by omega, by omega⟩ ?_; rw [viewL_succ, List.map_append]; simp only [List.length_map, fillTo_zero, Int.toNat_natCast, Option.isSome_some, and_self, fixB, Nat.reduceLeDiff, false_implies, true_implies, forall_const, St.le0, St.swaps, St.ren, mapV, renO, V.ren, Sc.ren, Ob.ren, swp, slsLe, obsLe, vLe, scLe, scsLe, obLe, Vq.look, Nat.reduceEqDiff, if_true, if_false, reduceCtorEq, ↓reduceIte, true_and, and_true] <;> (and_intros <;> first | rfl | omega | assumption); done)
      | (trace_state; fail))
theorem sidesWhere_fn (n : Int) (c : List TCell) (hl : c.length ≤ 1048576) (f : Nat) (cells : List C) (q : TBlk → Bool) (hf : ∀ x : TBlk, x.2.length ≤ 16 → FnC Try.prog f [aB x.1 x.2, (false, [.ptr cells])] (.one (.bool (q x)))) :
    FnC Try.prog 92 [aB n c, (false, [.fn f [.ptr cells]])] (.one (.own 3 dI ((if blkOk n c then sideL (fun k => q (seenB (n, c) k)) 8 else []).map eI))) := by
  by_cases hb : blkOk n c
  · rw [if_pos hb]
    refine fn_z (ty := ty) (ts := [.tmp 4]) [0, 1, 2, 4, 5, 6, 7, 10, 13, 14, 15, 16, 22] mixed ty_ok Try.func92 (by kernel_rfl) rfl (by kernel_rfl) (by kernel_rfl) rfl (.inl rfl) (Nat.le_of_ble_eq_true rfl) (by simp only [entry, entryV, C.toS, Nat.zero_add, Nat.reduceAdd, List.map_cons, List.map_nil]; exact rfl) ?_
    repeat' (first
    | ((with_reducible refine z_run ?_); (conv => whnf))
    | (with_reducible apply z_t)
    | (with_reducible apply z_f)
    | ((with_reducible apply z_b); ((intro h); (try simp only [beq_self_eq_true, eq_self, not_true_eq_false, not_false_eq_true, decide_true, cond_true, cond_false, Bool.not_true, Bool.not_false, Bool.not_eq_true', Bool.not_eq_false', Bool.and_eq_true, Bool.and_eq_false_imp, Bool.or_eq_true, Bool.or_eq_false_iff, decide_eq_true_eq, decide_eq_false_iff_not, Bool.false_eq_true, reduceCtorEq, Int.not_le, Int.not_lt, Decidable.not_not] at h)); rotate_left; ((intro h); (try simp only [beq_self_eq_true, eq_self, not_true_eq_false, not_false_eq_true, decide_true, cond_true, cond_false, Bool.not_true, Bool.not_false, Bool.not_eq_true', Bool.not_eq_false', Bool.and_eq_true, Bool.and_eq_false_imp, Bool.or_eq_true, Bool.or_eq_false_iff, decide_eq_true_eq, decide_eq_false_iff_not, Bool.false_eq_true, reduceCtorEq, Int.not_le, Int.not_lt, Decidable.not_not] at h)))
    | (with_reducible refine z_r ?_ ?_)
    | (with_reducible refine z_wg ?_ ?_)
    | (with_reducible refine z_w ?_ ?_)
    | ((with_reducible apply sh_nil); (intro _))
    | ((with_reducible apply sh_int); (intro _))
    | ((with_reducible apply sh_bool); (intro _))
    | ((with_reducible apply sh_sl); (intro _))
    | ((with_reducible refine z_xf ?zc ?zx ?_); (case zc => decide +kernel); (case zx => decide +kernel))
    | (with_reducible refine z_k (implBlockOk _ _ (by omega)) ?_)
    | (with_reducible refine z_k (views_fn _ _ hl) ?_)
    | ((with_reducible refine z_o ?zo ?_); (case zo => decide +kernel))
    | ((with_reducible refine z_x ?zx ?_); (case zx => decide +kernel))
    | ((refine z_mf (d := ?zD) (f := ?zF) (caps := ?zA) (τ := ?zT) (ps := ?zP) (cs := ?zC) ?zd ?ze ?zt ?za ?zp ?zl ?_); (case zd => exact rfl); (case ze => exact rfl); (case zt => (simp only [frzAll, frz, frzL, frzV, frzS, drp, unSs, unS, unsing, ev, Vq.look, List.map_cons, List.map_nil, List.drop_zero, List.drop_succ_cons, Nat.reduceAdd, Nat.zero_add, Option.map_some, Nat.reduceEqDiff, if_true, if_false, reduceCtorEq, ↓reduceIte]; exact rfl)); (case za => exact rfl); (case zp => exact rfl); (case zl => (simp only [unSs, unS, unsing, List.drop_zero, List.drop_succ_cons, Nat.reduceAdd, Nat.zero_add, Option.map_some, List.length_map, fillTo_zero, Int.toNat_natCast, Option.isSome_some, and_self, fixB, Nat.reduceLeDiff, false_implies, true_implies, forall_const, St.le0, St.swaps, St.ren, mapV, renO, V.ren, Sc.ren, Ob.ren, swp, slsLe, obsLe, vLe, scLe, scsLe, obLe, Vq.look, Nat.reduceEqDiff, if_true, if_false, reduceCtorEq, ↓reduceIte, true_and, and_true] <;> (and_intros <;> first | rfl | omega))))
    | fail)
    all_goals ((try simp only [Int.toNat_natCast, tn1, tp1, List.length_map, eq_self, true_and, and_true] at *); (try simp (disch := omega) only [wr, Int.toNat_natCast, tn1, tp1, List.length_map, eq_self, true_and, and_true] at *))
    all_goals (first
      | exact absurd hb (by assumption)
      | skip)
    refine z_li (fun k => k ≤ 8) (0 : Nat) (fun k => 8 - k) (fun k => ⟨[(1, .one (.fn f [(false, [.ptr cells])])), (5, .one (.root 11)), (13, .one (.root 13)), (14, .one (.int .i64 8)), (15, .one (.int .i64 k))], [(13, .row 30 dBlk ((viewL (n, c) 8).map eBlk)), (11, .row 3 dI ((sideL (fun k => q (seenB (n, c) k)) k).map eI))]⟩) (by omega) ?_ ?_
    · simp only [viewL_len]; simp only [List.length_map, fillTo_zero, Int.toNat_natCast, Option.isSome_some, and_self, fixB, Nat.reduceLeDiff, false_implies, true_implies, forall_const, St.le0, St.swaps, St.ren, mapV, renO, V.ren, Sc.ren, Ob.ren, swp, slsLe, obsLe, vLe, scLe, scsLe, obLe, Vq.look, Nat.reduceEqDiff, if_true, if_false, reduceCtorEq, ↓reduceIte, true_and, and_true] <;> (and_intros <;> first | rfl | omega | assumption)
    · intro k hk
      have hvl := viewL_len (n, c) 8
      have hsl := sideL_len (fun k => q (seenB (n, c) k)) k
      have hg := fun h => viewL_get (n, c) (m := 8) (k := k) h
      repeat' (first
    | ((with_reducible refine z_run ?_); (conv => whnf))
    | (with_reducible apply z_t)
    | (with_reducible apply z_f)
    | ((with_reducible apply z_b); ((intro h); (try simp only [beq_self_eq_true, eq_self, not_true_eq_false, not_false_eq_true, decide_true, cond_true, cond_false, Bool.not_true, Bool.not_false, Bool.not_eq_true', Bool.not_eq_false', Bool.and_eq_true, Bool.and_eq_false_imp, Bool.or_eq_true, Bool.or_eq_false_iff, decide_eq_true_eq, decide_eq_false_iff_not, Bool.false_eq_true, reduceCtorEq, Int.not_le, Int.not_lt, Decidable.not_not] at h)); rotate_left; ((intro h); (try simp only [beq_self_eq_true, eq_self, not_true_eq_false, not_false_eq_true, decide_true, cond_true, cond_false, Bool.not_true, Bool.not_false, Bool.not_eq_true', Bool.not_eq_false', Bool.and_eq_true, Bool.and_eq_false_imp, Bool.or_eq_true, Bool.or_eq_false_iff, decide_eq_true_eq, decide_eq_false_iff_not, Bool.false_eq_true, reduceCtorEq, Int.not_le, Int.not_lt, Decidable.not_not] at h)))
    | (with_reducible refine z_r ?_ ?_)
    | (with_reducible refine z_wg ?_ ?_)
    | (with_reducible refine z_w ?_ ?_)
    | ((with_reducible apply sh_nil); (intro _))
    | ((with_reducible apply sh_int); (intro _))
    | ((with_reducible apply sh_bool); (intro _))
    | ((with_reducible apply sh_sl); (intro _))
    | ((with_reducible refine z_xf ?zc ?zx ?_); (case zc => decide +kernel); (case zx => decide +kernel))
    | (with_reducible refine z_k (hf _ (by simp only [Int.toNat_natCast]; exact viewL_c _ _ _)) ?_)
    | ((with_reducible refine z_o ?zo ?_); (case zo => decide +kernel))
    | ((with_reducible refine z_x ?zx ?_); (case zx => decide +kernel))
    | ((refine z_mf (d := ?zD) (f := ?zF) (caps := ?zA) (τ := ?zT) (ps := ?zP) (cs := ?zC) ?zd ?ze ?zt ?za ?zp ?zl ?_); (case zd => exact rfl); (case ze => exact rfl); (case zt => (simp only [frzAll, frz, frzL, frzV, frzS, drp, unSs, unS, unsing, ev, Vq.look, List.map_cons, List.map_nil, List.drop_zero, List.drop_succ_cons, Nat.reduceAdd, Nat.zero_add, Option.map_some, Nat.reduceEqDiff, if_true, if_false, reduceCtorEq, ↓reduceIte]; exact rfl)); (case za => exact rfl); (case zp => exact rfl); (case zl => (simp only [unSs, unS, unsing, List.drop_zero, List.drop_succ_cons, Nat.reduceAdd, Nat.zero_add, Option.map_some, List.length_map, fillTo_zero, Int.toNat_natCast, Option.isSome_some, and_self, fixB, Nat.reduceLeDiff, false_implies, true_implies, forall_const, St.le0, St.swaps, St.ren, mapV, renO, V.ren, Sc.ren, Ob.ren, swp, slsLe, obsLe, vLe, scLe, scsLe, obLe, Vq.look, Nat.reduceEqDiff, if_true, if_false, reduceCtorEq, ↓reduceIte, true_and, and_true] <;> (and_intros <;> first | rfl | omega))))
    | fail)
      all_goals ((try simp only [Int.toNat_natCast, tn1, tp1, List.length_map, eq_self, true_and, and_true] at *); (try simp (disch := omega) only [wr, Int.toNat_natCast, tn1, tp1, List.length_map, eq_self, true_and, and_true] at *))
      all_goals (first
        | omega
        | (simp only [List.length_map, List.length_cons, List.length_nil, hvl]; omega)
        | (refine z_e rfl ?_; simp only [fin, finP, finM, ids, nodupB, tupP, tupM, memN, List.length_cons, List.length_nil, List.nil_append, List.append_nil, List.cons_append, Nat.zero_add, Nat.reduceAdd, ne_eq, not_false_eq_true, eq_self, ev, Vq.look, List.map_cons, List.map_nil, and_true, true_and, Nat.reduceEqDiff, if_true, if_false, reduceCtorEq, ↓reduceIte]; rw [show k = 8 by omega]; done)
        | (refine z_n (k + 1) ⟨by omega, by omega⟩ ?_; rw [sideL_t (by rw [← hg (by omega)]; assumption), List.map_append]; simp only [List.length_map, fillTo_zero, Int.toNat_natCast, Option.isSome_some, and_self, fixB, Nat.reduceLeDiff, false_implies, true_implies, forall_const, St.le0, St.swaps, St.ren, mapV, renO, V.ren, Sc.ren, Ob.ren, swp, slsLe, obsLe, vLe, scLe, scsLe, obLe, Vq.look, Nat.reduceEqDiff, if_true, if_false, reduceCtorEq, ↓reduceIte, true_and, and_true] <;> (and_intros <;> first | rfl | omega | assumption); done)
        | (refine z_n (k + 1) ⟨by omega, by omega⟩ ?_; rw [sideL_f (by rw [← hg (by omega)]; assumption)]; simp only [List.length_map, fillTo_zero, Int.toNat_natCast, Option.isSome_some, and_self, fixB, Nat.reduceLeDiff, false_implies, true_implies, forall_const, St.le0, St.swaps, St.ren, mapV, renO, V.ren, Sc.ren, Ob.ren, swp, slsLe, obsLe, vLe, scLe, scsLe, obLe, Vq.look, Nat.reduceEqDiff, if_true, if_false, reduceCtorEq, ↓reduceIte, true_and, and_true] <;> (and_intros <;> first | rfl | omega | assumption); done)
        | (trace_state; fail))
  · rw [if_neg hb]
    refine fn_z (ty := ty) (ts := [.tmp 4]) [0, 1, 2, 4, 5, 6, 7, 10, 13, 14, 15, 16, 22] mixed ty_ok Try.func92 (by kernel_rfl) rfl (by kernel_rfl) (by kernel_rfl) rfl (.inl rfl) (Nat.le_of_ble_eq_true rfl) (by simp only [entry, entryV, C.toS, Nat.zero_add, Nat.reduceAdd, List.map_cons, List.map_nil]; exact rfl) ?_
    repeat' (first
    | ((with_reducible refine z_run ?_); (conv => whnf))
    | (with_reducible apply z_t)
    | (with_reducible apply z_f)
    | ((with_reducible apply z_b); ((intro h); (try simp only [beq_self_eq_true, eq_self, not_true_eq_false, not_false_eq_true, decide_true, cond_true, cond_false, Bool.not_true, Bool.not_false, Bool.not_eq_true', Bool.not_eq_false', Bool.and_eq_true, Bool.and_eq_false_imp, Bool.or_eq_true, Bool.or_eq_false_iff, decide_eq_true_eq, decide_eq_false_iff_not, Bool.false_eq_true, reduceCtorEq, Int.not_le, Int.not_lt, Decidable.not_not] at h)); rotate_left; ((intro h); (try simp only [beq_self_eq_true, eq_self, not_true_eq_false, not_false_eq_true, decide_true, cond_true, cond_false, Bool.not_true, Bool.not_false, Bool.not_eq_true', Bool.not_eq_false', Bool.and_eq_true, Bool.and_eq_false_imp, Bool.or_eq_true, Bool.or_eq_false_iff, decide_eq_true_eq, decide_eq_false_iff_not, Bool.false_eq_true, reduceCtorEq, Int.not_le, Int.not_lt, Decidable.not_not] at h)))
    | (with_reducible refine z_r ?_ ?_)
    | (with_reducible refine z_wg ?_ ?_)
    | (with_reducible refine z_w ?_ ?_)
    | ((with_reducible apply sh_nil); (intro _))
    | ((with_reducible apply sh_int); (intro _))
    | ((with_reducible apply sh_bool); (intro _))
    | ((with_reducible apply sh_sl); (intro _))
    | ((with_reducible refine z_xf ?zc ?zx ?_); (case zc => decide +kernel); (case zx => decide +kernel))
    | (with_reducible refine z_k (implBlockOk _ _ (by omega)) ?_)
    | ((with_reducible refine z_o ?zo ?_); (case zo => decide +kernel))
    | ((with_reducible refine z_x ?zx ?_); (case zx => decide +kernel))
    | ((refine z_mf (d := ?zD) (f := ?zF) (caps := ?zA) (τ := ?zT) (ps := ?zP) (cs := ?zC) ?zd ?ze ?zt ?za ?zp ?zl ?_); (case zd => exact rfl); (case ze => exact rfl); (case zt => (simp only [frzAll, frz, frzL, frzV, frzS, drp, unSs, unS, unsing, ev, Vq.look, List.map_cons, List.map_nil, List.drop_zero, List.drop_succ_cons, Nat.reduceAdd, Nat.zero_add, Option.map_some, Nat.reduceEqDiff, if_true, if_false, reduceCtorEq, ↓reduceIte]; exact rfl)); (case za => exact rfl); (case zp => exact rfl); (case zl => (simp only [unSs, unS, unsing, List.drop_zero, List.drop_succ_cons, Nat.reduceAdd, Nat.zero_add, Option.map_some, List.length_map, fillTo_zero, Int.toNat_natCast, Option.isSome_some, and_self, fixB, Nat.reduceLeDiff, false_implies, true_implies, forall_const, St.le0, St.swaps, St.ren, mapV, renO, V.ren, Sc.ren, Ob.ren, swp, slsLe, obsLe, vLe, scLe, scsLe, obLe, Vq.look, Nat.reduceEqDiff, if_true, if_false, reduceCtorEq, ↓reduceIte, true_and, and_true] <;> (and_intros <;> first | rfl | omega))))
    | fail)
    all_goals ((try simp only [Int.toNat_natCast, tn1, tp1, List.length_map, eq_self, true_and, and_true] at *); (try simp (disch := omega) only [wr, Int.toNat_natCast, tn1, tp1, List.length_map, eq_self, true_and, and_true] at *))
    all_goals (first
      | exact absurd (by assumption) hb
      | (refine z_e rfl ?_; simp only [fin, finP, finM, ids, nodupB, tupP, tupM, memN, List.length_cons, List.length_nil, List.nil_append, List.append_nil, List.cons_append, Nat.zero_add, Nat.reduceAdd, ne_eq, not_false_eq_true, eq_self, ev, Vq.look, List.map_cons, List.map_nil, and_true, true_and, Nat.reduceEqDiff, if_true, if_false, reduceCtorEq, ↓reduceIte]; done)
      | (trace_state; fail))
def symR (n : Int) (c : List TCell) : List Int := if blkOk n c then sideL (fun k => decide (seenB (n, c) k = (n, c))) 8 else []
theorem symR_len (n : Int) (c : List TCell) : (symR n c).length ≤ 8 := by
  unfold symR
  split
  · exact sideL_len _ _
  · simp
theorem sym1 (n : Int) (c : List TCell) (hl : c.length ≤ 1048576) (x : TBlk) (hx : x.2.length ≤ 16) : FnC Try.prog 93 [aB x.1 x.2, (false, [.ptr [.int .i64 n, .sq dCell (c.map eCell)]])] (.one (.bool (decide (x = (n, c))))) := by
  refine fn_z (ty := ty) (ts := [.tmp 3]) [0, 1, 2, 3] mixed ty_ok Try.func93 (by kernel_rfl) rfl (by kernel_rfl) (by kernel_rfl) rfl (.inl rfl) (Nat.le_of_ble_eq_true rfl) (by simp only [entry, entryV, C.toS, Nat.zero_add, Nat.reduceAdd, List.map_cons, List.map_nil]; exact rfl) ?_
  repeat' (first
    | ((with_reducible refine z_run ?_); (conv => whnf))
    | (with_reducible apply z_t)
    | (with_reducible apply z_f)
    | ((with_reducible apply z_b); ((intro h); (try simp only [beq_self_eq_true, eq_self, not_true_eq_false, not_false_eq_true, decide_true, cond_true, cond_false, Bool.not_true, Bool.not_false, Bool.not_eq_true', Bool.not_eq_false', Bool.and_eq_true, Bool.and_eq_false_imp, Bool.or_eq_true, Bool.or_eq_false_iff, decide_eq_true_eq, decide_eq_false_iff_not, Bool.false_eq_true, reduceCtorEq, Int.not_le, Int.not_lt, Decidable.not_not] at h)); rotate_left; ((intro h); (try simp only [beq_self_eq_true, eq_self, not_true_eq_false, not_false_eq_true, decide_true, cond_true, cond_false, Bool.not_true, Bool.not_false, Bool.not_eq_true', Bool.not_eq_false', Bool.and_eq_true, Bool.and_eq_false_imp, Bool.or_eq_true, Bool.or_eq_false_iff, decide_eq_true_eq, decide_eq_false_iff_not, Bool.false_eq_true, reduceCtorEq, Int.not_le, Int.not_lt, Decidable.not_not] at h)))
    | (with_reducible refine z_r ?_ ?_)
    | (with_reducible refine z_wg ?_ ?_)
    | (with_reducible refine z_w ?_ ?_)
    | ((with_reducible apply sh_nil); (intro _))
    | ((with_reducible apply sh_int); (intro _))
    | ((with_reducible apply sh_bool); (intro _))
    | ((with_reducible apply sh_sl); (intro _))
    | ((with_reducible refine z_xf ?zc ?zx ?_); (case zc => decide +kernel); (case zx => decide +kernel))
    | (with_reducible refine z_k (implSameBlock _ _ _ _ (by omega) (by omega)) ?_)
    | ((with_reducible refine z_o ?zo ?_); (case zo => decide +kernel))
    | ((with_reducible refine z_x ?zx ?_); (case zx => decide +kernel))
    | ((refine z_mf (d := ?zD) (f := ?zF) (caps := ?zA) (τ := ?zT) (ps := ?zP) (cs := ?zC) ?zd ?ze ?zt ?za ?zp ?zl ?_); (case zd => exact rfl); (case ze => exact rfl); (case zt => (simp only [frzAll, frz, frzL, frzV, frzS, drp, unSs, unS, unsing, ev, Vq.look, List.map_cons, List.map_nil, List.drop_zero, List.drop_succ_cons, Nat.reduceAdd, Nat.zero_add, Option.map_some, Nat.reduceEqDiff, if_true, if_false, reduceCtorEq, ↓reduceIte]; exact rfl)); (case za => exact rfl); (case zp => exact rfl); (case zl => (simp only [unSs, unS, unsing, List.drop_zero, List.drop_succ_cons, Nat.reduceAdd, Nat.zero_add, Option.map_some, List.length_map, fillTo_zero, Int.toNat_natCast, Option.isSome_some, and_self, fixB, Nat.reduceLeDiff, false_implies, true_implies, forall_const, St.le0, St.swaps, St.ren, mapV, renO, V.ren, Sc.ren, Ob.ren, swp, slsLe, obsLe, vLe, scLe, scsLe, obLe, Vq.look, Nat.reduceEqDiff, if_true, if_false, reduceCtorEq, ↓reduceIte, true_and, and_true] <;> (and_intros <;> first | rfl | omega))))
    | fail)
  all_goals ((try simp only [Int.toNat_natCast, tn1, tp1, List.length_map, eq_self, true_and, and_true] at *); (try simp (disch := omega) only [wr, Int.toNat_natCast, tn1, tp1, List.length_map, eq_self, true_and, and_true] at *))
  all_goals refine z_e rfl ?_; simp only [fin, finP, finM, ids, nodupB, tupP, tupM, memN, List.length_cons, List.length_nil, List.nil_append, List.append_nil, List.cons_append, Nat.zero_add, Nat.reduceAdd, ne_eq, not_false_eq_true, eq_self, ev, Vq.look, List.map_cons, List.map_nil, and_true, true_and, Nat.reduceEqDiff, if_true, if_false, reduceCtorEq, ↓reduceIte]
theorem implSymmetriesOf (n : Int) (c : List TCell) (hl : c.length ≤ 1048576) : FnC Try.prog 51 [aB n c] (.one (.own 3 dI ((symR n c).map eI))) := by
  have hs := sidesWhere_fn n c hl 93 [.int .i64 n, .sq dCell (c.map eCell)] (fun x => decide (x = (n, c))) (sym1 n c hl)
  refine fn_z (ty := ty) (ts := [.tmp 2]) [0, 1, 2] mixed ty_ok Try.func51 (by kernel_rfl) rfl (by kernel_rfl) (by kernel_rfl) rfl (.inl rfl) (Nat.le_of_ble_eq_true rfl) (by simp only [entry, entryV, C.toS, Nat.zero_add, Nat.reduceAdd, List.map_cons, List.map_nil]; exact rfl) ?_
  repeat' (first
    | ((with_reducible refine z_run ?_); (conv => whnf))
    | (with_reducible apply z_t)
    | (with_reducible apply z_f)
    | ((with_reducible apply z_b); ((intro h); (try simp only [beq_self_eq_true, eq_self, not_true_eq_false, not_false_eq_true, decide_true, cond_true, cond_false, Bool.not_true, Bool.not_false, Bool.not_eq_true', Bool.not_eq_false', Bool.and_eq_true, Bool.and_eq_false_imp, Bool.or_eq_true, Bool.or_eq_false_iff, decide_eq_true_eq, decide_eq_false_iff_not, Bool.false_eq_true, reduceCtorEq, Int.not_le, Int.not_lt, Decidable.not_not] at h)); rotate_left; ((intro h); (try simp only [beq_self_eq_true, eq_self, not_true_eq_false, not_false_eq_true, decide_true, cond_true, cond_false, Bool.not_true, Bool.not_false, Bool.not_eq_true', Bool.not_eq_false', Bool.and_eq_true, Bool.and_eq_false_imp, Bool.or_eq_true, Bool.or_eq_false_iff, decide_eq_true_eq, decide_eq_false_iff_not, Bool.false_eq_true, reduceCtorEq, Int.not_le, Int.not_lt, Decidable.not_not] at h)))
    | (with_reducible refine z_r ?_ ?_)
    | (with_reducible refine z_wg ?_ ?_)
    | (with_reducible refine z_w ?_ ?_)
    | ((with_reducible apply sh_nil); (intro _))
    | ((with_reducible apply sh_int); (intro _))
    | ((with_reducible apply sh_bool); (intro _))
    | ((with_reducible apply sh_sl); (intro _))
    | ((with_reducible refine z_xf ?zc ?zx ?_); (case zc => decide +kernel); (case zx => decide +kernel))
    | (with_reducible refine z_k hs ?_)
    | ((with_reducible refine z_o ?zo ?_); (case zo => decide +kernel))
    | ((with_reducible refine z_x ?zx ?_); (case zx => decide +kernel))
    | ((refine z_mf (d := ?zD) (f := ?zF) (caps := ?zA) (τ := ?zT) (ps := ?zP) (cs := ?zC) ?zd ?ze ?zt ?za ?zp ?zl ?_); (case zd => exact rfl); (case ze => exact rfl); (case zt => (simp only [frzAll, frz, frzL, frzV, frzS, drp, unSs, unS, unsing, ev, Vq.look, List.map_cons, List.map_nil, List.drop_zero, List.drop_succ_cons, Nat.reduceAdd, Nat.zero_add, Option.map_some, Nat.reduceEqDiff, if_true, if_false, reduceCtorEq, ↓reduceIte]; exact rfl)); (case za => exact rfl); (case zp => exact rfl); (case zl => (simp only [unSs, unS, unsing, List.drop_zero, List.drop_succ_cons, Nat.reduceAdd, Nat.zero_add, Option.map_some, List.length_map, fillTo_zero, Int.toNat_natCast, Option.isSome_some, and_self, fixB, Nat.reduceLeDiff, false_implies, true_implies, forall_const, St.le0, St.swaps, St.ren, mapV, renO, V.ren, Sc.ren, Ob.ren, swp, slsLe, obsLe, vLe, scLe, scsLe, obLe, Vq.look, Nat.reduceEqDiff, if_true, if_false, reduceCtorEq, ↓reduceIte, true_and, and_true] <;> (and_intros <;> first | rfl | omega))))
    | fail)
  all_goals ((try simp only [Int.toNat_natCast, tn1, tp1, List.length_map, eq_self, true_and, and_true] at *); (try simp (disch := omega) only [wr, Int.toNat_natCast, tn1, tp1, List.length_map, eq_self, true_and, and_true] at *))
  all_goals (refine z_e rfl ?_; simp only [fin, finP, finM, ids, nodupB, tupP, tupM, memN, List.length_cons, List.length_nil, List.nil_append, List.append_nil, List.cons_append, Nat.zero_add, Nat.reduceAdd, ne_eq, not_false_eq_true, eq_self, ev, Vq.look, List.map_cons, List.map_nil, and_true, true_and, Nat.reduceEqDiff, if_true, if_false, reduceCtorEq, ↓reduceIte]; rfl)
theorem specSymmetriesOf (n : Int) (c : List TCell) (hl : c.length ≤ 1048576) : FnC Try.prog 50 [aB n c] (.one (.own 3 dI ((symR n c).map eI))) := by
  refine fn_z (ty := ty) (ts := [.tmp 2]) [0, 1, 2, 3, 4, 11, 18] mixed ty_ok Try.func50 (by kernel_rfl) rfl (by kernel_rfl) (by kernel_rfl) rfl (.inl rfl) (Nat.le_of_ble_eq_true rfl) (by simp only [entry, entryV, C.toS, Nat.zero_add, Nat.reduceAdd, List.map_cons, List.map_nil]; exact rfl) ?_
  repeat' (first
    | ((with_reducible refine z_run ?_); (conv => whnf))
    | (with_reducible apply z_t)
    | (with_reducible apply z_f)
    | ((with_reducible apply z_b); ((intro h); (try simp only [beq_self_eq_true, eq_self, not_true_eq_false, not_false_eq_true, decide_true, cond_true, cond_false, Bool.not_true, Bool.not_false, Bool.not_eq_true', Bool.not_eq_false', Bool.and_eq_true, Bool.and_eq_false_imp, Bool.or_eq_true, Bool.or_eq_false_iff, decide_eq_true_eq, decide_eq_false_iff_not, Bool.false_eq_true, reduceCtorEq, Int.not_le, Int.not_lt, Decidable.not_not] at h)); rotate_left; ((intro h); (try simp only [beq_self_eq_true, eq_self, not_true_eq_false, not_false_eq_true, decide_true, cond_true, cond_false, Bool.not_true, Bool.not_false, Bool.not_eq_true', Bool.not_eq_false', Bool.and_eq_true, Bool.and_eq_false_imp, Bool.or_eq_true, Bool.or_eq_false_iff, decide_eq_true_eq, decide_eq_false_iff_not, Bool.false_eq_true, reduceCtorEq, Int.not_le, Int.not_lt, Decidable.not_not] at h)))
    | (with_reducible refine z_r ?_ ?_)
    | (with_reducible refine z_wg ?_ ?_)
    | (with_reducible refine z_w ?_ ?_)
    | ((with_reducible apply sh_nil); (intro _))
    | ((with_reducible apply sh_int); (intro _))
    | ((with_reducible apply sh_bool); (intro _))
    | ((with_reducible apply sh_sl); (intro _))
    | ((with_reducible refine z_xf ?zc ?zx ?_); (case zc => decide +kernel); (case zx => decide +kernel))
    | ((with_reducible refine z_o ?zo ?_); (case zo => decide +kernel))
    | ((with_reducible refine z_x ?zx ?_); (case zx => decide +kernel))
    | ((refine z_mf (d := ?zD) (f := ?zF) (caps := ?zA) (τ := ?zT) (ps := ?zP) (cs := ?zC) ?zd ?ze ?zt ?za ?zp ?zl ?_); (case zd => exact rfl); (case ze => exact rfl); (case zt => (simp only [frzAll, frz, frzL, frzV, frzS, drp, unSs, unS, unsing, ev, Vq.look, List.map_cons, List.map_nil, List.drop_zero, List.drop_succ_cons, Nat.reduceAdd, Nat.zero_add, Option.map_some, Nat.reduceEqDiff, if_true, if_false, reduceCtorEq, ↓reduceIte]; exact rfl)); (case za => exact rfl); (case zp => exact rfl); (case zl => (simp only [unSs, unS, unsing, List.drop_zero, List.drop_succ_cons, Nat.reduceAdd, Nat.zero_add, Option.map_some, List.length_map, fillTo_zero, Int.toNat_natCast, Option.isSome_some, and_self, fixB, Nat.reduceLeDiff, false_implies, true_implies, forall_const, St.le0, St.swaps, St.ren, mapV, renO, V.ren, Sc.ren, Ob.ren, swp, slsLe, obsLe, vLe, scLe, scsLe, obLe, Vq.look, Nat.reduceEqDiff, if_true, if_false, reduceCtorEq, ↓reduceIte, true_and, and_true] <;> (and_intros <;> first | rfl | omega))))
    | fail)
  refine z_li (fun k => k ≤ 8 ∧ (¬ blkOk n c → k = 0)) (0 : Nat) (fun k => 8 - k) (fun k => ⟨[(1, .one (.bx 1 0)), (3, .one (.root 5)), (4, .one (.int .i64 k))], [(5, .row 3 dI ((sideL (fun k => decide (seenB (n, c) k = (n, c))) k).map eI)), (1, .box [.int .i64 n, .ro dCell (c.map eCell)])]⟩) ⟨by omega, fun _ => rfl⟩ ?_ ?_
  · simp only [List.length_map, fillTo_zero, Int.toNat_natCast, Option.isSome_some, and_self, fixB, Nat.reduceLeDiff, false_implies, true_implies, forall_const, St.le0, St.swaps, St.ren, mapV, renO, V.ren, Sc.ren, Ob.ren, swp, slsLe, obsLe, vLe, scLe, scsLe, obLe, Vq.look, Nat.reduceEqDiff, if_true, if_false, reduceCtorEq, ↓reduceIte, true_and, and_true] <;> (and_intros <;> first | rfl | omega | assumption)
  · intro k ⟨hk, hbk⟩
    have hsl := sideL_len (fun k => decide (seenB (n, c) k = (n, c))) k
    have hcl := seenB_len (n, c) k
    repeat' (first
    | ((with_reducible refine z_run ?_); (conv => whnf))
    | (with_reducible apply z_t)
    | (with_reducible apply z_f)
    | ((with_reducible apply z_b); ((intro h); (try simp only [beq_self_eq_true, eq_self, not_true_eq_false, not_false_eq_true, decide_true, cond_true, cond_false, Bool.not_true, Bool.not_false, Bool.not_eq_true', Bool.not_eq_false', Bool.and_eq_true, Bool.and_eq_false_imp, Bool.or_eq_true, Bool.or_eq_false_iff, decide_eq_true_eq, decide_eq_false_iff_not, Bool.false_eq_true, reduceCtorEq, Int.not_le, Int.not_lt, Decidable.not_not] at h)); rotate_left; ((intro h); (try simp only [beq_self_eq_true, eq_self, not_true_eq_false, not_false_eq_true, decide_true, cond_true, cond_false, Bool.not_true, Bool.not_false, Bool.not_eq_true', Bool.not_eq_false', Bool.and_eq_true, Bool.and_eq_false_imp, Bool.or_eq_true, Bool.or_eq_false_iff, decide_eq_true_eq, decide_eq_false_iff_not, Bool.false_eq_true, reduceCtorEq, Int.not_le, Int.not_lt, Decidable.not_not] at h)))
    | (with_reducible refine z_r ?_ ?_)
    | (with_reducible refine z_wg ?_ ?_)
    | (with_reducible refine z_w ?_ ?_)
    | ((with_reducible apply sh_nil); (intro _))
    | ((with_reducible apply sh_int); (intro _))
    | ((with_reducible apply sh_bool); (intro _))
    | ((with_reducible apply sh_sl); (intro _))
    | ((with_reducible refine z_xf ?zc ?zx ?_); (case zc => decide +kernel); (case zx => decide +kernel))
    | (with_reducible refine z_k (specBlockOk _ _ (by omega)) ?_)
    | (with_reducible refine z_k (specSeenFrom _ _ hl _) ?_)
    | (with_reducible refine z_k (specSameBlock _ _ _ _ (by omega) (by omega)) ?_)
    | ((with_reducible refine z_o ?zo ?_); (case zo => decide +kernel))
    | ((with_reducible refine z_x ?zx ?_); (case zx => decide +kernel))
    | ((refine z_mf (d := ?zD) (f := ?zF) (caps := ?zA) (τ := ?zT) (ps := ?zP) (cs := ?zC) ?zd ?ze ?zt ?za ?zp ?zl ?_); (case zd => exact rfl); (case ze => exact rfl); (case zt => (simp only [frzAll, frz, frzL, frzV, frzS, drp, unSs, unS, unsing, ev, Vq.look, List.map_cons, List.map_nil, List.drop_zero, List.drop_succ_cons, Nat.reduceAdd, Nat.zero_add, Option.map_some, Nat.reduceEqDiff, if_true, if_false, reduceCtorEq, ↓reduceIte]; exact rfl)); (case za => exact rfl); (case zp => exact rfl); (case zl => (simp only [unSs, unS, unsing, List.drop_zero, List.drop_succ_cons, Nat.reduceAdd, Nat.zero_add, Option.map_some, List.length_map, fillTo_zero, Int.toNat_natCast, Option.isSome_some, and_self, fixB, Nat.reduceLeDiff, false_implies, true_implies, forall_const, St.le0, St.swaps, St.ren, mapV, renO, V.ren, Sc.ren, Ob.ren, swp, slsLe, obsLe, vLe, scLe, scsLe, obLe, Vq.look, Nat.reduceEqDiff, if_true, if_false, reduceCtorEq, ↓reduceIte, true_and, and_true] <;> (and_intros <;> first | rfl | omega))))
    | fail)
    all_goals ((try simp only [Int.toNat_natCast, tn1, tp1, List.length_map, eq_self, true_and, and_true] at *); (try simp (disch := omega) only [wr, Int.toNat_natCast, tn1, tp1, List.length_map, eq_self, true_and, and_true] at *))
    all_goals (first
      | omega
      | (simp only [List.length_map, List.length_cons, List.length_nil]; omega)
      | (refine z_e rfl ?_; simp only [fin, finP, finM, ids, nodupB, tupP, tupM, memN, List.length_cons, List.length_nil, List.nil_append, List.append_nil, List.cons_append, Nat.zero_add, Nat.reduceAdd, ne_eq, not_false_eq_true, eq_self, ev, Vq.look, List.map_cons, List.map_nil, and_true, true_and, Nat.reduceEqDiff, if_true, if_false, reduceCtorEq, ↓reduceIte]; rw [symR, if_neg (by assumption), hbk (by assumption)]; rfl)
      | (refine z_e rfl ?_; simp only [fin, finP, finM, ids, nodupB, tupP, tupM, memN, List.length_cons, List.length_nil, List.nil_append, List.append_nil, List.cons_append, Nat.zero_add, Nat.reduceAdd, ne_eq, not_false_eq_true, eq_self, ev, Vq.look, List.map_cons, List.map_nil, and_true, true_and, Nat.reduceEqDiff, if_true, if_false, reduceCtorEq, ↓reduceIte]; rw [show k = 8 by omega, symR, if_pos (by by_cases hb : blkOk n c; exact hb; have := hbk hb; omega)]; done)
      | (refine z_n (k + 1) ⟨⟨by omega, fun hb => absurd (by assumption) hb⟩, by omega⟩ ?_; rw [sideL_t (decide_eq_true (by assumption)), List.map_append]; simp only [List.length_map, fillTo_zero, Int.toNat_natCast, Option.isSome_some, and_self, fixB, Nat.reduceLeDiff, false_implies, true_implies, forall_const, St.le0, St.swaps, St.ren, mapV, renO, V.ren, Sc.ren, Ob.ren, swp, slsLe, obsLe, vLe, scLe, scsLe, obLe, Vq.look, Nat.reduceEqDiff, if_true, if_false, reduceCtorEq, ↓reduceIte, true_and, and_true] <;> (and_intros <;> first | rfl | omega | assumption); done)
      | (refine z_n (k + 1) ⟨⟨by omega, fun hb => absurd (by assumption) hb⟩, by omega⟩ ?_; rw [sideL_f (decide_eq_false (by assumption))]; simp only [List.length_map, fillTo_zero, Int.toNat_natCast, Option.isSome_some, and_self, fixB, Nat.reduceLeDiff, false_implies, true_implies, forall_const, St.le0, St.swaps, St.ren, mapV, renO, V.ren, Sc.ren, Ob.ren, swp, slsLe, obsLe, vLe, scLe, scsLe, obLe, Vq.look, Nat.reduceEqDiff, if_true, if_false, reduceCtorEq, ↓reduceIte, true_and, and_true] <;> (and_intros <;> first | rfl | omega | assumption); done)
      | (trace_state; fail))
def misR (n : Int) (c : List TCell) : Bool := decide (0 < (symR n c).length ∧ 4 ≤ (symR n c).getD ((symR n c).length - 1) default)
theorem implIsMirrored (n : Int) (c : List TCell) (hl : c.length ≤ 1048576) : FnC Try.prog 49 [aB n c] (.one (.bool (misR n c))) := by
  have hs := symR_len n c
  refine fn_z (ty := ty) (ts := [.tmp 2]) [0, 1, 2, 3] mixed ty_ok Try.func49 (by kernel_rfl) rfl (by kernel_rfl) (by kernel_rfl) rfl (.inl rfl) (Nat.le_of_ble_eq_true rfl) (by simp only [entry, entryV, C.toS, Nat.zero_add, Nat.reduceAdd, List.map_cons, List.map_nil]; exact rfl) ?_
  repeat' (first
    | ((with_reducible refine z_run ?_); (conv => whnf))
    | (with_reducible apply z_t)
    | (with_reducible apply z_f)
    | ((with_reducible apply z_b); ((intro h); (try simp only [beq_self_eq_true, eq_self, not_true_eq_false, not_false_eq_true, decide_true, cond_true, cond_false, Bool.not_true, Bool.not_false, Bool.not_eq_true', Bool.not_eq_false', Bool.and_eq_true, Bool.and_eq_false_imp, Bool.or_eq_true, Bool.or_eq_false_iff, decide_eq_true_eq, decide_eq_false_iff_not, Bool.false_eq_true, reduceCtorEq, Int.not_le, Int.not_lt, Decidable.not_not] at h)); rotate_left; ((intro h); (try simp only [beq_self_eq_true, eq_self, not_true_eq_false, not_false_eq_true, decide_true, cond_true, cond_false, Bool.not_true, Bool.not_false, Bool.not_eq_true', Bool.not_eq_false', Bool.and_eq_true, Bool.and_eq_false_imp, Bool.or_eq_true, Bool.or_eq_false_iff, decide_eq_true_eq, decide_eq_false_iff_not, Bool.false_eq_true, reduceCtorEq, Int.not_le, Int.not_lt, Decidable.not_not] at h)))
    | (with_reducible refine z_r ?_ ?_)
    | (with_reducible refine z_wg ?_ ?_)
    | (with_reducible refine z_w ?_ ?_)
    | ((with_reducible apply sh_nil); (intro _))
    | ((with_reducible apply sh_int); (intro _))
    | ((with_reducible apply sh_bool); (intro _))
    | ((with_reducible apply sh_sl); (intro _))
    | ((with_reducible refine z_xf ?zc ?zx ?_); (case zc => decide +kernel); (case zx => decide +kernel))
    | (with_reducible refine z_k (implSymmetriesOf _ _ hl) ?_)
    | ((with_reducible refine z_o ?zo ?_); (case zo => decide +kernel))
    | ((with_reducible refine z_x ?zx ?_); (case zx => decide +kernel))
    | ((refine z_mf (d := ?zD) (f := ?zF) (caps := ?zA) (τ := ?zT) (ps := ?zP) (cs := ?zC) ?zd ?ze ?zt ?za ?zp ?zl ?_); (case zd => exact rfl); (case ze => exact rfl); (case zt => (simp only [frzAll, frz, frzL, frzV, frzS, drp, unSs, unS, unsing, ev, Vq.look, List.map_cons, List.map_nil, List.drop_zero, List.drop_succ_cons, Nat.reduceAdd, Nat.zero_add, Option.map_some, Nat.reduceEqDiff, if_true, if_false, reduceCtorEq, ↓reduceIte]; exact rfl)); (case za => exact rfl); (case zp => exact rfl); (case zl => (simp only [unSs, unS, unsing, List.drop_zero, List.drop_succ_cons, Nat.reduceAdd, Nat.zero_add, Option.map_some, List.length_map, fillTo_zero, Int.toNat_natCast, Option.isSome_some, and_self, fixB, Nat.reduceLeDiff, false_implies, true_implies, forall_const, St.le0, St.swaps, St.ren, mapV, renO, V.ren, Sc.ren, Ob.ren, swp, slsLe, obsLe, vLe, scLe, scsLe, obLe, Vq.look, Nat.reduceEqDiff, if_true, if_false, reduceCtorEq, ↓reduceIte, true_and, and_true] <;> (and_intros <;> first | rfl | omega))))
    | fail)
  all_goals ((try simp only [Int.toNat_natCast, tn1, tp1, List.length_map, eq_self, true_and, and_true] at *); (try simp (disch := omega) only [wr, Int.toNat_natCast, tn1, tp1, List.length_map, eq_self, true_and, and_true] at *))
  all_goals (first
    | omega
    | (refine z_e rfl ?_; simp only [fin, finP, finM, ids, nodupB, tupP, tupM, memN, List.length_cons, List.length_nil, List.nil_append, List.append_nil, List.cons_append, Nat.zero_add, Nat.reduceAdd, ne_eq, not_false_eq_true, eq_self, ev, Vq.look, List.map_cons, List.map_nil, and_true, true_and, Nat.reduceEqDiff, if_true, if_false, reduceCtorEq, ↓reduceIte]; unfold misR; rw [show ((symR n c).length - 1 : Int).toNat = (symR n c).length - 1 by omega]; simp; omega)
    | (refine z_e rfl ?_; simp only [fin, finP, finM, ids, nodupB, tupP, tupM, memN, List.length_cons, List.length_nil, List.nil_append, List.append_nil, List.cons_append, Nat.zero_add, Nat.reduceAdd, ne_eq, not_false_eq_true, eq_self, ev, Vq.look, List.map_cons, List.map_nil, and_true, true_and, Nat.reduceEqDiff, if_true, if_false, reduceCtorEq, ↓reduceIte]; unfold misR; simp; omega)
    | (trace_state; fail))
theorem specIsMirrored (n : Int) (c : List TCell) (hl : c.length ≤ 1048576) : FnC Try.prog 48 [aB n c] (.one (.bool (misR n c))) := by
  have hs := symR_len n c
  refine fn_z (ty := ty) (ts := [.tmp 2]) [0, 1, 2, 3] mixed ty_ok Try.func48 (by kernel_rfl) rfl (by kernel_rfl) (by kernel_rfl) rfl (.inl rfl) (Nat.le_of_ble_eq_true rfl) (by simp only [entry, entryV, C.toS, Nat.zero_add, Nat.reduceAdd, List.map_cons, List.map_nil]; exact rfl) ?_
  repeat' (first
    | ((with_reducible refine z_run ?_); (conv => whnf))
    | (with_reducible apply z_t)
    | (with_reducible apply z_f)
    | ((with_reducible apply z_b); ((intro h); (try simp only [beq_self_eq_true, eq_self, not_true_eq_false, not_false_eq_true, decide_true, cond_true, cond_false, Bool.not_true, Bool.not_false, Bool.not_eq_true', Bool.not_eq_false', Bool.and_eq_true, Bool.and_eq_false_imp, Bool.or_eq_true, Bool.or_eq_false_iff, decide_eq_true_eq, decide_eq_false_iff_not, Bool.false_eq_true, reduceCtorEq, Int.not_le, Int.not_lt, Decidable.not_not] at h)); rotate_left; ((intro h); (try simp only [beq_self_eq_true, eq_self, not_true_eq_false, not_false_eq_true, decide_true, cond_true, cond_false, Bool.not_true, Bool.not_false, Bool.not_eq_true', Bool.not_eq_false', Bool.and_eq_true, Bool.and_eq_false_imp, Bool.or_eq_true, Bool.or_eq_false_iff, decide_eq_true_eq, decide_eq_false_iff_not, Bool.false_eq_true, reduceCtorEq, Int.not_le, Int.not_lt, Decidable.not_not] at h)))
    | (with_reducible refine z_r ?_ ?_)
    | (with_reducible refine z_wg ?_ ?_)
    | (with_reducible refine z_w ?_ ?_)
    | ((with_reducible apply sh_nil); (intro _))
    | ((with_reducible apply sh_int); (intro _))
    | ((with_reducible apply sh_bool); (intro _))
    | ((with_reducible apply sh_sl); (intro _))
    | ((with_reducible refine z_xf ?zc ?zx ?_); (case zc => decide +kernel); (case zx => decide +kernel))
    | (with_reducible refine z_k (specSymmetriesOf _ _ hl) ?_)
    | ((with_reducible refine z_o ?zo ?_); (case zo => decide +kernel))
    | ((with_reducible refine z_x ?zx ?_); (case zx => decide +kernel))
    | ((refine z_mf (d := ?zD) (f := ?zF) (caps := ?zA) (τ := ?zT) (ps := ?zP) (cs := ?zC) ?zd ?ze ?zt ?za ?zp ?zl ?_); (case zd => exact rfl); (case ze => exact rfl); (case zt => (simp only [frzAll, frz, frzL, frzV, frzS, drp, unSs, unS, unsing, ev, Vq.look, List.map_cons, List.map_nil, List.drop_zero, List.drop_succ_cons, Nat.reduceAdd, Nat.zero_add, Option.map_some, Nat.reduceEqDiff, if_true, if_false, reduceCtorEq, ↓reduceIte]; exact rfl)); (case za => exact rfl); (case zp => exact rfl); (case zl => (simp only [unSs, unS, unsing, List.drop_zero, List.drop_succ_cons, Nat.reduceAdd, Nat.zero_add, Option.map_some, List.length_map, fillTo_zero, Int.toNat_natCast, Option.isSome_some, and_self, fixB, Nat.reduceLeDiff, false_implies, true_implies, forall_const, St.le0, St.swaps, St.ren, mapV, renO, V.ren, Sc.ren, Ob.ren, swp, slsLe, obsLe, vLe, scLe, scsLe, obLe, Vq.look, Nat.reduceEqDiff, if_true, if_false, reduceCtorEq, ↓reduceIte, true_and, and_true] <;> (and_intros <;> first | rfl | omega))))
    | fail)
  all_goals ((try simp only [Int.toNat_natCast, tn1, tp1, List.length_map, eq_self, true_and, and_true] at *); (try simp (disch := omega) only [wr, Int.toNat_natCast, tn1, tp1, List.length_map, eq_self, true_and, and_true] at *))
  all_goals (first
    | omega
    | (refine z_e rfl ?_; simp only [fin, finP, finM, ids, nodupB, tupP, tupM, memN, List.length_cons, List.length_nil, List.nil_append, List.append_nil, List.cons_append, Nat.zero_add, Nat.reduceAdd, ne_eq, not_false_eq_true, eq_self, ev, Vq.look, List.map_cons, List.map_nil, and_true, true_and, Nat.reduceEqDiff, if_true, if_false, reduceCtorEq, ↓reduceIte]; unfold misR; rw [show ((symR n c).length - 1 : Int).toNat = (symR n c).length - 1 by omega]; simp; omega)
    | (refine z_e rfl ?_; simp only [fin, finP, finM, ids, nodupB, tupP, tupM, memN, List.length_cons, List.length_nil, List.nil_append, List.append_nil, List.cons_append, Nat.zero_add, Nat.reduceAdd, ne_eq, not_false_eq_true, eq_self, ev, Vq.look, List.map_cons, List.map_nil, and_true, true_and, Nat.reduceEqDiff, if_true, if_false, reduceCtorEq, ↓reduceIte]; unfold misR; simp; omega)
    | (trace_state; fail))
end Go.Proofs.Ytaipkkbpgdpffaa
