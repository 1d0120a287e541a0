/- Drawn cells and blocks; colors of a block, and a cell that is replaced and put back. No conditions. -/
import Derived.Test.YtaipkkbpgdpffaaBlkC
import Derived.Test.YtaipkkbpgdpffaaCurM
namespace Go.Proofs.Ytaipkkbpgdpffaa
open Go.Vq
set_option linter.unusedSimpArgs false
set_option maxHeartbeats 1000000
theorem splitC_ok (s a b : Int) : cellOk (splitC s a b) := by
  unfold splitC
  split
  · exact wholeC_ok a
  · split
    · assumption
    · decide
def cur3 (l : List Int) (c : TCur) : TCur := curN l (curN l (curN l c))
def cellD (l : List Int) (c : TCur) : TCell := splitC (belV l c 3) (belV l (curN l c) 3) (belV l (curN l (curN l c)) 3)
theorem cellD_ok (l : List Int) (c : TCur) : cellOk (cellD l c) := splitC_ok _ _ _
theorem l02Cell_fn (l : List Int) (hl : l.length ≤ 1048576) (c : TCur) : FnMC Try.prog 73 [(false, [.ptr 0])] [.box (eCur l c)] [.box (eCur l (cur3 l c))] (.agg (rC (cellD l c))) := by
  refine fn_zm (ty := ty) (ts := [.cell 2 34 3]) [0, 2, 2] mixed ty_ok Try.func73 (by kernel_rfl) rfl (by kernel_rfl) (by kernel_rfl) rfl (.inl rfl) (Nat.le_of_ble_eq_true rfl) (by simp only [likes, Mo.like, and_self]) rfl (by simp only [entryM, maV, Ma.sc, C.toS, Nat.zero_add, Nat.reduceAdd, List.map_cons, List.map_nil]; exact rfl) (by simp only [numb, Mo.ob, C.toS, List.map_cons, List.map_nil]; exact rfl) ?_
  repeat' (first
    | ((with_reducible refine z_run ?_); (conv => whnf))
    | (with_reducible apply z_t)
    | (with_reducible apply z_f)
    | ((with_reducible apply z_b); ((intro h); (try simp only [beq_self_eq_true, eq_self, not_true_eq_false, not_false_eq_true, decide_true, cond_true, cond_false, Bool.not_true, Bool.not_false, Bool.not_eq_true', Bool.not_eq_false', Bool.and_eq_true, Bool.and_eq_false_imp, Bool.or_eq_true, Bool.or_eq_false_iff, decide_eq_true_eq, decide_eq_false_iff_not, Bool.false_eq_true, reduceCtorEq, Int.not_le, Int.not_lt, Decidable.not_not] at h)); rotate_left; ((intro h); (try simp only [beq_self_eq_true, eq_self, not_true_eq_false, not_false_eq_true, decide_true, cond_true, cond_false, Bool.not_true, Bool.not_false, Bool.not_eq_true', Bool.not_eq_false', Bool.and_eq_true, Bool.and_eq_false_imp, Bool.or_eq_true, Bool.or_eq_false_iff, decide_eq_true_eq, decide_eq_false_iff_not, Bool.false_eq_true, reduceCtorEq, Int.not_le, Int.not_lt, Decidable.not_not] at h)))
    | (with_reducible refine z_r ?_ ?_)
    | (with_reducible refine z_wg ?_ ?_)
    | (with_reducible refine z_w ?_ ?_)
    | ((with_reducible apply sh_nil); (intro _))
    | ((with_reducible apply sh_int); (intro _))
    | ((with_reducible apply sh_bool); (intro _))
    | ((with_reducible apply sh_sl); (intro _))
    | ((with_reducible refine z_xf ?zc ?zx ?_); (case zc => decide +kernel); (case zx => decide +kernel))
    | (refine z_mm [_] (l01Below_fn l hl _ (by omega)) rfl rfl ⟨rfl, trivial⟩ rfl ?_)
    | (with_reducible refine z_k (specSplitCell _ _ _) ?_)
    | ((with_reducible refine z_o ?zo ?_); (case zo => decide +kernel))
    | ((with_reducible refine z_x ?zx ?_); (case zx => decide +kernel))
    | ((refine z_mf (d := ?zD) (f := ?zF) (caps := ?zA) (τ := ?zT) (ps := ?zP) (cs := ?zC) ?zd ?ze ?zt ?za ?zp ?zl ?_); (case zd => exact rfl); (case ze => exact rfl); (case zt => (simp only [frzAll, frz, frzL, frzV, frzS, drp, unSs, unS, unsing, ev, Vq.look, List.map_cons, List.map_nil, List.drop_zero, List.drop_succ_cons, Nat.reduceAdd, Nat.zero_add, Option.map_some, Nat.reduceEqDiff, if_true, if_false, reduceCtorEq, ↓reduceIte]; exact rfl)); (case za => exact rfl); (case zp => exact rfl); (case zl => (simp only [unSs, unS, unsing, List.drop_zero, List.drop_succ_cons, Nat.reduceAdd, Nat.zero_add, Option.map_some, List.length_map, fillTo_zero, Int.toNat_natCast, Option.isSome_some, and_self, fixB, Nat.reduceLeDiff, false_implies, true_implies, forall_const, St.le0, St.swaps, St.ren, mapV, renO, V.ren, Sc.ren, Ob.ren, swp, slsLe, obsLe, vLe, scLe, scsLe, obLe, Vq.look, Nat.reduceEqDiff, if_true, if_false, reduceCtorEq, ↓reduceIte, true_and, and_true] <;> (and_intros <;> first | rfl | omega))))
    | fail)
  all_goals ((try simp only [Int.toNat_natCast, tn1, tp1, List.length_map, eq_self, true_and, and_true] at *); (try simp (disch := omega) only [wr, Int.toNat_natCast, tn1, tp1, List.length_map, eq_self, true_and, and_true] at *))
  all_goals (first
    | omega
    | (unfold cellD cur3; (refine z_em rfl rfl ?_ ?_ <;> simp only [fin, finP, finM, finO, Mo.ob, ids, nodupB, tupP, tupM, memN, ev, Vq.look, List.map_cons, List.map_nil, and_true, true_and, Nat.reduceEqDiff, if_true, if_false, reduceCtorEq, ↓reduceIte] <;> first | done | rfl | (and_intros <;> rfl)))
    | (trace_state; fail))
theorem drawCell_fn (l : List Int) (hl : l.length ≤ 1048576) : FnC Try.prog 24 [(false, [.sq dU (l.map eU)])] (.agg (rC (cellD l (curZ l)))) := by
  refine fn_z (ty := ty) (ts := [.cell 2 34 3]) [0, 2, 2] mixed ty_ok Try.func24 (by kernel_rfl) rfl (by kernel_rfl) (by kernel_rfl) rfl (.inl rfl) (Nat.le_of_ble_eq_true rfl) (by simp only [entry, entryV, C.toS, Nat.zero_add, Nat.reduceAdd, List.map_cons, List.map_nil]; exact rfl) ?_
  repeat' (first
    | ((with_reducible refine z_run ?_); (conv => whnf))
    | (with_reducible apply z_t)
    | (with_reducible apply z_f)
    | ((with_reducible apply z_b); ((intro h); (try simp only [beq_self_eq_true, eq_self, not_true_eq_false, not_false_eq_true, decide_true, cond_true, cond_false, Bool.not_true, Bool.not_false, Bool.not_eq_true', Bool.not_eq_false', Bool.and_eq_true, Bool.and_eq_false_imp, Bool.or_eq_true, Bool.or_eq_false_iff, decide_eq_true_eq, decide_eq_false_iff_not, Bool.false_eq_true, reduceCtorEq, Int.not_le, Int.not_lt, Decidable.not_not] at h)); rotate_left; ((intro h); (try simp only [beq_self_eq_true, eq_self, not_true_eq_false, not_false_eq_true, decide_true, cond_true, cond_false, Bool.not_true, Bool.not_false, Bool.not_eq_true', Bool.not_eq_false', Bool.and_eq_true, Bool.and_eq_false_imp, Bool.or_eq_true, Bool.or_eq_false_iff, decide_eq_true_eq, decide_eq_false_iff_not, Bool.false_eq_true, reduceCtorEq, Int.not_le, Int.not_lt, Decidable.not_not] at h)))
    | (with_reducible refine z_r ?_ ?_)
    | (with_reducible refine z_wg ?_ ?_)
    | (with_reducible refine z_w ?_ ?_)
    | ((with_reducible apply sh_nil); (intro _))
    | ((with_reducible apply sh_int); (intro _))
    | ((with_reducible apply sh_bool); (intro _))
    | ((with_reducible apply sh_sl); (intro _))
    | ((with_reducible refine z_xf ?zc ?zx ?_); (case zc => decide +kernel); (case zx => decide +kernel))
    | (with_reducible refine z_k (l01New_fn l hl) ?_)
    | (refine z_mm [_] (l02Cell_fn l hl _) rfl rfl ⟨rfl, trivial⟩ rfl ?_)
    | ((with_reducible refine z_o ?zo ?_); (case zo => decide +kernel))
    | ((with_reducible refine z_x ?zx ?_); (case zx => decide +kernel))
    | ((refine z_mf (d := ?zD) (f := ?zF) (caps := ?zA) (τ := ?zT) (ps := ?zP) (cs := ?zC) ?zd ?ze ?zt ?za ?zp ?zl ?_); (case zd => exact rfl); (case ze => exact rfl); (case zt => (simp only [frzAll, frz, frzL, frzV, frzS, drp, unSs, unS, unsing, ev, Vq.look, List.map_cons, List.map_nil, List.drop_zero, List.drop_succ_cons, Nat.reduceAdd, Nat.zero_add, Option.map_some, Nat.reduceEqDiff, if_true, if_false, reduceCtorEq, ↓reduceIte]; exact rfl)); (case za => exact rfl); (case zp => exact rfl); (case zl => (simp only [unSs, unS, unsing, List.drop_zero, List.drop_succ_cons, Nat.reduceAdd, Nat.zero_add, Option.map_some, List.length_map, fillTo_zero, Int.toNat_natCast, Option.isSome_some, and_self, fixB, Nat.reduceLeDiff, false_implies, true_implies, forall_const, St.le0, St.swaps, St.ren, mapV, renO, V.ren, Sc.ren, Ob.ren, swp, slsLe, obsLe, vLe, scLe, scsLe, obLe, Vq.look, Nat.reduceEqDiff, if_true, if_false, reduceCtorEq, ↓reduceIte, true_and, and_true] <;> (and_intros <;> first | rfl | omega))))
    | fail)
  all_goals ((try simp only [Int.toNat_natCast, tn1, tp1, List.length_map, eq_self, true_and, and_true] at *); (try simp (disch := omega) only [wr, Int.toNat_natCast, tn1, tp1, List.length_map, eq_self, true_and, and_true] at *))
  all_goals refine z_e rfl ?_; simp only [fin, finP, finM, ids, nodupB, tupP, tupM, memN, List.length_cons, List.length_nil, List.nil_append, List.append_nil, List.cons_append, Nat.zero_add, Nat.reduceAdd, ne_eq, not_false_eq_true, eq_self, ev, Vq.look, List.map_cons, List.map_nil, and_true, true_and, Nat.reduceEqDiff, if_true, if_false, reduceCtorEq, ↓reduceIte]
def drC (l : List Int) (c : TCur) : Nat → TCur × List TCell
  | 0 => (c, [])
  | k + 1 => (cur3 l (drC l c k).1, (drC l c k).2 ++ [cellD l (drC l c k).1])
theorem drC_len (l : List Int) (c : TCur) : ∀ k, (drC l c k).2.length = k
  | 0 => rfl
  | k + 1 => by simp [drC, drC_len l c k]
theorem drC_ok (l : List Int) (c : TCur) : ∀ k, ∀ t ∈ (drC l c k).2, cellOk t
  | 0 => by simp [drC]
  | k + 1 => by
    intro t ht
    simp only [drC, List.mem_append, List.mem_singleton] at ht
    rcases ht with ht | rfl
    · exact drC_ok l c k t ht
    · exact cellD_ok l _
theorem l03Block_fn (l : List Int) (hl : l.length ≤ 1048576) (c : TCur) : ∃ (c' : TCur) (b : TBlk), bOk b ∧ FnMC Try.prog 71 [(false, [.ptr 0])] [.box (eCur l c)] [.box (eCur l c')] (.agg (rB b.1 b.2)) := by
  have hv := belV_bd l c (n := 6) (by omega)
  have hn := belV_bd l (curN l c) (n := 4) (by omega)
  have ha := belV_bd l (curN l (curN l c)) (n := 3) (by omega)
  have hw : IntKind.i64.wrap (1 + belV l (curN l c) 4) = 1 + belV l (curN l c) 4 := wr ⟨by omega, by omega⟩
  by_cases h0 : belV l c 6 = 0
  · refine ⟨curN l c, (3, starL), star_ok, ?_⟩
    refine fn_zm (ty := ty) (ts := [.cell 2 30 2]) [0, 2, 3, 5, 6, 7, 8, 10, 11, 14, 35, 2] mixed ty_ok Try.func71 (by kernel_rfl) rfl (by kernel_rfl) (by kernel_rfl) rfl (.inl rfl) (Nat.le_of_ble_eq_true rfl) (by simp only [likes, Mo.like, and_self]) rfl (by simp only [entryM, maV, Ma.sc, C.toS, Nat.zero_add, Nat.reduceAdd, List.map_cons, List.map_nil]; exact rfl) (by simp only [numb, Mo.ob, C.toS, List.map_cons, List.map_nil]; exact rfl) ?_
    repeat' (first
    | ((with_reducible refine z_run ?_); (conv => whnf))
    | (with_reducible apply z_t)
    | (with_reducible apply z_f)
    | ((with_reducible apply z_b); ((intro h); (try simp only [beq_self_eq_true, eq_self, not_true_eq_false, not_false_eq_true, decide_true, cond_true, cond_false, Bool.not_true, Bool.not_false, Bool.not_eq_true', Bool.not_eq_false', Bool.and_eq_true, Bool.and_eq_false_imp, Bool.or_eq_true, Bool.or_eq_false_iff, decide_eq_true_eq, decide_eq_false_iff_not, Bool.false_eq_true, reduceCtorEq, Int.not_le, Int.not_lt, Decidable.not_not] at h)); rotate_left; ((intro h); (try simp only [beq_self_eq_true, eq_self, not_true_eq_false, not_false_eq_true, decide_true, cond_true, cond_false, Bool.not_true, Bool.not_false, Bool.not_eq_true', Bool.not_eq_false', Bool.and_eq_true, Bool.and_eq_false_imp, Bool.or_eq_true, Bool.or_eq_false_iff, decide_eq_true_eq, decide_eq_false_iff_not, Bool.false_eq_true, reduceCtorEq, Int.not_le, Int.not_lt, Decidable.not_not] at h)))
    | (with_reducible refine z_r ?_ ?_)
    | (with_reducible refine z_wg ?_ ?_)
    | (with_reducible refine z_w ?_ ?_)
    | ((with_reducible apply sh_nil); (intro _))
    | ((with_reducible apply sh_int); (intro _))
    | ((with_reducible apply sh_bool); (intro _))
    | ((with_reducible apply sh_sl); (intro _))
    | ((with_reducible refine z_xf ?zc ?zx ?_); (case zc => decide +kernel); (case zx => decide +kernel))
    | (refine z_mm [_] (l01Below_fn l hl _ (by omega)) rfl rfl ⟨rfl, trivial⟩ rfl ?_)
    | (with_reducible refine z_k (specStarBlock) ?_)
    | ((with_reducible refine z_o ?zo ?_); (case zo => decide +kernel))
    | ((with_reducible refine z_x ?zx ?_); (case zx => decide +kernel))
    | ((refine z_mf (d := ?zD) (f := ?zF) (caps := ?zA) (τ := ?zT) (ps := ?zP) (cs := ?zC) ?zd ?ze ?zt ?za ?zp ?zl ?_); (case zd => exact rfl); (case ze => exact rfl); (case zt => (simp only [frzAll, frz, frzL, frzV, frzS, drp, unSs, unS, unsing, ev, Vq.look, List.map_cons, List.map_nil, List.drop_zero, List.drop_succ_cons, Nat.reduceAdd, Nat.zero_add, Option.map_some, Nat.reduceEqDiff, if_true, if_false, reduceCtorEq, ↓reduceIte]; exact rfl)); (case za => exact rfl); (case zp => exact rfl); (case zl => (simp only [unSs, unS, unsing, List.drop_zero, List.drop_succ_cons, Nat.reduceAdd, Nat.zero_add, Option.map_some, List.length_map, fillTo_zero, Int.toNat_natCast, Option.isSome_some, and_self, fixB, Nat.reduceLeDiff, false_implies, true_implies, forall_const, St.le0, St.swaps, St.ren, mapV, renO, V.ren, Sc.ren, Ob.ren, swp, slsLe, obsLe, vLe, scLe, scsLe, obLe, Vq.look, Nat.reduceEqDiff, if_true, if_false, reduceCtorEq, ↓reduceIte, true_and, and_true] <;> (and_intros <;> first | rfl | omega))))
    | fail)
    all_goals ((try simp only [Int.toNat_natCast, tn1, tp1, List.length_map, eq_self, true_and, and_true] at *); (try simp (disch := omega) only [wr, Int.toNat_natCast, tn1, tp1, List.length_map, eq_self, true_and, and_true] at *))
    all_goals (first
      | omega
      | contradiction
      | (refine z_em rfl rfl ?_ ?_ <;> simp only [fin, finP, finM, finO, Mo.ob, ids, nodupB, tupP, tupM, memN, ev, Vq.look, List.map_cons, List.map_nil, and_true, true_and, Nat.reduceEqDiff, if_true, if_false, reduceCtorEq, ↓reduceIte] <;> first | done | rfl | (and_intros <;> rfl))
      | (trace_state; fail))
  · by_cases h1 : belV l c 6 = 1
    · have hpl := specPlainBlock (IntKind.i64.wrap (1 + belV l (curN l c) 4)) (belV l (curN l (curN l c)) 3) (by omega) (by omega)
      refine ⟨cur3 l c, (1 + belV l (curN l c) 4, plainL (1 + belV l (curN l c) 4) (belV l (curN l (curN l c)) 3)), plain_ok (by omega) _, ?_⟩
      refine fn_zm (ty := ty) (ts := [.cell 2 30 2]) [0, 2, 3, 5, 6, 7, 8, 10, 11, 14, 35, 2] mixed ty_ok Try.func71 (by kernel_rfl) rfl (by kernel_rfl) (by kernel_rfl) rfl (.inl rfl) (Nat.le_of_ble_eq_true rfl) (by simp only [likes, Mo.like, and_self]) rfl (by simp only [entryM, maV, Ma.sc, C.toS, Nat.zero_add, Nat.reduceAdd, List.map_cons, List.map_nil]; exact rfl) (by simp only [numb, Mo.ob, C.toS, List.map_cons, List.map_nil]; exact rfl) ?_
      repeat' (first
    | ((with_reducible refine z_run ?_); (conv => whnf))
    | (with_reducible apply z_t)
    | (with_reducible apply z_f)
    | ((with_reducible apply z_b); ((intro h); (try simp only [beq_self_eq_true, eq_self, not_true_eq_false, not_false_eq_true, decide_true, cond_true, cond_false, Bool.not_true, Bool.not_false, Bool.not_eq_true', Bool.not_eq_false', Bool.and_eq_true, Bool.and_eq_false_imp, Bool.or_eq_true, Bool.or_eq_false_iff, decide_eq_true_eq, decide_eq_false_iff_not, Bool.false_eq_true, reduceCtorEq, Int.not_le, Int.not_lt, Decidable.not_not] at h)); rotate_left; ((intro h); (try simp only [beq_self_eq_true, eq_self, not_true_eq_false, not_false_eq_true, decide_true, cond_true, cond_false, Bool.not_true, Bool.not_false, Bool.not_eq_true', Bool.not_eq_false', Bool.and_eq_true, Bool.and_eq_false_imp, Bool.or_eq_true, Bool.or_eq_false_iff, decide_eq_true_eq, decide_eq_false_iff_not, Bool.false_eq_true, reduceCtorEq, Int.not_le, Int.not_lt, Decidable.not_not] at h)))
    | (with_reducible refine z_r ?_ ?_)
    | (with_reducible refine z_wg ?_ ?_)
    | (with_reducible refine z_w ?_ ?_)
    | ((with_reducible apply sh_nil); (intro _))
    | ((with_reducible apply sh_int); (intro _))
    | ((with_reducible apply sh_bool); (intro _))
    | ((with_reducible apply sh_sl); (intro _))
    | ((with_reducible refine z_xf ?zc ?zx ?_); (case zc => decide +kernel); (case zx => decide +kernel))
    | (refine z_mm [_] (l01Below_fn l hl _ (by omega)) rfl rfl ⟨rfl, trivial⟩ rfl ?_)
    | (with_reducible refine z_k hpl ?_)
    | ((with_reducible refine z_o ?zo ?_); (case zo => decide +kernel))
    | ((with_reducible refine z_x ?zx ?_); (case zx => decide +kernel))
    | ((refine z_mf (d := ?zD) (f := ?zF) (caps := ?zA) (τ := ?zT) (ps := ?zP) (cs := ?zC) ?zd ?ze ?zt ?za ?zp ?zl ?_); (case zd => exact rfl); (case ze => exact rfl); (case zt => (simp only [frzAll, frz, frzL, frzV, frzS, drp, unSs, unS, unsing, ev, Vq.look, List.map_cons, List.map_nil, List.drop_zero, List.drop_succ_cons, Nat.reduceAdd, Nat.zero_add, Option.map_some, Nat.reduceEqDiff, if_true, if_false, reduceCtorEq, ↓reduceIte]; exact rfl)); (case za => exact rfl); (case zp => exact rfl); (case zl => (simp only [unSs, unS, unsing, List.drop_zero, List.drop_succ_cons, Nat.reduceAdd, Nat.zero_add, Option.map_some, List.length_map, fillTo_zero, Int.toNat_natCast, Option.isSome_some, and_self, fixB, Nat.reduceLeDiff, false_implies, true_implies, forall_const, St.le0, St.swaps, St.ren, mapV, renO, V.ren, Sc.ren, Ob.ren, swp, slsLe, obsLe, vLe, scLe, scsLe, obLe, Vq.look, Nat.reduceEqDiff, if_true, if_false, reduceCtorEq, ↓reduceIte, true_and, and_true] <;> (and_intros <;> first | rfl | omega))))
    | fail)
      all_goals ((try simp only [Int.toNat_natCast, tn1, tp1, List.length_map, eq_self, true_and, and_true] at *); (try simp (disch := omega) only [wr, Int.toNat_natCast, tn1, tp1, List.length_map, eq_self, true_and, and_true] at *))
      all_goals (first
        | omega
        | contradiction
        | (unfold cur3; (refine z_em rfl rfl ?_ ?_ <;> simp only [fin, finP, finM, finO, Mo.ob, ids, nodupB, tupP, tupM, memN, ev, Vq.look, List.map_cons, List.map_nil, and_true, true_and, Nat.reduceEqDiff, if_true, if_false, reduceCtorEq, ↓reduceIte] <;> first | done | rfl | (and_intros <;> rfl)))
        | (trace_state; fail))
    · generalize hm : 1 + belV l (curN l c) 4 = n at *
      have hq := sq_wrap (n := n) (by omega)
      refine ⟨(drC l (curN l (curN l c)) (n * n).toNat).1, (n, (drC l (curN l (curN l c)) (n * n).toNat).2), ⟨by dsimp only; omega, by dsimp only; rw [drC_len]; omega, drC_ok l _ _⟩, ?_⟩
      refine fn_zm (ty := ty) (ts := [.cell 2 30 2]) [0, 2, 3, 5, 6, 7, 8, 10, 11, 14, 35, 2] mixed ty_ok Try.func71 (by kernel_rfl) rfl (by kernel_rfl) (by kernel_rfl) rfl (.inl rfl) (Nat.le_of_ble_eq_true rfl) (by simp only [likes, Mo.like, and_self]) rfl (by simp only [entryM, maV, Ma.sc, C.toS, Nat.zero_add, Nat.reduceAdd, List.map_cons, List.map_nil]; exact rfl) (by simp only [numb, Mo.ob, C.toS, List.map_cons, List.map_nil]; exact rfl) ?_
      repeat' (first
    | ((with_reducible refine z_run ?_); (conv => whnf))
    | (with_reducible apply z_t)
    | (with_reducible apply z_f)
    | ((with_reducible apply z_b); ((intro h); (try simp only [beq_self_eq_true, eq_self, not_true_eq_false, not_false_eq_true, decide_true, cond_true, cond_false, Bool.not_true, Bool.not_false, Bool.not_eq_true', Bool.not_eq_false', Bool.and_eq_true, Bool.and_eq_false_imp, Bool.or_eq_true, Bool.or_eq_false_iff, decide_eq_true_eq, decide_eq_false_iff_not, Bool.false_eq_true, reduceCtorEq, Int.not_le, Int.not_lt, Decidable.not_not] at h)); rotate_left; ((intro h); (try simp only [beq_self_eq_true, eq_self, not_true_eq_false, not_false_eq_true, decide_true, cond_true, cond_false, Bool.not_true, Bool.not_false, Bool.not_eq_true', Bool.not_eq_false', Bool.and_eq_true, Bool.and_eq_false_imp, Bool.or_eq_true, Bool.or_eq_false_iff, decide_eq_true_eq, decide_eq_false_iff_not, Bool.false_eq_true, reduceCtorEq, Int.not_le, Int.not_lt, Decidable.not_not] at h)))
    | (with_reducible refine z_r ?_ ?_)
    | (with_reducible refine z_wg ?_ ?_)
    | (with_reducible refine z_w ?_ ?_)
    | ((with_reducible apply sh_nil); (intro _))
    | ((with_reducible apply sh_int); (intro _))
    | ((with_reducible apply sh_bool); (intro _))
    | ((with_reducible apply sh_sl); (intro _))
    | ((with_reducible refine z_xf ?zc ?zx ?_); (case zc => decide +kernel); (case zx => decide +kernel))
    | (refine z_mm [_] (l01Below_fn l hl _ (by omega)) rfl rfl ⟨rfl, trivial⟩ rfl ?_)
    | ((with_reducible refine z_o ?zo ?_); (case zo => decide +kernel))
    | ((with_reducible refine z_x ?zx ?_); (case zx => decide +kernel))
    | ((refine z_mf (d := ?zD) (f := ?zF) (caps := ?zA) (τ := ?zT) (ps := ?zP) (cs := ?zC) ?zd ?ze ?zt ?za ?zp ?zl ?_); (case zd => exact rfl); (case ze => exact rfl); (case zt => (simp only [frzAll, frz, frzL, frzV, frzS, drp, unSs, unS, unsing, ev, Vq.look, List.map_cons, List.map_nil, List.drop_zero, List.drop_succ_cons, Nat.reduceAdd, Nat.zero_add, Option.map_some, Nat.reduceEqDiff, if_true, if_false, reduceCtorEq, ↓reduceIte]; exact rfl)); (case za => exact rfl); (case zp => exact rfl); (case zl => (simp only [unSs, unS, unsing, List.drop_zero, List.drop_succ_cons, Nat.reduceAdd, Nat.zero_add, Option.map_some, List.length_map, fillTo_zero, Int.toNat_natCast, Option.isSome_some, and_self, fixB, Nat.reduceLeDiff, false_implies, true_implies, forall_const, St.le0, St.swaps, St.ren, mapV, renO, V.ren, Sc.ren, Ob.ren, swp, slsLe, obsLe, vLe, scLe, scsLe, obLe, Vq.look, Nat.reduceEqDiff, if_true, if_false, reduceCtorEq, ↓reduceIte, true_and, and_true] <;> (and_intros <;> first | rfl | omega))))
    | fail)
      all_goals ((try simp only [Int.toNat_natCast, tn1, tp1, List.length_map, eq_self, true_and, and_true] at *); (try simp (disch := omega) only [wr, Int.toNat_natCast, tn1, tp1, List.length_map, eq_self, true_and, and_true] at *))
      all_goals (try rw [hm] at *)
      all_goals (first
        | omega
        | contradiction
        | (refine z_li (fun k : Nat => k ≤ (n * n).toNat) (0 : Nat) (fun k => (n * n).toNat - k) (fun k => ⟨[(0, .one (.bx 500000 0)), (2, .one (.bx 2 0)), (5, .one (.int .i64 n)), (6, .one (.bx 6 0)), (7, .one (.int .i64 k))], [(6, .box [.int .i64 n, .root 77]), (77, .row 34 dCell ((drC l (curN l (curN l c)) k).2.map eCell)), (500000, .box ((eCur l (drC l (curN l (curN l c)) k).1).map C.toS)), (2, .box [.int .i64 0, .nil])]⟩) (by omega) ?_ ?_
           · simp only [List.length_map, fillTo_zero, Int.toNat_natCast, Option.isSome_some, and_self, fixB, Nat.reduceLeDiff, false_implies, true_implies, forall_const, St.le0, St.swaps, St.ren, mapV, renO, V.ren, Sc.ren, Ob.ren, swp, slsLe, obsLe, vLe, scLe, scsLe, obLe, Vq.look, Nat.reduceEqDiff, if_true, if_false, reduceCtorEq, ↓reduceIte, true_and, and_true, drC, eCur, C.toS, List.map_cons, List.map_nil]; and_intros <;> first | rfl | omega | assumption
           · intro k hk
             have hdl := drC_len l (curN l (curN l c)) k
             repeat' (first
    | ((with_reducible refine z_run ?_); (conv => whnf))
    | (with_reducible apply z_t)
    | (with_reducible apply z_f)
    | ((with_reducible apply z_b); ((intro h); (try simp only [beq_self_eq_true, eq_self, not_true_eq_false, not_false_eq_true, decide_true, cond_true, cond_false, Bool.not_true, Bool.not_false, Bool.not_eq_true', Bool.not_eq_false', Bool.and_eq_true, Bool.and_eq_false_imp, Bool.or_eq_true, Bool.or_eq_false_iff, decide_eq_true_eq, decide_eq_false_iff_not, Bool.false_eq_true, reduceCtorEq, Int.not_le, Int.not_lt, Decidable.not_not] at h)); rotate_left; ((intro h); (try simp only [beq_self_eq_true, eq_self, not_true_eq_false, not_false_eq_true, decide_true, cond_true, cond_false, Bool.not_true, Bool.not_false, Bool.not_eq_true', Bool.not_eq_false', Bool.and_eq_true, Bool.and_eq_false_imp, Bool.or_eq_true, Bool.or_eq_false_iff, decide_eq_true_eq, decide_eq_false_iff_not, Bool.false_eq_true, reduceCtorEq, Int.not_le, Int.not_lt, Decidable.not_not] at h)))
    | (with_reducible refine z_r ?_ ?_)
    | (with_reducible refine z_wg ?_ ?_)
    | (with_reducible refine z_w ?_ ?_)
    | ((with_reducible apply sh_nil); (intro _))
    | ((with_reducible apply sh_int); (intro _))
    | ((with_reducible apply sh_bool); (intro _))
    | ((with_reducible apply sh_sl); (intro _))
    | ((with_reducible refine z_xf ?zc ?zx ?_); (case zc => decide +kernel); (case zx => decide +kernel))
    | (refine z_mm [_] (l02Cell_fn l hl _) rfl rfl ⟨rfl, trivial⟩ rfl ?_)
    | ((with_reducible refine z_o ?zo ?_); (case zo => decide +kernel))
    | ((with_reducible refine z_x ?zx ?_); (case zx => decide +kernel))
    | ((refine z_mf (d := ?zD) (f := ?zF) (caps := ?zA) (τ := ?zT) (ps := ?zP) (cs := ?zC) ?zd ?ze ?zt ?za ?zp ?zl ?_); (case zd => exact rfl); (case ze => exact rfl); (case zt => (simp only [frzAll, frz, frzL, frzV, frzS, drp, unSs, unS, unsing, ev, Vq.look, List.map_cons, List.map_nil, List.drop_zero, List.drop_succ_cons, Nat.reduceAdd, Nat.zero_add, Option.map_some, Nat.reduceEqDiff, if_true, if_false, reduceCtorEq, ↓reduceIte]; exact rfl)); (case za => exact rfl); (case zp => exact rfl); (case zl => (simp only [unSs, unS, unsing, List.drop_zero, List.drop_succ_cons, Nat.reduceAdd, Nat.zero_add, Option.map_some, List.length_map, fillTo_zero, Int.toNat_natCast, Option.isSome_some, and_self, fixB, Nat.reduceLeDiff, false_implies, true_implies, forall_const, St.le0, St.swaps, St.ren, mapV, renO, V.ren, Sc.ren, Ob.ren, swp, slsLe, obsLe, vLe, scLe, scsLe, obLe, Vq.look, Nat.reduceEqDiff, if_true, if_false, reduceCtorEq, ↓reduceIte, true_and, and_true] <;> (and_intros <;> first | rfl | omega))))
    | fail)
             all_goals ((try simp only [Int.toNat_natCast, tn1, tp1, List.length_map, eq_self, true_and, and_true] at *); (try simp (disch := omega) only [wr, Int.toNat_natCast, tn1, tp1, List.length_map, eq_self, true_and, and_true] at *))
             all_goals (try rw [hq.1] at *)
             all_goals (first
               | omega
               | (simp only [List.length_map, List.length_cons, List.length_nil]; omega)
               | (rw [show (n * n).toNat = k by omega]; (refine z_em rfl rfl ?_ ?_ <;> simp only [fin, finP, finM, finO, Mo.ob, ids, nodupB, tupP, tupM, memN, ev, Vq.look, List.map_cons, List.map_nil, and_true, true_and, Nat.reduceEqDiff, if_true, if_false, reduceCtorEq, ↓reduceIte] <;> first | done | rfl | (and_intros <;> rfl)))
               | (refine z_n (k + 1) ⟨by omega, by omega⟩ ?_; rw [drC, List.map_append]; simp only [List.length_map, fillTo_zero, Int.toNat_natCast, Option.isSome_some, and_self, fixB, Nat.reduceLeDiff, false_implies, true_implies, forall_const, St.le0, St.swaps, St.ren, mapV, renO, V.ren, Sc.ren, Ob.ren, swp, slsLe, obsLe, vLe, scLe, scsLe, obLe, Vq.look, Nat.reduceEqDiff, if_true, if_false, reduceCtorEq, ↓reduceIte, true_and, and_true, eCur, C.toS, List.map_cons, List.map_nil]; (and_intros <;> first | rfl | omega); done)
               | (trace_state; fail)))
        | (trace_state; fail))
theorem drawBlock_fn (l : List Int) (hl : l.length ≤ 1048576) : ∃ b : TBlk, bOk b ∧ FnC Try.prog 22 [(false, [.sq dU (l.map eU)])] (.agg (rB b.1 b.2)) := by
  obtain ⟨c', b, hb, hf⟩ := l03Block_fn l hl (curZ l)
  refine ⟨b, hb, ?_⟩
  refine fn_z (ty := ty) (ts := [.cell 2 30 2]) [0, 2, 2] mixed ty_ok Try.func22 (by kernel_rfl) rfl (by kernel_rfl) (by kernel_rfl) rfl (.inl rfl) (Nat.le_of_ble_eq_true rfl) (by simp only [entry, entryV, C.toS, Nat.zero_add, Nat.reduceAdd, List.map_cons, List.map_nil]; exact rfl) ?_
  repeat' (first
    | ((with_reducible refine z_run ?_); (conv => whnf))
    | (with_reducible apply z_t)
    | (with_reducible apply z_f)
    | ((with_reducible apply z_b); ((intro h); (try simp only [beq_self_eq_true, eq_self, not_true_eq_false, not_false_eq_true, decide_true, cond_true, cond_false, Bool.not_true, Bool.not_false, Bool.not_eq_true', Bool.not_eq_false', Bool.and_eq_true, Bool.and_eq_false_imp, Bool.or_eq_true, Bool.or_eq_false_iff, decide_eq_true_eq, decide_eq_false_iff_not, Bool.false_eq_true, reduceCtorEq, Int.not_le, Int.not_lt, Decidable.not_not] at h)); rotate_left; ((intro h); (try simp only [beq_self_eq_true, eq_self, not_true_eq_false, not_false_eq_true, decide_true, cond_true, cond_false, Bool.not_true, Bool.not_false, Bool.not_eq_true', Bool.not_eq_false', Bool.and_eq_true, Bool.and_eq_false_imp, Bool.or_eq_true, Bool.or_eq_false_iff, decide_eq_true_eq, decide_eq_false_iff_not, Bool.false_eq_true, reduceCtorEq, Int.not_le, Int.not_lt, Decidable.not_not] at h)))
    | (with_reducible refine z_r ?_ ?_)
    | (with_reducible refine z_wg ?_ ?_)
    | (with_reducible refine z_w ?_ ?_)
    | ((with_reducible apply sh_nil); (intro _))
    | ((with_reducible apply sh_int); (intro _))
    | ((with_reducible apply sh_bool); (intro _))
    | ((with_reducible apply sh_sl); (intro _))
    | ((with_reducible refine z_xf ?zc ?zx ?_); (case zc => decide +kernel); (case zx => decide +kernel))
    | (with_reducible refine z_k (l01New_fn l hl) ?_)
    | (refine z_mm [_] hf rfl rfl ⟨rfl, trivial⟩ rfl ?_)
    | ((with_reducible refine z_o ?zo ?_); (case zo => decide +kernel))
    | ((with_reducible refine z_x ?zx ?_); (case zx => decide +kernel))
    | ((refine z_mf (d := ?zD) (f := ?zF) (caps := ?zA) (τ := ?zT) (ps := ?zP) (cs := ?zC) ?zd ?ze ?zt ?za ?zp ?zl ?_); (case zd => exact rfl); (case ze => exact rfl); (case zt => (simp only [frzAll, frz, frzL, frzV, frzS, drp, unSs, unS, unsing, ev, Vq.look, List.map_cons, List.map_nil, List.drop_zero, List.drop_succ_cons, Nat.reduceAdd, Nat.zero_add, Option.map_some, Nat.reduceEqDiff, if_true, if_false, reduceCtorEq, ↓reduceIte]; exact rfl)); (case za => exact rfl); (case zp => exact rfl); (case zl => (simp only [unSs, unS, unsing, List.drop_zero, List.drop_succ_cons, Nat.reduceAdd, Nat.zero_add, Option.map_some, List.length_map, fillTo_zero, Int.toNat_natCast, Option.isSome_some, and_self, fixB, Nat.reduceLeDiff, false_implies, true_implies, forall_const, St.le0, St.swaps, St.ren, mapV, renO, V.ren, Sc.ren, Ob.ren, swp, slsLe, obsLe, vLe, scLe, scsLe, obLe, Vq.look, Nat.reduceEqDiff, if_true, if_false, reduceCtorEq, ↓reduceIte, true_and, and_true] <;> (and_intros <;> first | rfl | omega))))
    | fail)
  all_goals ((try simp only [Int.toNat_natCast, tn1, tp1, List.length_map, eq_self, true_and, and_true] at *); (try simp (disch := omega) only [wr, Int.toNat_natCast, tn1, tp1, List.length_map, eq_self, true_and, and_true] at *))
  all_goals (first
    | (refine z_e rfl ?_; simp only [fin, finP, finM, ids, nodupB, tupP, tupM, memN, List.length_cons, List.length_nil, List.nil_append, List.append_nil, List.cons_append, Nat.zero_add, Nat.reduceAdd, ne_eq, not_false_eq_true, eq_self, ev, Vq.look, List.map_cons, List.map_nil, and_true, true_and, Nat.reduceEqDiff, if_true, if_false, reduceCtorEq, ↓reduceIte]; first | done | rfl | (and_intros <;> rfl))
    | (trace_state; fail))
theorem drawBlockF (l : List Int) (hl : l.length ≤ 1048576) : ∃ b : TBlk, bOk b ∧ FnC Try.prog 22 [(false, [.sq dU (l.map eU)])] (.agg [.int .i64 b.1, .fz dCell (b.2.map eCell)]) := by
  obtain ⟨b, hb, h⟩ := drawBlock_fn l hl
  refine ⟨b, hb, h.cal, h.fn.weak ?_⟩
  simp only [List.length_map, fillTo_zero, Int.toNat_natCast, Option.isSome_some, and_self, fixB, Nat.reduceLeDiff, false_implies, true_implies, forall_const, St.le0, St.swaps, St.ren, mapV, renO, V.ren, Sc.ren, Ob.ren, swp, slsLe, obsLe, vLe, scLe, scsLe, obLe, Vq.look, Nat.reduceEqDiff, if_true, if_false, reduceCtorEq, ↓reduceIte, true_and, and_true, Rs.V, Rs.O, scsOf, obsOf]
theorem sumP_ge {φ : TCell → Int} (h : ∀ t, 0 ≤ φ t) : ∀ {c : List TCell} {t : TCell}, t ∈ c → φ t ≤ sumP φ c
  | a :: c, t, ht => by
    have hn : 0 ≤ sumP φ c := by
      unfold sumP
      clear ht
      induction c with
      | nil => simp
      | cons b c ih => simp only [List.map_cons, List.sum_cons]; have := h b; omega
    have ha := h a
    simp only [sumP, List.map_cons, List.sum_cons] at hn ⊢
    rcases List.mem_cons.1 ht with rfl | ht
    · omega
    · have := sumP_ge h ht
      simp only [sumP] at this; omega
theorem sideL_mem {q : Nat → Bool} {m k : Nat} (hk : k < m) (h : q k = true) : (k : Int) ∈ sideL q m := by
  unfold sideL
  exact List.mem_map.2 ⟨k, List.mem_filter.2 ⟨List.mem_range.2 hk, h⟩, rfl⟩
theorem cols_mem {n : Int} {c : List TCell} (h : blkOk n c) {k : Nat} (hk : k < c.length) : (c.getD k default).2.1 ∈ colsR n c ∧ (c.getD k default).2.2 ∈ colsR n c := by
  have hc := blk_get h hk
  have one : ∀ a : Int, 0 ≤ a ∧ a ≤ 5 → 0 < cellA (c.getD k default) a → a ∈ colsR n c := fun a ha hp => by
    obtain ⟨j, rfl⟩ : ∃ j : Nat, a = j := ⟨a.toNat, by omega⟩
    rw [colsR, if_pos h]
    refine sideL_mem (by omega) (decide_eq_true ?_)
    rw [areaR, if_pos h]
    have := sumP_ge (φ := fun t => cellA t j) (fun t => (cellA_bd t j).1) (getD_mem hk)
    omega
  refine ⟨one _ hc.2.1 ?_, one _ hc.2.2.1 ?_⟩
  · rw [cellA, if_pos hc, if_pos rfl]; split <;> omega
  · rw [cellA, if_pos hc, if_pos (show (c.getD k default).2.2 = (c.getD k default).2.2 from rfl)]; split <;> omega
theorem cols_plain {n : Int} (h : 1 ≤ n ∧ n ≤ 4) : colsR n (plainL n 3) = [3] := by
  have : n = 1 ∨ n = 2 ∨ n = 3 ∨ n = 4 := by omega
  rcases this with rfl | rfl | rfl | rfl <;> decide +kernel
theorem wc_ok {n : Int} {c : List TCell} (h : blkOk n c) {x y : Nat} (hx : (x : Int) < n) (hy : (y : Int) < n) {t : TCell} (ht : cellOk t) : wcOk n c x y t := ⟨⟨h, by omega, by omega⟩, ht⟩
theorem wcR_ok {n : Int} {c : List TCell} (h : blkOk n c) {x y : Nat} (hx : (x : Int) < n) (hy : (y : Int) < n) {t : TCell} (ht : cellOk t) : blkOk n (wcR n c x y t) := by
  rw [wcR, if_pos (wc_ok h hx hy ht)]
  refine ⟨h.1, by rw [List.length_set]; exact h.2.1, fun u hu => ?_⟩
  rcases List.mem_or_eq_of_mem_set hu with hu | rfl
  · exact h.2.2 u hu
  · exact ht
theorem wcR_back {n : Int} {c : List TCell} (h : blkOk n c) {x y : Nat} (hx : (x : Int) < n) (hy : (y : Int) < n) {t : TCell} (ht : cellOk t) : wcR n (wcR n c x y t) x y (c.getD ((y : Int) * n + x).toNat default) = c := by
  obtain ⟨e1, e2, e3, e4⟩ := idx_bd (x := x) (y := y) h.1 (by omega) (by omega)
  have hl := h.2.1
  have hk : ((y : Int) * n + x).toNat < c.length := by omega
  rw [wcR, if_pos (wc_ok (wcR_ok h hx hy ht) hx hy (blk_get h hk)), wcR, if_pos (wc_ok h hx hy ht), List.set_set]
  refine List.ext_getElem (by simp) fun i h1 h2 => ?_
  rw [List.getElem_set]
  split
  · rename_i e
    rw [List.getD_eq_getElem?_getD, List.getElem?_eq_getElem hk]
    subst e; rfl
  · rfl
theorem wcR_ne {n : Int} {c : List TCell} (h : blkOk n c) {x y : Nat} (hx : (x : Int) < n) (hy : (y : Int) < n) {t : TCell} (ht : cellOk t) {k : Nat} (hk : (k : Int) ≠ (y : Int) * n + x) : (wcR n c x y t).getD k default = c.getD k default := by
  obtain ⟨e1, e2, e3, e4⟩ := idx_bd (x := x) (y := y) h.1 (by omega) (by omega)
  rw [wcR, if_pos (wc_ok h hx hy ht), List.getD_eq_getElem?_getD, List.getElem?_set_ne (by omega), List.getD_eq_getElem?_getD]
theorem wcR_at {n : Int} {c : List TCell} (h : blkOk n c) {x y : Nat} (hx : (x : Int) < n) (hy : (y : Int) < n) {t : TCell} (ht : cellOk t) : cellAt n (wcR n c x y t) x y = t := by
  obtain ⟨e1, e2, e3, e4⟩ := idx_bd (x := x) (y := y) h.1 (by omega) (by omega)
  have hl := h.2.1
  rw [cellAt, if_pos ⟨wcR_ok h hx hy ht, by omega, by omega⟩, wcR, if_pos (wc_ok h hx hy ht), List.getD_eq_getElem?_getD, List.getElem?_set_self (by omega)]; rfl
end Go.Proofs.Ytaipkkbpgdpffaa
