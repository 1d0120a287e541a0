/- Areas of quilts and cloth for orders: plain mathematics and contracts. No conditions. -/
import Derived.Test.YtcibheinilkcoaaQltD
namespace Go.Proofs.Ytcibheinilkcoaa
open Go.Vq
set_option linter.unusedSimpArgs false
set_option maxHeartbeats 1000000
def cellA (t : TCell) (a : Int) : Int := if cellOk t then (if t.2.1 = a then 2 else 0) + (if t.2.2 = a then 2 else 0) else 0
theorem cellA_bd (t : TCell) (a : Int) : 0 ≤ cellA t a ∧ cellA t a ≤ 4 := by
  unfold cellA
  split
  · split <;> split <;> omega
  · omega
def areaR (n : Int) (c : List TCell) (a : Int) : Int := if blkOk n c then sumP (fun t => cellA t a) c else 0
theorem areaR_bd (n : Int) (c : List TCell) (a : Int) : 0 ≤ areaR n c a ∧ areaR n c a ≤ 64 := by
  unfold areaR
  split
  · rename_i h
    have h1 := sumP_bds (φ := fun t => cellA t a) (u := 4) (fun t => cellA_bd t a) c
    have := blk_len h
    omega
  · omega
theorem cellA_sum (c : List TCell) (a : Int) (k : Nat) (hk : k ≤ c.length) : 0 ≤ sumP (fun t => cellA t a) (c.take k) ∧ sumP (fun t => cellA t a) (c.take k) ≤ 4 * k := by
  have h1 := sumP_bds (φ := fun t => cellA t a) (u := 4) (fun t => cellA_bd t a) (c.take k)
  rw [List.length_take] at h1
  omega
theorem specCellArea (t : TCell) (a : Int) : FnC Try.prog 149 [aC t, (false, [.int .i64 a])] (.one (.int .i64 (cellA t a))) := by
  refine fn_z (ty := ty) (ts := [.tmp 4]) [0, 1, 2, 4, 5, 8, 12, 18] mixed ty_ok Try.func149 (by kernel_rfl) rfl (by kernel_rfl) (by kernel_rfl) rfl (.inl rfl) (Nat.le_of_ble_eq_true rfl) (by simp only [entry, entryV, C.toS, Nat.zero_add, Nat.reduceAdd, List.map_cons, List.map_nil]; exact rfl) ?_
  repeat' (first
    | ((with_reducible refine z_run ?_); (conv => whnf))
    | (with_reducible apply z_t)
    | (with_reducible apply z_f)
    | ((with_reducible apply z_b); ((intro h); (try simp only [beq_self_eq_true, eq_self, not_true_eq_false, not_false_eq_true, decide_true, cond_true, cond_false, Bool.not_true, Bool.not_false, Bool.not_eq_true', Bool.not_eq_false', Bool.and_eq_true, Bool.and_eq_false_imp, Bool.or_eq_true, Bool.or_eq_false_iff, decide_eq_true_eq, decide_eq_false_iff_not, Bool.false_eq_true, reduceCtorEq, Int.not_le, Int.not_lt, Decidable.not_not] at h)); rotate_left; ((intro h); (try simp only [beq_self_eq_true, eq_self, not_true_eq_false, not_false_eq_true, decide_true, cond_true, cond_false, Bool.not_true, Bool.not_false, Bool.not_eq_true', Bool.not_eq_false', Bool.and_eq_true, Bool.and_eq_false_imp, Bool.or_eq_true, Bool.or_eq_false_iff, decide_eq_true_eq, decide_eq_false_iff_not, Bool.false_eq_true, reduceCtorEq, Int.not_le, Int.not_lt, Decidable.not_not] at h)))
    | (with_reducible refine z_r ?_ ?_)
    | (with_reducible refine z_wg ?_ ?_)
    | (with_reducible refine z_w ?_ ?_)
    | ((with_reducible apply sh_nil); (intro _))
    | ((with_reducible apply sh_int); (intro _))
    | ((with_reducible apply sh_bool); (intro _))
    | ((with_reducible apply sh_sl); (intro _))
    | ((with_reducible refine z_xf ?zc ?zx ?_); (case zc => decide +kernel); (case zx => decide +kernel))
    | (with_reducible refine z_k (specCellOkT _) ?_)
    | ((with_reducible refine z_o ?zo ?_); (case zo => decide +kernel))
    | ((with_reducible refine z_x ?zx ?_); (case zx => decide +kernel))
    | ((refine z_mf (d := ?zD) (f := ?zF) (caps := ?zA) (τ := ?zT) (ps := ?zP) (cs := ?zC) ?zd ?ze ?zt ?za ?zp ?zl ?_); (case zd => exact rfl); (case ze => exact rfl); (case zt => (simp only [frzAll, frz, frzL, frzV, frzS, drp, unSs, unS, unsing, ev, Vq.look, List.map_cons, List.map_nil, List.drop_zero, List.drop_succ_cons, Nat.reduceAdd, Nat.zero_add, Option.map_some, Nat.reduceEqDiff, if_true, if_false, reduceCtorEq, ↓reduceIte]; exact rfl)); (case za => exact rfl); (case zp => exact rfl); (case zl => (simp only [unSs, unS, unsing, List.drop_zero, List.drop_succ_cons, Nat.reduceAdd, Nat.zero_add, Option.map_some, List.length_map, fillTo_zero, Int.toNat_natCast, Option.isSome_some, and_self, fixB, Nat.reduceLeDiff, false_implies, true_implies, forall_const, St.le0, St.swaps, St.ren, mapV, renO, V.ren, Sc.ren, Ob.ren, swp, slsLe, obsLe, vLe, scLe, scsLe, obLe, Vq.look, Nat.reduceEqDiff, if_true, if_false, reduceCtorEq, ↓reduceIte, true_and, and_true] <;> (and_intros <;> first | rfl | omega))))
    | fail)
  all_goals ((try simp only [Int.toNat_natCast, tn1, tp1, List.length_map, eq_self, true_and, and_true] at *); (try simp (disch := omega) only [wr, Int.toNat_natCast, tn1, tp1, List.length_map, eq_self, true_and, and_true] at *))
  all_goals (refine z_e rfl ?_; simp only [fin, finP, finM, ids, nodupB, tupP, tupM, memN, List.length_cons, List.length_nil, List.nil_append, List.append_nil, List.cons_append, Nat.zero_add, Nat.reduceAdd, ne_eq, not_false_eq_true, eq_self, ev, Vq.look, List.map_cons, List.map_nil, and_true, true_and, Nat.reduceEqDiff, if_true, if_false, reduceCtorEq, ↓reduceIte]; unfold cellA; (first | rw [if_pos (by assumption)] | rw [if_neg (by assumption)]) <;> (first | rfl | (simp [*]; done)))
theorem specAreaOf (n : Int) (c : List TCell) (hl : c.length ≤ 1048576) (a : Int) : FnC Try.prog 123 [aB n c, (false, [.int .i64 a])] (.one (.int .i64 (areaR n c a))) := by
  refine fn_z (ty := ty) (ts := [.tmp 4]) [0, 1, 2, 4, 5, 6, 9, 14] mixed ty_ok Try.func123 (by kernel_rfl) rfl (by kernel_rfl) (by kernel_rfl) rfl (.inl rfl) (Nat.le_of_ble_eq_true rfl) (by simp only [entry, entryV, C.toS, Nat.zero_add, Nat.reduceAdd, List.map_cons, List.map_nil]; exact rfl) ?_
  repeat' (first
    | ((with_reducible refine z_run ?_); (conv => whnf))
    | (with_reducible apply z_t)
    | (with_reducible apply z_f)
    | ((with_reducible apply z_b); ((intro h); (try simp only [beq_self_eq_true, eq_self, not_true_eq_false, not_false_eq_true, decide_true, cond_true, cond_false, Bool.not_true, Bool.not_false, Bool.not_eq_true', Bool.not_eq_false', Bool.and_eq_true, Bool.and_eq_false_imp, Bool.or_eq_true, Bool.or_eq_false_iff, decide_eq_true_eq, decide_eq_false_iff_not, Bool.false_eq_true, reduceCtorEq, Int.not_le, Int.not_lt, Decidable.not_not] at h)); rotate_left; ((intro h); (try simp only [beq_self_eq_true, eq_self, not_true_eq_false, not_false_eq_true, decide_true, cond_true, cond_false, Bool.not_true, Bool.not_false, Bool.not_eq_true', Bool.not_eq_false', Bool.and_eq_true, Bool.and_eq_false_imp, Bool.or_eq_true, Bool.or_eq_false_iff, decide_eq_true_eq, decide_eq_false_iff_not, Bool.false_eq_true, reduceCtorEq, Int.not_le, Int.not_lt, Decidable.not_not] at h)))
    | (with_reducible refine z_r ?_ ?_)
    | (with_reducible refine z_wg ?_ ?_)
    | (with_reducible refine z_w ?_ ?_)
    | ((with_reducible apply sh_nil); (intro _))
    | ((with_reducible apply sh_int); (intro _))
    | ((with_reducible apply sh_bool); (intro _))
    | ((with_reducible apply sh_sl); (intro _))
    | ((with_reducible refine z_xf ?zc ?zx ?_); (case zc => decide +kernel); (case zx => decide +kernel))
    | (with_reducible refine z_k (specBlockOk _ _ (by omega)) ?_)
    | ((with_reducible refine z_o ?zo ?_); (case zo => decide +kernel))
    | ((with_reducible refine z_x ?zx ?_); (case zx => decide +kernel))
    | ((refine z_mf (d := ?zD) (f := ?zF) (caps := ?zA) (τ := ?zT) (ps := ?zP) (cs := ?zC) ?zd ?ze ?zt ?za ?zp ?zl ?_); (case zd => exact rfl); (case ze => exact rfl); (case zt => (simp only [frzAll, frz, frzL, frzV, frzS, drp, unSs, unS, unsing, ev, Vq.look, List.map_cons, List.map_nil, List.drop_zero, List.drop_succ_cons, Nat.reduceAdd, Nat.zero_add, Option.map_some, Nat.reduceEqDiff, if_true, if_false, reduceCtorEq, ↓reduceIte]; exact rfl)); (case za => exact rfl); (case zp => exact rfl); (case zl => (simp only [unSs, unS, unsing, List.drop_zero, List.drop_succ_cons, Nat.reduceAdd, Nat.zero_add, Option.map_some, List.length_map, fillTo_zero, Int.toNat_natCast, Option.isSome_some, and_self, fixB, Nat.reduceLeDiff, false_implies, true_implies, forall_const, St.le0, St.swaps, St.ren, mapV, renO, V.ren, Sc.ren, Ob.ren, swp, slsLe, obsLe, vLe, scLe, scsLe, obLe, Vq.look, Nat.reduceEqDiff, if_true, if_false, reduceCtorEq, ↓reduceIte, true_and, and_true] <;> (and_intros <;> first | rfl | omega))))
    | fail)
  all_goals ((try simp only [Int.toNat_natCast, tn1, tp1, List.length_map, eq_self, true_and, and_true] at *); (try simp (disch := omega) only [wr, Int.toNat_natCast, tn1, tp1, List.length_map, eq_self, true_and, and_true] at *))
  all_goals (first
    | (refine z_e rfl ?_; simp only [fin, finP, finM, ids, nodupB, tupP, tupM, memN, List.length_cons, List.length_nil, List.nil_append, List.append_nil, List.cons_append, Nat.zero_add, Nat.reduceAdd, ne_eq, not_false_eq_true, eq_self, ev, Vq.look, List.map_cons, List.map_nil, and_true, true_and, Nat.reduceEqDiff, if_true, if_false, reduceCtorEq, ↓reduceIte]; rw [areaR, if_neg (by assumption)])
    | skip)
  refine z_li (fun k => k ≤ c.length) (0 : Nat) (fun k => c.length - k) (fun k => ⟨[(1, .one (.int .i64 a)), (2, .one (.bx 2 0)), (5, .one (.int .i64 (sumP (fun t => cellA t a) (c.take k)))), (6, .one (.int .i64 k))], [(2, .box [.int .i64 n, .ro dCell (c.map eCell)])]⟩) (by omega) ?_ ?_
  · simp only [List.length_map, fillTo_zero, Int.toNat_natCast, Option.isSome_some, and_self, fixB, Nat.reduceLeDiff, false_implies, true_implies, forall_const, St.le0, St.swaps, St.ren, mapV, renO, V.ren, Sc.ren, Ob.ren, swp, slsLe, obsLe, vLe, scLe, scsLe, obLe, Vq.look, Nat.reduceEqDiff, if_true, if_false, reduceCtorEq, ↓reduceIte, true_and, and_true] <;> (and_intros <;> first | rfl | omega | assumption)
  · intro k hk
    have hs := cellA_sum c a k hk
    have hb := cellA_bd (c.getD k default) a
    repeat' (first
    | ((with_reducible refine z_run ?_); (conv => whnf))
    | (with_reducible apply z_t)
    | (with_reducible apply z_f)
    | ((with_reducible apply z_b); ((intro h); (try simp only [beq_self_eq_true, eq_self, not_true_eq_false, not_false_eq_true, decide_true, cond_true, cond_false, Bool.not_true, Bool.not_false, Bool.not_eq_true', Bool.not_eq_false', Bool.and_eq_true, Bool.and_eq_false_imp, Bool.or_eq_true, Bool.or_eq_false_iff, decide_eq_true_eq, decide_eq_false_iff_not, Bool.false_eq_true, reduceCtorEq, Int.not_le, Int.not_lt, Decidable.not_not] at h)); rotate_left; ((intro h); (try simp only [beq_self_eq_true, eq_self, not_true_eq_false, not_false_eq_true, decide_true, cond_true, cond_false, Bool.not_true, Bool.not_false, Bool.not_eq_true', Bool.not_eq_false', Bool.and_eq_true, Bool.and_eq_false_imp, Bool.or_eq_true, Bool.or_eq_false_iff, decide_eq_true_eq, decide_eq_false_iff_not, Bool.false_eq_true, reduceCtorEq, Int.not_le, Int.not_lt, Decidable.not_not] at h)))
    | (with_reducible refine z_r ?_ ?_)
    | (with_reducible refine z_wg ?_ ?_)
    | (with_reducible refine z_w ?_ ?_)
    | ((with_reducible apply sh_nil); (intro _))
    | ((with_reducible apply sh_int); (intro _))
    | ((with_reducible apply sh_bool); (intro _))
    | ((with_reducible apply sh_sl); (intro _))
    | ((with_reducible refine z_xf ?zc ?zx ?_); (case zc => decide +kernel); (case zx => decide +kernel))
    | (with_reducible refine z_k (specCellArea _ _) ?_)
    | ((with_reducible refine z_o ?zo ?_); (case zo => decide +kernel))
    | ((with_reducible refine z_x ?zx ?_); (case zx => decide +kernel))
    | ((refine z_mf (d := ?zD) (f := ?zF) (caps := ?zA) (τ := ?zT) (ps := ?zP) (cs := ?zC) ?zd ?ze ?zt ?za ?zp ?zl ?_); (case zd => exact rfl); (case ze => exact rfl); (case zt => (simp only [frzAll, frz, frzL, frzV, frzS, drp, unSs, unS, unsing, ev, Vq.look, List.map_cons, List.map_nil, List.drop_zero, List.drop_succ_cons, Nat.reduceAdd, Nat.zero_add, Option.map_some, Nat.reduceEqDiff, if_true, if_false, reduceCtorEq, ↓reduceIte]; exact rfl)); (case za => exact rfl); (case zp => exact rfl); (case zl => (simp only [unSs, unS, unsing, List.drop_zero, List.drop_succ_cons, Nat.reduceAdd, Nat.zero_add, Option.map_some, List.length_map, fillTo_zero, Int.toNat_natCast, Option.isSome_some, and_self, fixB, Nat.reduceLeDiff, false_implies, true_implies, forall_const, St.le0, St.swaps, St.ren, mapV, renO, V.ren, Sc.ren, Ob.ren, swp, slsLe, obsLe, vLe, scLe, scsLe, obLe, Vq.look, Nat.reduceEqDiff, if_true, if_false, reduceCtorEq, ↓reduceIte, true_and, and_true] <;> (and_intros <;> first | rfl | omega))))
    | fail)
    all_goals ((try simp only [Int.toNat_natCast, tn1, tp1, List.length_map, eq_self, true_and, and_true] at *); (try simp (disch := omega) only [wr, Int.toNat_natCast, tn1, tp1, List.length_map, eq_self, true_and, and_true] at *))
    all_goals (first
      | omega
      | (refine z_n (k + 1) ⟨by omega, by omega⟩ ?_; rw [sumP_take (by omega)]; simp only [List.length_map, fillTo_zero, Int.toNat_natCast, Option.isSome_some, and_self, fixB, Nat.reduceLeDiff, false_implies, true_implies, forall_const, St.le0, St.swaps, St.ren, mapV, renO, V.ren, Sc.ren, Ob.ren, swp, slsLe, obsLe, vLe, scLe, scsLe, obLe, Vq.look, Nat.reduceEqDiff, if_true, if_false, reduceCtorEq, ↓reduceIte, true_and, and_true] <;> (and_intros <;> first | rfl | omega | assumption); done)
      | (refine z_e rfl ?_; simp only [fin, finP, finM, ids, nodupB, tupP, tupM, memN, List.length_cons, List.length_nil, List.nil_append, List.append_nil, List.cons_append, Nat.zero_add, Nat.reduceAdd, ne_eq, not_false_eq_true, eq_self, ev, Vq.look, List.map_cons, List.map_nil, and_true, true_and, Nat.reduceEqDiff, if_true, if_false, reduceCtorEq, ↓reduceIte]; rw [areaR, if_pos (by assumption), List.take_of_length_le (by omega)])
      | (trace_state; fail))
/-- how much of what is shown has a color, block by block -/
def qaF (sp : List TSpot) (bs : List TBlk) (a : Nat) (k : Nat) : Int := usum sp (fun i => areaR (bs.getD i default).1 (bs.getD i default).2 a) k
def qaL (sp : List TSpot) (bs : List TBlk) (k j : Nat) : List Int := (List.range 6).map fun a : Nat => if a < j then qaF sp bs a (k + 1) else qaF sp bs a k
theorem qaL_len (sp : List TSpot) (bs : List TBlk) (k j : Nat) : (qaL sp bs k j).length = 6 := by simp [qaL]
theorem qaL_get (sp : List TSpot) (bs : List TBlk) (k : Nat) {j : Nat} (h : j < 6) : (qaL sp bs k j).getD j default = qaF sp bs j k := by simp [qaL, List.getD, h]
theorem qaL_set (sp : List TSpot) (bs : List TBlk) (k : Nat) {j : Nat} (h : j < 6) : (qaL sp bs k j).set j (qaF sp bs j k + cntS sp k * areaR (bs.getD k default).1 (bs.getD k default).2 j) = qaL sp bs k (j + 1) := by
  refine List.ext_getElem (by simp [qaL]) fun i h1 h2 => ?_
  rw [List.getElem_set]
  simp only [qaL, List.getElem_map, List.getElem_range]
  by_cases e : j = i
  · subst e; rw [if_pos rfl, if_pos (by omega)]; rfl
  · rw [if_neg e]
    by_cases e2 : i < j
    · rw [if_pos e2, if_pos (by omega)]
    · rw [if_neg e2, if_neg (by omega)]
theorem qaL_next (sp : List TSpot) (bs : List TBlk) (k : Nat) : qaL sp bs k 6 = qaL sp bs (k + 1) 0 := by
  unfold qaL
  refine List.map_congr_left fun a ha => ?_
  have := List.mem_range.1 ha
  rw [if_pos this, if_neg (by omega)]
def qaR (sp : List TSpot) (bs : List TBlk) : List Int := qaL sp bs bs.length 0
theorem qaF_bd {sp : List TSpot} {bs : List TBlk} (hl : sp.length ≤ 36) (hb : bs.length ≤ 6) (a : Nat) (k : Nat) (hk : k ≤ bs.length) : 0 ≤ qaF sp bs a k ∧ qaF sp bs a k ≤ 36 * 64 * k :=
  usum_bdm sp _ hl bs.length (fun i _ => areaR_bd _ _ _) k hk
theorem specQuiltAreas (w g : Int) (sp : List TSpot) (bs : List TBlk) (hl : sp.length + bs.length + cellsN bs ≤ 1048576) (hq : qOk w g sp bs) : FnC Try.prog 60 [aQ w g sp, aBs bs] (.one (.own 3 dI ((qaR sp bs).map eI))) := by
  have hul := useK_len sp bs.length sp.length
  have hbl := hq.2.1
  have hsl := qOk_len hq
  refine fn_z (ty := ty) (ts := [.tmp 4]) [0, 1, 2, 4, 5, 6, 7, 8, 14, 20, 24] mixed ty_ok Try.func60 (by kernel_rfl) rfl (by kernel_rfl) (by kernel_rfl) rfl (.inl rfl) (Nat.le_of_ble_eq_true rfl) (by simp only [entry, entryV, C.toS, Nat.zero_add, Nat.reduceAdd, List.map_cons, List.map_nil]; exact rfl) ?_
  repeat' (first
    | ((with_reducible refine z_run ?_); (conv => whnf))
    | (with_reducible apply z_t)
    | (with_reducible apply z_f)
    | ((with_reducible apply z_b); ((intro h); (try simp only [beq_self_eq_true, eq_self, not_true_eq_false, not_false_eq_true, decide_true, cond_true, cond_false, Bool.not_true, Bool.not_false, Bool.not_eq_true', Bool.not_eq_false', Bool.and_eq_true, Bool.and_eq_false_imp, Bool.or_eq_true, Bool.or_eq_false_iff, decide_eq_true_eq, decide_eq_false_iff_not, Bool.false_eq_true, reduceCtorEq, Int.not_le, Int.not_lt, Decidable.not_not] at h)); rotate_left; ((intro h); (try simp only [beq_self_eq_true, eq_self, not_true_eq_false, not_false_eq_true, decide_true, cond_true, cond_false, Bool.not_true, Bool.not_false, Bool.not_eq_true', Bool.not_eq_false', Bool.and_eq_true, Bool.and_eq_false_imp, Bool.or_eq_true, Bool.or_eq_false_iff, decide_eq_true_eq, decide_eq_false_iff_not, Bool.false_eq_true, reduceCtorEq, Int.not_le, Int.not_lt, Decidable.not_not] at h)))
    | (with_reducible refine z_r ?_ ?_)
    | (with_reducible refine z_wg ?_ ?_)
    | (with_reducible refine z_w ?_ ?_)
    | ((with_reducible apply sh_nil); (intro _))
    | ((with_reducible apply sh_int); (intro _))
    | ((with_reducible apply sh_bool); (intro _))
    | ((with_reducible apply sh_sl); (intro _))
    | ((with_reducible refine z_xf ?zc ?zx ?_); (case zc => decide +kernel); (case zx => decide +kernel))
    | (with_reducible refine z_k (specUseOf _ _ _ _ hl hq) ?_)
    | ((with_reducible refine z_o ?zo ?_); (case zo => decide +kernel))
    | ((with_reducible refine z_x ?zx ?_); (case zx => decide +kernel))
    | ((refine z_mf (d := ?zD) (f := ?zF) (caps := ?zA) (τ := ?zT) (ps := ?zP) (cs := ?zC) ?zd ?ze ?zt ?za ?zp ?zl ?_); (case zd => exact rfl); (case ze => exact rfl); (case zt => (simp only [frzAll, frz, frzL, frzV, frzS, drp, unSs, unS, unsing, ev, Vq.look, List.map_cons, List.map_nil, List.drop_zero, List.drop_succ_cons, Nat.reduceAdd, Nat.zero_add, Option.map_some, Nat.reduceEqDiff, if_true, if_false, reduceCtorEq, ↓reduceIte]; exact rfl)); (case za => exact rfl); (case zp => exact rfl); (case zl => (simp only [unSs, unS, unsing, List.drop_zero, List.drop_succ_cons, Nat.reduceAdd, Nat.zero_add, Option.map_some, List.length_map, fillTo_zero, Int.toNat_natCast, Option.isSome_some, and_self, fixB, Nat.reduceLeDiff, false_implies, true_implies, forall_const, St.le0, St.swaps, St.ren, mapV, renO, V.ren, Sc.ren, Ob.ren, swp, slsLe, obsLe, vLe, scLe, scsLe, obLe, Vq.look, Nat.reduceEqDiff, if_true, if_false, reduceCtorEq, ↓reduceIte, true_and, and_true] <;> (and_intros <;> first | rfl | omega))))
    | fail)
  all_goals ((try simp only [Int.toNat_natCast, tn1, tp1, List.length_map, eq_self, true_and, and_true] at *); (try simp (disch := omega) only [wr, Int.toNat_natCast, tn1, tp1, List.length_map, eq_self, true_and, and_true] at *))
  all_goals (first
    | omega
    | (exfalso; omega)
    | skip)
  refine z_li (fun k : Nat => k ≤ bs.length) (0 : Nat) (fun k => bs.length - k) (fun k => ⟨[(1, .one (.ro dBlk (bs.map eBlk))), (5, .one (.root 11)), (6, .one (.root 16)), (7, .one (.int .i64 k))], [(16, .row 3 dI ((qaL sp bs k 0).map eI)), (11, .row 3 dI ((useK sp bs.length sp.length).map eI))]⟩) (by omega) ?_ ?_
  · rw [show qaL sp bs 0 0 = [0, 0, 0, 0, 0, 0] by simp [qaL, qaF, usum]; rfl]; simp only [List.length_map, fillTo_zero, Int.toNat_natCast, Option.isSome_some, and_self, fixB, Nat.reduceLeDiff, false_implies, true_implies, forall_const, St.le0, St.swaps, St.ren, mapV, renO, V.ren, Sc.ren, Ob.ren, swp, slsLe, obsLe, vLe, scLe, scsLe, obLe, Vq.look, Nat.reduceEqDiff, if_true, if_false, reduceCtorEq, ↓reduceIte, true_and, and_true] <;> (and_intros <;> first | rfl | omega | assumption)
  · intro k hk
    by_cases hlt : k < bs.length
    · repeat' (first
    | ((with_reducible refine z_run ?_); (conv => whnf))
    | (with_reducible apply z_t)
    | (with_reducible apply z_f)
    | ((with_reducible apply z_b); ((intro h); (try simp only [beq_self_eq_true, eq_self, not_true_eq_false, not_false_eq_true, decide_true, cond_true, cond_false, Bool.not_true, Bool.not_false, Bool.not_eq_true', Bool.not_eq_false', Bool.and_eq_true, Bool.and_eq_false_imp, Bool.or_eq_true, Bool.or_eq_false_iff, decide_eq_true_eq, decide_eq_false_iff_not, Bool.false_eq_true, reduceCtorEq, Int.not_le, Int.not_lt, Decidable.not_not] at h)); rotate_left; ((intro h); (try simp only [beq_self_eq_true, eq_self, not_true_eq_false, not_false_eq_true, decide_true, cond_true, cond_false, Bool.not_true, Bool.not_false, Bool.not_eq_true', Bool.not_eq_false', Bool.and_eq_true, Bool.and_eq_false_imp, Bool.or_eq_true, Bool.or_eq_false_iff, decide_eq_true_eq, decide_eq_false_iff_not, Bool.false_eq_true, reduceCtorEq, Int.not_le, Int.not_lt, Decidable.not_not] at h)))
    | (with_reducible refine z_r ?_ ?_)
    | (with_reducible refine z_wg ?_ ?_)
    | (with_reducible refine z_w ?_ ?_)
    | ((with_reducible apply sh_nil); (intro _))
    | ((with_reducible apply sh_int); (intro _))
    | ((with_reducible apply sh_bool); (intro _))
    | ((with_reducible apply sh_sl); (intro _))
    | ((with_reducible refine z_xf ?zc ?zx ?_); (case zc => decide +kernel); (case zx => decide +kernel))
    | ((with_reducible refine z_o ?zo ?_); (case zo => decide +kernel))
    | ((with_reducible refine z_x ?zx ?_); (case zx => decide +kernel))
    | ((refine z_mf (d := ?zD) (f := ?zF) (caps := ?zA) (τ := ?zT) (ps := ?zP) (cs := ?zC) ?zd ?ze ?zt ?za ?zp ?zl ?_); (case zd => exact rfl); (case ze => exact rfl); (case zt => (simp only [frzAll, frz, frzL, frzV, frzS, drp, unSs, unS, unsing, ev, Vq.look, List.map_cons, List.map_nil, List.drop_zero, List.drop_succ_cons, Nat.reduceAdd, Nat.zero_add, Option.map_some, Nat.reduceEqDiff, if_true, if_false, reduceCtorEq, ↓reduceIte]; exact rfl)); (case za => exact rfl); (case zp => exact rfl); (case zl => (simp only [unSs, unS, unsing, List.drop_zero, List.drop_succ_cons, Nat.reduceAdd, Nat.zero_add, Option.map_some, List.length_map, fillTo_zero, Int.toNat_natCast, Option.isSome_some, and_self, fixB, Nat.reduceLeDiff, false_implies, true_implies, forall_const, St.le0, St.swaps, St.ren, mapV, renO, V.ren, Sc.ren, Ob.ren, swp, slsLe, obsLe, vLe, scLe, scsLe, obLe, Vq.look, Nat.reduceEqDiff, if_true, if_false, reduceCtorEq, ↓reduceIte, true_and, and_true] <;> (and_intros <;> first | rfl | omega))))
    | fail)
      all_goals ((try simp only [Int.toNat_natCast, tn1, tp1, List.length_map, eq_self, true_and, and_true] at *); (try simp (disch := omega) only [wr, Int.toNat_natCast, tn1, tp1, List.length_map, eq_self, true_and, and_true] at *))
      all_goals (first
        | omega
        | skip)
      refine z_li (fun j : Nat => j ≤ 6) (0 : Nat) (fun j => 6 - j) (fun j => ⟨[(1, .one (.ro dBlk (bs.map eBlk))), (5, .one (.root 11)), (6, .one (.root 16)), (7, .one (.int .i64 k)), (8, .one (.int .i64 j))], [(16, .row 3 dI ((qaL sp bs k j).map eI)), (11, .row 3 dI ((useK sp bs.length sp.length).map eI))]⟩) (by omega) ?_ ?_
      · simp only [List.length_map, fillTo_zero, Int.toNat_natCast, Option.isSome_some, and_self, fixB, Nat.reduceLeDiff, false_implies, true_implies, forall_const, St.le0, St.swaps, St.ren, mapV, renO, V.ren, Sc.ren, Ob.ren, swp, slsLe, obsLe, vLe, scLe, scsLe, obLe, Vq.look, Nat.reduceEqDiff, if_true, if_false, reduceCtorEq, ↓reduceIte, true_and, and_true] <;> (and_intros <;> first | rfl | omega | assumption)
      · intro j hj
        have hql := qaL_len sp bs k j
        have hqg := fun h => qaL_get sp bs k (j := j) h
        have hqs := fun h => qaL_set sp bs k (j := j) h
        have hug := useK_get sp (m := bs.length) (k := sp.length) (i := k) hlt
        rw [List.take_of_length_le (Nat.le_refl _)] at hug
        have hcn := cntS_bd sp k
        have hab := areaR_bd (bs.getD k default).1 (bs.getD k default).2 j
        have hmul : 0 ≤ cntS sp k * areaR (bs.getD k default).1 (bs.getD k default).2 j ∧ cntS sp k * areaR (bs.getD k default).1 (bs.getD k default).2 j ≤ 36 * 64 := ⟨Int.mul_nonneg hcn.1 hab.1, Int.mul_le_mul (by omega) hab.2 hab.1 (by omega)⟩
        have hqb := qaF_bd (sp := sp) (bs := bs) (by omega) (by omega) j k hk
        have hc := cellsN_get hlt
        repeat' (first
    | ((with_reducible refine z_run ?_); (conv => whnf))
    | (with_reducible apply z_t)
    | (with_reducible apply z_f)
    | ((with_reducible apply z_b); ((intro h); (try simp only [beq_self_eq_true, eq_self, not_true_eq_false, not_false_eq_true, decide_true, cond_true, cond_false, Bool.not_true, Bool.not_false, Bool.not_eq_true', Bool.not_eq_false', Bool.and_eq_true, Bool.and_eq_false_imp, Bool.or_eq_true, Bool.or_eq_false_iff, decide_eq_true_eq, decide_eq_false_iff_not, Bool.false_eq_true, reduceCtorEq, Int.not_le, Int.not_lt, Decidable.not_not] at h)); rotate_left; ((intro h); (try simp only [beq_self_eq_true, eq_self, not_true_eq_false, not_false_eq_true, decide_true, cond_true, cond_false, Bool.not_true, Bool.not_false, Bool.not_eq_true', Bool.not_eq_false', Bool.and_eq_true, Bool.and_eq_false_imp, Bool.or_eq_true, Bool.or_eq_false_iff, decide_eq_true_eq, decide_eq_false_iff_not, Bool.false_eq_true, reduceCtorEq, Int.not_le, Int.not_lt, Decidable.not_not] at h)))
    | (with_reducible refine z_r ?_ ?_)
    | (with_reducible refine z_wg ?_ ?_)
    | (with_reducible refine z_w ?_ ?_)
    | ((with_reducible apply sh_nil); (intro _))
    | ((with_reducible apply sh_int); (intro _))
    | ((with_reducible apply sh_bool); (intro _))
    | ((with_reducible apply sh_sl); (intro _))
    | ((with_reducible refine z_xf ?zc ?zx ?_); (case zc => decide +kernel); (case zx => decide +kernel))
    | (with_reducible refine z_k (specAreaOf _ _ (by simp only [Int.toNat_natCast]; omega) _) ?_)
    | ((with_reducible refine z_o ?zo ?_); (case zo => decide +kernel))
    | ((with_reducible refine z_x ?zx ?_); (case zx => decide +kernel))
    | ((refine z_mf (d := ?zD) (f := ?zF) (caps := ?zA) (τ := ?zT) (ps := ?zP) (cs := ?zC) ?zd ?ze ?zt ?za ?zp ?zl ?_); (case zd => exact rfl); (case ze => exact rfl); (case zt => (simp only [frzAll, frz, frzL, frzV, frzS, drp, unSs, unS, unsing, ev, Vq.look, List.map_cons, List.map_nil, List.drop_zero, List.drop_succ_cons, Nat.reduceAdd, Nat.zero_add, Option.map_some, Nat.reduceEqDiff, if_true, if_false, reduceCtorEq, ↓reduceIte]; exact rfl)); (case za => exact rfl); (case zp => exact rfl); (case zl => (simp only [unSs, unS, unsing, List.drop_zero, List.drop_succ_cons, Nat.reduceAdd, Nat.zero_add, Option.map_some, List.length_map, fillTo_zero, Int.toNat_natCast, Option.isSome_some, and_self, fixB, Nat.reduceLeDiff, false_implies, true_implies, forall_const, St.le0, St.swaps, St.ren, mapV, renO, V.ren, Sc.ren, Ob.ren, swp, slsLe, obsLe, vLe, scLe, scsLe, obLe, Vq.look, Nat.reduceEqDiff, if_true, if_false, reduceCtorEq, ↓reduceIte, true_and, and_true] <;> (and_intros <;> first | rfl | omega))))
    | fail)
        all_goals ((try simp only [Int.toNat_natCast, tn1, tp1, List.length_map, eq_self, true_and, and_true] at *); (try simp (disch := omega) only [wr, Int.toNat_natCast, tn1, tp1, List.length_map, eq_self, true_and, and_true] at *))
        all_goals (try rw [hug] at *)
        all_goals (try rw [hqg (by omega)] at *)
        all_goals (first
          | omega
          | (simp only [List.length_map, hql, hul]; omega)
          | (refine z_n (j + 1) ⟨by omega, by omega⟩ ?_; rw [← hqs (by omega), ← set_map]; (try rw [wr (x := cntS sp k * areaR (bs.getD k default).1 (bs.getD k default).2 j) ⟨by omega, by omega⟩]); (try rw [wr ⟨by omega, by omega⟩]); simp only [List.length_map, fillTo_zero, Int.toNat_natCast, Option.isSome_some, and_self, fixB, Nat.reduceLeDiff, false_implies, true_implies, forall_const, St.le0, St.swaps, St.ren, mapV, renO, V.ren, Sc.ren, Ob.ren, swp, slsLe, obsLe, vLe, scLe, scsLe, obLe, Vq.look, Nat.reduceEqDiff, if_true, if_false, reduceCtorEq, ↓reduceIte, true_and, and_true] <;> (and_intros <;> first | rfl | omega | assumption); done)
          | (have e : qaL sp bs (k + 1) 0 = qaL sp bs k j := (by rw [← qaL_next, show j = 6 by omega])
             refine z_n (k + 1) ⟨by omega, by omega⟩ ?_; rw [e]; simp only [List.length_map, fillTo_zero, Int.toNat_natCast, Option.isSome_some, and_self, fixB, Nat.reduceLeDiff, false_implies, true_implies, forall_const, St.le0, St.swaps, St.ren, mapV, renO, V.ren, Sc.ren, Ob.ren, swp, slsLe, obsLe, vLe, scLe, scsLe, obLe, Vq.look, Nat.reduceEqDiff, if_true, if_false, reduceCtorEq, ↓reduceIte, true_and, and_true] <;> (and_intros <;> first | rfl | omega | assumption); done)
          | (trace_state; fail))
    · repeat' (first
    | ((with_reducible refine z_run ?_); (conv => whnf))
    | (with_reducible apply z_t)
    | (with_reducible apply z_f)
    | ((with_reducible apply z_b); ((intro h); (try simp only [beq_self_eq_true, eq_self, not_true_eq_false, not_false_eq_true, decide_true, cond_true, cond_false, Bool.not_true, Bool.not_false, Bool.not_eq_true', Bool.not_eq_false', Bool.and_eq_true, Bool.and_eq_false_imp, Bool.or_eq_true, Bool.or_eq_false_iff, decide_eq_true_eq, decide_eq_false_iff_not, Bool.false_eq_true, reduceCtorEq, Int.not_le, Int.not_lt, Decidable.not_not] at h)); rotate_left; ((intro h); (try simp only [beq_self_eq_true, eq_self, not_true_eq_false, not_false_eq_true, decide_true, cond_true, cond_false, Bool.not_true, Bool.not_false, Bool.not_eq_true', Bool.not_eq_false', Bool.and_eq_true, Bool.and_eq_false_imp, Bool.or_eq_true, Bool.or_eq_false_iff, decide_eq_true_eq, decide_eq_false_iff_not, Bool.false_eq_true, reduceCtorEq, Int.not_le, Int.not_lt, Decidable.not_not] at h)))
    | (with_reducible refine z_r ?_ ?_)
    | (with_reducible refine z_wg ?_ ?_)
    | (with_reducible refine z_w ?_ ?_)
    | ((with_reducible apply sh_nil); (intro _))
    | ((with_reducible apply sh_int); (intro _))
    | ((with_reducible apply sh_bool); (intro _))
    | ((with_reducible apply sh_sl); (intro _))
    | ((with_reducible refine z_xf ?zc ?zx ?_); (case zc => decide +kernel); (case zx => decide +kernel))
    | ((with_reducible refine z_o ?zo ?_); (case zo => decide +kernel))
    | ((with_reducible refine z_x ?zx ?_); (case zx => decide +kernel))
    | ((refine z_mf (d := ?zD) (f := ?zF) (caps := ?zA) (τ := ?zT) (ps := ?zP) (cs := ?zC) ?zd ?ze ?zt ?za ?zp ?zl ?_); (case zd => exact rfl); (case ze => exact rfl); (case zt => (simp only [frzAll, frz, frzL, frzV, frzS, drp, unSs, unS, unsing, ev, Vq.look, List.map_cons, List.map_nil, List.drop_zero, List.drop_succ_cons, Nat.reduceAdd, Nat.zero_add, Option.map_some, Nat.reduceEqDiff, if_true, if_false, reduceCtorEq, ↓reduceIte]; exact rfl)); (case za => exact rfl); (case zp => exact rfl); (case zl => (simp only [unSs, unS, unsing, List.drop_zero, List.drop_succ_cons, Nat.reduceAdd, Nat.zero_add, Option.map_some, List.length_map, fillTo_zero, Int.toNat_natCast, Option.isSome_some, and_self, fixB, Nat.reduceLeDiff, false_implies, true_implies, forall_const, St.le0, St.swaps, St.ren, mapV, renO, V.ren, Sc.ren, Ob.ren, swp, slsLe, obsLe, vLe, scLe, scsLe, obLe, Vq.look, Nat.reduceEqDiff, if_true, if_false, reduceCtorEq, ↓reduceIte, true_and, and_true] <;> (and_intros <;> first | rfl | omega))))
    | fail)
      all_goals ((try simp only [Int.toNat_natCast, tn1, tp1, List.length_map, eq_self, true_and, and_true] at *); (try simp (disch := omega) only [wr, Int.toNat_natCast, tn1, tp1, List.length_map, eq_self, true_and, and_true] at *))
      all_goals (first
        | omega
        | (refine z_e rfl ?_; simp only [fin, finP, finM, ids, nodupB, tupP, tupM, memN, List.length_cons, List.length_nil, List.nil_append, List.append_nil, List.cons_append, Nat.zero_add, Nat.reduceAdd, ne_eq, not_false_eq_true, eq_self, ev, Vq.look, List.map_cons, List.map_nil, and_true, true_and, Nat.reduceEqDiff, if_true, if_false, reduceCtorEq, ↓reduceIte]; rw [qaR, show bs.length = k by omega]; done)
        | (trace_state; fail))
/-! ### cloth -/
def phW (a : Nat) (t : TCell) : Int := if t.1 = 0 ∧ t.2.1 = a then 1 else 0
def phH (a : Nat) (t : TCell) : Int := if t.1 = 0 then 0 else (if t.2.1 = a then 1 else 0) + (if t.2.2 = a then 1 else 0)
theorem phW_bd (a : Nat) (t : TCell) : 0 ≤ phW a t ∧ phW a t ≤ 1 := by unfold phW; split <;> omega
theorem phH_bd (a : Nat) (t : TCell) : 0 ≤ phH a t ∧ phH a t ≤ 2 := by unfold phH; split <;> (try split) <;> (try split) <;> omega
def mulL (X : Int) (n : Nat → Int) : List Int := (List.range 6).map fun a : Nat => X * n a
theorem mulL_len (X : Int) (n : Nat → Int) : (mulL X n).length = 6 := by simp [mulL]
theorem mulL_get (X : Int) (n : Nat → Int) {a : Nat} (h : a < 6) : (mulL X n).getD a default = X * n a := by simp [mulL, List.getD, h]
theorem mulL_set (X : Int) (n n' : Nat → Int) {j : Nat} (h : ∀ a, a < 6 → n' a = n a + if a = j then 1 else 0) : (mulL X n).set j (X * n j + X) = mulL X n' := by
  refine List.ext_getElem (by simp [mulL]) fun i h1 h2 => ?_
  rw [List.getElem_set]
  simp only [mulL, List.getElem_map, List.getElem_range]
  have hi : i < 6 := by simpa [mulL] using h2
  rw [h i hi]
  by_cases e : j = i
  · subst e; rw [if_pos rfl, if_pos rfl, Int.mul_add, Int.mul_one]
  · rw [if_neg e, if_neg (by omega), Int.add_zero]
theorem mulL_congr (X : Int) {n n' : Nat → Int} (h : ∀ a, a < 6 → n a = n' a) : mulL X n = mulL X n' := by
  unfold mulL
  exact List.map_congr_left fun a ha => by rw [h a (List.mem_range.1 ha)]
theorem set_get_ne {L : List Int} {A B : Nat} {v n : Int} (hB : B < L.length) (h : A ≠ B) (e : ((L.map eI).set A [C.int .i64 v])[B]? = some [C.int .i64 n]) : n = L.getD B default := by
  rw [List.getElem?_set_ne h, List.getElem?_map, List.getElem?_eq_getElem hB] at e
  simp only [Option.map_some, Option.some.injEq, eI, List.cons.injEq, C.int.injEq, and_true, true_and] at e
  rw [List.getD_eq_getElem?_getD, List.getElem?_eq_getElem hB, ← e]; rfl
def Wn (sp : List TSpot) (bs : List TBlk) (k : Nat) (a : Nat) : Int := shS (fun b => sumP (phW a) b.2) sp bs k
def Hn (sp : List TSpot) (bs : List TBlk) (k : Nat) (a : Nat) : Int := shS (fun b => sumP (phH a) b.2) sp bs k
def cutX (s : Int) : Int := (s + 4) * (s + 4)
def triY (s : Int) : Int := (s + 7) * (s + 7)
def clothK (sp : List TSpot) (bs : List TBlk) (s : Int) (k : Nat) : List Int := (List.range k).map fun a : Nat => cutX s * Wn sp bs sp.length a + (triY s * Hn sp bs sp.length a + 1) / 2
theorem clothK_len (sp : List TSpot) (bs : List TBlk) (s : Int) (k : Nat) : (clothK sp bs s k).length = k := by simp [clothK]
theorem clothK_succ (sp : List TSpot) (bs : List TBlk) (s : Int) (k : Nat) : clothK sp bs s (k + 1) = clothK sp bs s k ++ [cutX s * Wn sp bs sp.length k + (triY s * Hn sp bs sp.length k + 1) / 2] := by simp [clothK, List.range_succ]
theorem clothK_get (sp : List TSpot) (bs : List TBlk) (s : Int) {k a : Nat} (h : a < k) : (clothK sp bs s k).getD a default = cutX s * Wn sp bs sp.length a + (triY s * Hn sp bs sp.length a + 1) / 2 := by simp [clothK, List.getD, h]
theorem Wn_bd {w g : Int} {sp : List TSpot} {bs : List TBlk} (h : qOk w g sp bs) (a : Nat) (k : Nat) (hk : k ≤ sp.length) : 0 ≤ Wn sp bs k a ∧ Wn sp bs k a ≤ 16 * k :=
  shS_bd h _ (u := 16) (fun b hb => by have := sumP_bds (phW_bd a) b.2; have := blk_len hb; omega) k hk
theorem Hn_bd {w g : Int} {sp : List TSpot} {bs : List TBlk} (h : qOk w g sp bs) (a : Nat) (k : Nat) (hk : k ≤ sp.length) : 0 ≤ Hn sp bs k a ∧ Hn sp bs k a ≤ 32 * k :=
  shS_bd h _ (u := 32) (fun b hb => by have := sumP_bds (phH_bd a) b.2; have := blk_len hb; omega) k hk
theorem cutX_bd {s : Int} (h : 4 ≤ s ∧ s ≤ 100) : 1 ≤ cutX s ∧ cutX s ≤ 10816 := by
  unfold cutX
  exact ⟨Int.le_trans (by decide : (1 : Int) ≤ 8 * 8) (Int.mul_le_mul (by omega) (by omega) (by omega) (by omega)), Int.le_trans (Int.mul_le_mul (by omega : s + 4 ≤ 104) (by omega : s + 4 ≤ 104) (by omega) (by omega)) (by decide)⟩
theorem triY_bd {s : Int} (h : 4 ≤ s ∧ s ≤ 100) : 1 ≤ triY s ∧ triY s ≤ 11449 := by
  unfold triY
  exact ⟨Int.le_trans (by decide : (1 : Int) ≤ 11 * 11) (Int.mul_le_mul (by omega) (by omega) (by omega) (by omega)), Int.le_trans (Int.mul_le_mul (by omega : s + 7 ≤ 107) (by omega : s + 7 ≤ 107) (by omega) (by omega)) (by decide)⟩
theorem implCutSize (s : Int) (h : 4 ≤ s ∧ s ≤ 100) : FnC Try.prog 120 [(false, [.int .i64 s])] (.one (.int .i64 (s + 4))) := by
  refine fn_z (ty := ty) (ts := [.tmp 2]) [0, 2, 5] mixed ty_ok Try.func120 (by kernel_rfl) rfl (by kernel_rfl) (by kernel_rfl) rfl (.inl rfl) (Nat.le_of_ble_eq_true rfl) (by simp only [entry, entryV, C.toS, Nat.zero_add, Nat.reduceAdd, List.map_cons, List.map_nil]; exact rfl) ?_
  repeat' (first
    | ((with_reducible refine z_run ?_); (conv => whnf))
    | (with_reducible apply z_t)
    | (with_reducible apply z_f)
    | ((with_reducible apply z_b); ((intro h); (try simp only [beq_self_eq_true, eq_self, not_true_eq_false, not_false_eq_true, decide_true, cond_true, cond_false, Bool.not_true, Bool.not_false, Bool.not_eq_true', Bool.not_eq_false', Bool.and_eq_true, Bool.and_eq_false_imp, Bool.or_eq_true, Bool.or_eq_false_iff, decide_eq_true_eq, decide_eq_false_iff_not, Bool.false_eq_true, reduceCtorEq, Int.not_le, Int.not_lt, Decidable.not_not] at h)); rotate_left; ((intro h); (try simp only [beq_self_eq_true, eq_self, not_true_eq_false, not_false_eq_true, decide_true, cond_true, cond_false, Bool.not_true, Bool.not_false, Bool.not_eq_true', Bool.not_eq_false', Bool.and_eq_true, Bool.and_eq_false_imp, Bool.or_eq_true, Bool.or_eq_false_iff, decide_eq_true_eq, decide_eq_false_iff_not, Bool.false_eq_true, reduceCtorEq, Int.not_le, Int.not_lt, Decidable.not_not] at h)))
    | (with_reducible refine z_r ?_ ?_)
    | (with_reducible refine z_wg ?_ ?_)
    | (with_reducible refine z_w ?_ ?_)
    | ((with_reducible apply sh_nil); (intro _))
    | ((with_reducible apply sh_int); (intro _))
    | ((with_reducible apply sh_bool); (intro _))
    | ((with_reducible apply sh_sl); (intro _))
    | ((with_reducible refine z_xf ?zc ?zx ?_); (case zc => decide +kernel); (case zx => decide +kernel))
    | (with_reducible refine z_k (within_fn _ _ _) ?_)
    | ((with_reducible refine z_o ?zo ?_); (case zo => decide +kernel))
    | ((with_reducible refine z_x ?zx ?_); (case zx => decide +kernel))
    | ((refine z_mf (d := ?zD) (f := ?zF) (caps := ?zA) (τ := ?zT) (ps := ?zP) (cs := ?zC) ?zd ?ze ?zt ?za ?zp ?zl ?_); (case zd => exact rfl); (case ze => exact rfl); (case zt => (simp only [frzAll, frz, frzL, frzV, frzS, drp, unSs, unS, unsing, ev, Vq.look, List.map_cons, List.map_nil, List.drop_zero, List.drop_succ_cons, Nat.reduceAdd, Nat.zero_add, Option.map_some, Nat.reduceEqDiff, if_true, if_false, reduceCtorEq, ↓reduceIte]; exact rfl)); (case za => exact rfl); (case zp => exact rfl); (case zl => (simp only [unSs, unS, unsing, List.drop_zero, List.drop_succ_cons, Nat.reduceAdd, Nat.zero_add, Option.map_some, List.length_map, fillTo_zero, Int.toNat_natCast, Option.isSome_some, and_self, fixB, Nat.reduceLeDiff, false_implies, true_implies, forall_const, St.le0, St.swaps, St.ren, mapV, renO, V.ren, Sc.ren, Ob.ren, swp, slsLe, obsLe, vLe, scLe, scsLe, obLe, Vq.look, Nat.reduceEqDiff, if_true, if_false, reduceCtorEq, ↓reduceIte, true_and, and_true] <;> (and_intros <;> first | rfl | omega))))
    | fail)
  all_goals ((try simp only [Int.toNat_natCast, tn1, tp1, List.length_map, eq_self, true_and, and_true] at *); (try simp (disch := omega) only [wr, Int.toNat_natCast, tn1, tp1, List.length_map, eq_self, true_and, and_true] at *))
  all_goals (first | (exfalso; omega) | refine z_e rfl ?_; simp only [fin, finP, finM, ids, nodupB, tupP, tupM, memN, List.length_cons, List.length_nil, List.nil_append, List.append_nil, List.cons_append, Nat.zero_add, Nat.reduceAdd, ne_eq, not_false_eq_true, eq_self, ev, Vq.look, List.map_cons, List.map_nil, and_true, true_and, Nat.reduceEqDiff, if_true, if_false, reduceCtorEq, ↓reduceIte])
theorem implTriangleSide (s : Int) (h : 4 ≤ s ∧ s ≤ 100) : FnC Try.prog 121 [(false, [.int .i64 s])] (.one (.int .i64 (s + 7))) := by
  refine fn_z (ty := ty) (ts := [.tmp 2]) [0, 2, 5] mixed ty_ok Try.func121 (by kernel_rfl) rfl (by kernel_rfl) (by kernel_rfl) rfl (.inl rfl) (Nat.le_of_ble_eq_true rfl) (by simp only [entry, entryV, C.toS, Nat.zero_add, Nat.reduceAdd, List.map_cons, List.map_nil]; exact rfl) ?_
  repeat' (first
    | ((with_reducible refine z_run ?_); (conv => whnf))
    | (with_reducible apply z_t)
    | (with_reducible apply z_f)
    | ((with_reducible apply z_b); ((intro h); (try simp only [beq_self_eq_true, eq_self, not_true_eq_false, not_false_eq_true, decide_true, cond_true, cond_false, Bool.not_true, Bool.not_false, Bool.not_eq_true', Bool.not_eq_false', Bool.and_eq_true, Bool.and_eq_false_imp, Bool.or_eq_true, Bool.or_eq_false_iff, decide_eq_true_eq, decide_eq_false_iff_not, Bool.false_eq_true, reduceCtorEq, Int.not_le, Int.not_lt, Decidable.not_not] at h)); rotate_left; ((intro h); (try simp only [beq_self_eq_true, eq_self, not_true_eq_false, not_false_eq_true, decide_true, cond_true, cond_false, Bool.not_true, Bool.not_false, Bool.not_eq_true', Bool.not_eq_false', Bool.and_eq_true, Bool.and_eq_false_imp, Bool.or_eq_true, Bool.or_eq_false_iff, decide_eq_true_eq, decide_eq_false_iff_not, Bool.false_eq_true, reduceCtorEq, Int.not_le, Int.not_lt, Decidable.not_not] at h)))
    | (with_reducible refine z_r ?_ ?_)
    | (with_reducible refine z_wg ?_ ?_)
    | (with_reducible refine z_w ?_ ?_)
    | ((with_reducible apply sh_nil); (intro _))
    | ((with_reducible apply sh_int); (intro _))
    | ((with_reducible apply sh_bool); (intro _))
    | ((with_reducible apply sh_sl); (intro _))
    | ((with_reducible refine z_xf ?zc ?zx ?_); (case zc => decide +kernel); (case zx => decide +kernel))
    | (with_reducible refine z_k (within_fn _ _ _) ?_)
    | ((with_reducible refine z_o ?zo ?_); (case zo => decide +kernel))
    | ((with_reducible refine z_x ?zx ?_); (case zx => decide +kernel))
    | ((refine z_mf (d := ?zD) (f := ?zF) (caps := ?zA) (τ := ?zT) (ps := ?zP) (cs := ?zC) ?zd ?ze ?zt ?za ?zp ?zl ?_); (case zd => exact rfl); (case ze => exact rfl); (case zt => (simp only [frzAll, frz, frzL, frzV, frzS, drp, unSs, unS, unsing, ev, Vq.look, List.map_cons, List.map_nil, List.drop_zero, List.drop_succ_cons, Nat.reduceAdd, Nat.zero_add, Option.map_some, Nat.reduceEqDiff, if_true, if_false, reduceCtorEq, ↓reduceIte]; exact rfl)); (case za => exact rfl); (case zp => exact rfl); (case zl => (simp only [unSs, unS, unsing, List.drop_zero, List.drop_succ_cons, Nat.reduceAdd, Nat.zero_add, Option.map_some, List.length_map, fillTo_zero, Int.toNat_natCast, Option.isSome_some, and_self, fixB, Nat.reduceLeDiff, false_implies, true_implies, forall_const, St.le0, St.swaps, St.ren, mapV, renO, V.ren, Sc.ren, Ob.ren, swp, slsLe, obsLe, vLe, scLe, scsLe, obLe, Vq.look, Nat.reduceEqDiff, if_true, if_false, reduceCtorEq, ↓reduceIte, true_and, and_true] <;> (and_intros <;> first | rfl | omega))))
    | fail)
  all_goals ((try simp only [Int.toNat_natCast, tn1, tp1, List.length_map, eq_self, true_and, and_true] at *); (try simp (disch := omega) only [wr, Int.toNat_natCast, tn1, tp1, List.length_map, eq_self, true_and, and_true] at *))
  all_goals (first | (exfalso; omega) | refine z_e rfl ?_; simp only [fin, finP, finM, ids, nodupB, tupP, tupM, memN, List.length_cons, List.length_nil, List.nil_append, List.append_nil, List.cons_append, Nat.zero_add, Nat.reduceAdd, ne_eq, not_false_eq_true, eq_self, ev, Vq.look, List.map_cons, List.map_nil, and_true, true_and, Nat.reduceEqDiff, if_true, if_false, reduceCtorEq, ↓reduceIte])
theorem implUp2 (a : Int) (h : 0 ≤ a ∧ a ≤ 1000000000) : FnC Try.prog 122 [(false, [.int .i64 a]), (false, [.int .i64 2])] (.one (.int .i64 ((a + 1) / 2))) := by
  refine fn_z (ty := ty) (ts := [.tmp 4]) [0, 1, 4] mixed ty_ok Try.func122 (by kernel_rfl) rfl (by kernel_rfl) (by kernel_rfl) rfl (.inl rfl) (Nat.le_of_ble_eq_true rfl) (by simp only [entry, entryV, C.toS, Nat.zero_add, Nat.reduceAdd, List.map_cons, List.map_nil]; exact rfl) ?_
  repeat' (first
    | ((with_reducible refine z_run ?_); (conv => whnf))
    | (with_reducible apply z_t)
    | (with_reducible apply z_f)
    | ((with_reducible apply z_b); ((intro h); (try simp only [beq_self_eq_true, eq_self, not_true_eq_false, not_false_eq_true, decide_true, cond_true, cond_false, Bool.not_true, Bool.not_false, Bool.not_eq_true', Bool.not_eq_false', Bool.and_eq_true, Bool.and_eq_false_imp, Bool.or_eq_true, Bool.or_eq_false_iff, decide_eq_true_eq, decide_eq_false_iff_not, Bool.false_eq_true, reduceCtorEq, Int.not_le, Int.not_lt, Decidable.not_not] at h)); rotate_left; ((intro h); (try simp only [beq_self_eq_true, eq_self, not_true_eq_false, not_false_eq_true, decide_true, cond_true, cond_false, Bool.not_true, Bool.not_false, Bool.not_eq_true', Bool.not_eq_false', Bool.and_eq_true, Bool.and_eq_false_imp, Bool.or_eq_true, Bool.or_eq_false_iff, decide_eq_true_eq, decide_eq_false_iff_not, Bool.false_eq_true, reduceCtorEq, Int.not_le, Int.not_lt, Decidable.not_not] at h)))
    | (with_reducible refine z_r ?_ ?_)
    | (with_reducible refine z_wg ?_ ?_)
    | (with_reducible refine z_w ?_ ?_)
    | ((with_reducible apply sh_nil); (intro _))
    | ((with_reducible apply sh_int); (intro _))
    | ((with_reducible apply sh_bool); (intro _))
    | ((with_reducible apply sh_sl); (intro _))
    | ((with_reducible refine z_xf ?zc ?zx ?_); (case zc => decide +kernel); (case zx => decide +kernel))
    | ((with_reducible refine z_o ?zo ?_); (case zo => decide +kernel))
    | ((with_reducible refine z_x ?zx ?_); (case zx => decide +kernel))
    | ((refine z_mf (d := ?zD) (f := ?zF) (caps := ?zA) (τ := ?zT) (ps := ?zP) (cs := ?zC) ?zd ?ze ?zt ?za ?zp ?zl ?_); (case zd => exact rfl); (case ze => exact rfl); (case zt => (simp only [frzAll, frz, frzL, frzV, frzS, drp, unSs, unS, unsing, ev, Vq.look, List.map_cons, List.map_nil, List.drop_zero, List.drop_succ_cons, Nat.reduceAdd, Nat.zero_add, Option.map_some, Nat.reduceEqDiff, if_true, if_false, reduceCtorEq, ↓reduceIte]; exact rfl)); (case za => exact rfl); (case zp => exact rfl); (case zl => (simp only [unSs, unS, unsing, List.drop_zero, List.drop_succ_cons, Nat.reduceAdd, Nat.zero_add, Option.map_some, List.length_map, fillTo_zero, Int.toNat_natCast, Option.isSome_some, and_self, fixB, Nat.reduceLeDiff, false_implies, true_implies, forall_const, St.le0, St.swaps, St.ren, mapV, renO, V.ren, Sc.ren, Ob.ren, swp, slsLe, obsLe, vLe, scLe, scsLe, obLe, Vq.look, Nat.reduceEqDiff, if_true, if_false, reduceCtorEq, ↓reduceIte, true_and, and_true] <;> (and_intros <;> first | rfl | omega))))
    | fail)
  all_goals ((try simp only [Int.toNat_natCast, tn1, tp1, List.length_map, eq_self, true_and, and_true] at *); (try simp (disch := omega) only [wr, Int.toNat_natCast, tn1, tp1, List.length_map, eq_self, true_and, and_true] at *))
  all_goals (first | omega | (refine z_e rfl ?_; simp only [fin, finP, finM, ids, nodupB, tupP, tupM, memN, List.length_cons, List.length_nil, List.nil_append, List.append_nil, List.cons_append, Nat.zero_add, Nat.reduceAdd, ne_eq, not_false_eq_true, eq_self, ev, Vq.look, List.map_cons, List.map_nil, and_true, true_and, Nat.reduceEqDiff, if_true, if_false, reduceCtorEq, ↓reduceIte]; rw [Int.tdiv_eq_ediv_of_nonneg (by omega), wr ⟨by omega, by omega⟩]; omega) | (trace_state; fail))
theorem implSeamsFor (w g : Int) (sp : List TSpot) (bs : List TBlk) (s : Int) (hl : sp.length + bs.length + cellsN bs ≤ 1048576) (ho : ordOkP w g sp bs s) : FnC Try.prog 61 [aO w g sp bs s] (.one (.int .i64 (pcR w g sp bs s - 1))) := by
  have hq : qOk w g sp bs := ho.1
  have hsb := shS_bd hq pcN (fun b hb => pcN_bd hb) sp.length (Nat.le_refl _)
  have hsl := qOk_len hq
  have e : pcR w g sp bs s = shS pcN sp bs sp.length := by rw [pcR, if_pos ho]
  refine fn_z (ty := ty) (ts := [.tmp 2]) [0, 1, 2, 5] mixed ty_ok Try.func61 (by kernel_rfl) rfl (by kernel_rfl) (by kernel_rfl) rfl (.inl rfl) (Nat.le_of_ble_eq_true rfl) (by simp only [entry, entryV, C.toS, Nat.zero_add, Nat.reduceAdd, List.map_cons, List.map_nil]; exact rfl) ?_
  repeat' (first
    | ((with_reducible refine z_run ?_); (conv => whnf))
    | (with_reducible apply z_t)
    | (with_reducible apply z_f)
    | ((with_reducible apply z_b); ((intro h); (try simp only [beq_self_eq_true, eq_self, not_true_eq_false, not_false_eq_true, decide_true, cond_true, cond_false, Bool.not_true, Bool.not_false, Bool.not_eq_true', Bool.not_eq_false', Bool.and_eq_true, Bool.and_eq_false_imp, Bool.or_eq_true, Bool.or_eq_false_iff, decide_eq_true_eq, decide_eq_false_iff_not, Bool.false_eq_true, reduceCtorEq, Int.not_le, Int.not_lt, Decidable.not_not] at h)); rotate_left; ((intro h); (try simp only [beq_self_eq_true, eq_self, not_true_eq_false, not_false_eq_true, decide_true, cond_true, cond_false, Bool.not_true, Bool.not_false, Bool.not_eq_true', Bool.not_eq_false', Bool.and_eq_true, Bool.and_eq_false_imp, Bool.or_eq_true, Bool.or_eq_false_iff, decide_eq_true_eq, decide_eq_false_iff_not, Bool.false_eq_true, reduceCtorEq, Int.not_le, Int.not_lt, Decidable.not_not] at h)))
    | (with_reducible refine z_r ?_ ?_)
    | (with_reducible refine z_wg ?_ ?_)
    | (with_reducible refine z_w ?_ ?_)
    | ((with_reducible apply sh_nil); (intro _))
    | ((with_reducible apply sh_int); (intro _))
    | ((with_reducible apply sh_bool); (intro _))
    | ((with_reducible apply sh_sl); (intro _))
    | ((with_reducible refine z_xf ?zc ?zx ?_); (case zc => decide +kernel); (case zx => decide +kernel))
    | (with_reducible refine z_k (implOrderOk _ _ _ _ _ hl) ?_)
    | (with_reducible refine z_k (implPiecesFor _ _ _ _ _ hl) ?_)
    | ((with_reducible refine z_o ?zo ?_); (case zo => decide +kernel))
    | ((with_reducible refine z_x ?zx ?_); (case zx => decide +kernel))
    | ((refine z_mf (d := ?zD) (f := ?zF) (caps := ?zA) (τ := ?zT) (ps := ?zP) (cs := ?zC) ?zd ?ze ?zt ?za ?zp ?zl ?_); (case zd => exact rfl); (case ze => exact rfl); (case zt => (simp only [frzAll, frz, frzL, frzV, frzS, drp, unSs, unS, unsing, ev, Vq.look, List.map_cons, List.map_nil, List.drop_zero, List.drop_succ_cons, Nat.reduceAdd, Nat.zero_add, Option.map_some, Nat.reduceEqDiff, if_true, if_false, reduceCtorEq, ↓reduceIte]; exact rfl)); (case za => exact rfl); (case zp => exact rfl); (case zl => (simp only [unSs, unS, unsing, List.drop_zero, List.drop_succ_cons, Nat.reduceAdd, Nat.zero_add, Option.map_some, List.length_map, fillTo_zero, Int.toNat_natCast, Option.isSome_some, and_self, fixB, Nat.reduceLeDiff, false_implies, true_implies, forall_const, St.le0, St.swaps, St.ren, mapV, renO, V.ren, Sc.ren, Ob.ren, swp, slsLe, obsLe, vLe, scLe, scsLe, obLe, Vq.look, Nat.reduceEqDiff, if_true, if_false, reduceCtorEq, ↓reduceIte, true_and, and_true] <;> (and_intros <;> first | rfl | omega))))
    | fail)
  all_goals ((try simp only [Int.toNat_natCast, tn1, tp1, List.length_map, eq_self, true_and, and_true] at *); (try simp (disch := omega) only [wr, Int.toNat_natCast, tn1, tp1, List.length_map, eq_self, true_and, and_true] at *))
  all_goals (first
    | contradiction
    | (refine z_e rfl ?_; simp only [fin, finP, finM, ids, nodupB, tupP, tupM, memN, List.length_cons, List.length_nil, List.nil_append, List.append_nil, List.cons_append, Nat.zero_add, Nat.reduceAdd, ne_eq, not_false_eq_true, eq_self, ev, Vq.look, List.map_cons, List.map_nil, and_true, true_and, Nat.reduceEqDiff, if_true, if_false, reduceCtorEq, ↓reduceIte]; (try rw [wr ⟨by omega, by omega⟩]); done)
    | (trace_state; fail))
theorem shown_fz (w g : Int) (sp : List TSpot) (bs : List TBlk) (hl : sp.length + bs.length + cellsN bs ≤ 1048576) (hq : qOk w g sp bs) : FnC Try.prog 83 [aQ w g sp, aBs bs] (.one (.fz dBlk ((shL sp bs sp.length).map eBlk))) := by
  have h := shown_fn w g sp bs hl hq
  refine ⟨h.cal, h.fn.weak ?_⟩
  simp only [List.length_map, fillTo_zero, Int.toNat_natCast, Option.isSome_some, and_self, fixB, Nat.reduceLeDiff, false_implies, true_implies, forall_const, St.le0, St.swaps, St.ren, mapV, renO, V.ren, Sc.ren, Ob.ren, swp, slsLe, obsLe, vLe, scLe, scsLe, obLe, Vq.look, Nat.reduceEqDiff, if_true, if_false, reduceCtorEq, ↓reduceIte, true_and, and_true, Rs.V, Rs.O, scsOf, obsOf]
theorem implClothFor (w g : Int) (sp : List TSpot) (bs : List TBlk) (s : Int) (hl : sp.length + bs.length + cellsN bs ≤ 1048576) (ho : ordOkP w g sp bs s) : FnC Try.prog 59 [aO w g sp bs s] (.one (.own 3 dI ((clothK sp bs s 6).map eI))) := by
  have hq : qOk w g sp bs := ho.1
  have hs := ho.2
  have hsl := qOk_len hq
  have hshl := shL_len sp bs (Nat.le_refl sp.length)
  refine fn_z (ty := ty) (ts := [.tmp 2]) [0, 1, 2, 3, 4, 6, 8, 9, 10, 13, 20, 21, 22, 23, 27, 28, 29, 30, 35, 82, 83, 84] mixed ty_ok Try.func59 (by kernel_rfl) rfl (by kernel_rfl) (by kernel_rfl) rfl (.inl rfl) (Nat.le_of_ble_eq_true rfl) (by simp only [entry, entryV, C.toS, Nat.zero_add, Nat.reduceAdd, List.map_cons, List.map_nil]; exact rfl) ?_
  repeat' (first
    | ((with_reducible refine z_run ?_); (conv => whnf))
    | (with_reducible apply z_t)
    | (with_reducible apply z_f)
    | ((with_reducible apply z_b); ((intro h); (try simp only [beq_self_eq_true, eq_self, not_true_eq_false, not_false_eq_true, decide_true, cond_true, cond_false, Bool.not_true, Bool.not_false, Bool.not_eq_true', Bool.not_eq_false', Bool.and_eq_true, Bool.and_eq_false_imp, Bool.or_eq_true, Bool.or_eq_false_iff, decide_eq_true_eq, decide_eq_false_iff_not, Bool.false_eq_true, reduceCtorEq, Int.not_le, Int.not_lt, Decidable.not_not] at h)); rotate_left; ((intro h); (try simp only [beq_self_eq_true, eq_self, not_true_eq_false, not_false_eq_true, decide_true, cond_true, cond_false, Bool.not_true, Bool.not_false, Bool.not_eq_true', Bool.not_eq_false', Bool.and_eq_true, Bool.and_eq_false_imp, Bool.or_eq_true, Bool.or_eq_false_iff, decide_eq_true_eq, decide_eq_false_iff_not, Bool.false_eq_true, reduceCtorEq, Int.not_le, Int.not_lt, Decidable.not_not] at h)))
    | (with_reducible refine z_r ?_ ?_)
    | (with_reducible refine z_wg ?_ ?_)
    | (with_reducible refine z_w ?_ ?_)
    | ((with_reducible apply sh_nil); (intro _))
    | ((with_reducible apply sh_int); (intro _))
    | ((with_reducible apply sh_bool); (intro _))
    | ((with_reducible apply sh_sl); (intro _))
    | ((with_reducible refine z_xf ?zc ?zx ?_); (case zc => decide +kernel); (case zx => decide +kernel))
    | (with_reducible refine z_k (implOrderOk _ _ _ _ _ hl) ?_)
    | (with_reducible refine z_k (shown_fz _ _ _ _ hl hq) ?_)
    | (refine z_xd [[0, 2, 1, 3], [1, 0, 2, 3]] (by decide +kernel) ?_ ?_ ?_)
    | exact allP_n
    | (refine allP_c ?_ ?_)
    | ((refine z_sn0 ?_); (simp only [List.length_map, fillTo_zero, Int.toNat_natCast, Option.isSome_some, and_self, fixB, Nat.reduceLeDiff, false_implies, true_implies, forall_const, St.le0, St.swaps, St.ren, mapV, renO, V.ren, Sc.ren, Ob.ren, swp, slsLe, obsLe, vLe, scLe, scsLe, obLe, Vq.look, Nat.reduceEqDiff, if_true, if_false, reduceCtorEq, ↓reduceIte, true_and, and_true] <;> (and_intros <;> first | rfl | omega | assumption); done))
    | ((refine z_sn ?_); (simp only [List.length_map, fillTo_zero, Int.toNat_natCast, Option.isSome_some, and_self, fixB, Nat.reduceLeDiff, false_implies, true_implies, forall_const, St.le0, St.swaps, St.ren, mapV, renO, V.ren, Sc.ren, Ob.ren, swp, slsLe, obsLe, vLe, scLe, scsLe, obLe, Vq.look, Nat.reduceEqDiff, if_true, if_false, reduceCtorEq, ↓reduceIte, true_and, and_true] <;> (and_intros <;> first | rfl | omega | assumption); done))
    | ((with_reducible refine z_o ?zo ?_); (case zo => decide +kernel))
    | ((with_reducible refine z_x ?zx ?_); (case zx => decide +kernel))
    | ((refine z_mf (d := ?zD) (f := ?zF) (caps := ?zA) (τ := ?zT) (ps := ?zP) (cs := ?zC) ?zd ?ze ?zt ?za ?zp ?zl ?_); (case zd => exact rfl); (case ze => exact rfl); (case zt => (simp only [frzAll, frz, frzL, frzV, frzS, drp, unSs, unS, unsing, ev, Vq.look, List.map_cons, List.map_nil, List.drop_zero, List.drop_succ_cons, Nat.reduceAdd, Nat.zero_add, Option.map_some, Nat.reduceEqDiff, if_true, if_false, reduceCtorEq, ↓reduceIte]; exact rfl)); (case za => exact rfl); (case zp => exact rfl); (case zl => (simp only [unSs, unS, unsing, List.drop_zero, List.drop_succ_cons, Nat.reduceAdd, Nat.zero_add, Option.map_some, List.length_map, fillTo_zero, Int.toNat_natCast, Option.isSome_some, and_self, fixB, Nat.reduceLeDiff, false_implies, true_implies, forall_const, St.le0, St.swaps, St.ren, mapV, renO, V.ren, Sc.ren, Ob.ren, swp, slsLe, obsLe, vLe, scLe, scsLe, obLe, Vq.look, Nat.reduceEqDiff, if_true, if_false, reduceCtorEq, ↓reduceIte, true_and, and_true] <;> (and_intros <;> first | rfl | omega))))
    | fail)
  all_goals ((try simp only [Int.toNat_natCast, tn1, tp1, List.length_map, eq_self, true_and, and_true] at *); (try simp (disch := omega) only [wr, Int.toNat_natCast, tn1, tp1, List.length_map, eq_self, true_and, and_true] at *))
  all_goals (first
    | contradiction
    | omega
    | skip)
  have hX := cutX_bd hs
  have hY := triY_bd hs
  refine z_li (fun k : Nat => k ≤ sp.length) (0 : Nat) (fun k => sp.length - k) (fun k => ⟨[(1, .one (.bx 1 0)), (3, .one (.root 14)), (4, .one (.root 15)), (20, .one (.ro dBlk ((shL sp bs sp.length).map eBlk))), (21, .one (.int .i64 (shL sp bs sp.length).length)), (22, .one (.int .i64 k))], [(14, .row 3 dI ((mulL (cutX s) (Wn sp bs k)).map eI)), (15, .row 3 dI ((mulL (triY s) (Hn sp bs k)).map eI)), (1, .box [.int .i64 w, .int .i64 g, .ro dSpot (sp.map eSpot), .ro dBlk (bs.map eBlk), .int .i64 s])]⟩) (by omega) ?_ ?_
  · rw [show mulL (cutX s) (Wn sp bs 0) = [0, 0, 0, 0, 0, 0] by simp [mulL, Wn, shS, shL]; rfl, show mulL (triY s) (Hn sp bs 0) = [0, 0, 0, 0, 0, 0] by simp [mulL, Hn, shS, shL]; rfl]; simp only [List.length_map, fillTo_zero, Int.toNat_natCast, Option.isSome_some, and_self, fixB, Nat.reduceLeDiff, false_implies, true_implies, forall_const, St.le0, St.swaps, St.ren, mapV, renO, V.ren, Sc.ren, Ob.ren, swp, slsLe, obsLe, vLe, scLe, scsLe, obLe, Vq.look, Nat.reduceEqDiff, if_true, if_false, reduceCtorEq, ↓reduceIte, true_and, and_true] <;> (and_intros <;> first | rfl | omega | assumption)
  · intro k hk
    by_cases hlt : k < sp.length
    · have hsp := qOk_spot hq hlt
      have hok := (seenB_ok (qOk_blk hq (i := (sp.getD k default).1.toNat) (by omega)) hsp.2).1
      have hge := shL_get bs hlt
      rw [← hge] at hok
      have hl16 := blk_len hok
      generalize hB : (shL sp bs sp.length).getD k default = B at *
      have hWb := fun a => Wn_bd hq a k hk
      have hHb := fun a => Hn_bd hq a k hk
      have hWs := fun a => shS_succ (fun b => sumP (phW a) b.2) bs hlt
      have hHs := fun a => shS_succ (fun b => sumP (phH a) b.2) bs hlt
      rw [← hge] at hWs hHs
      repeat' (first
    | ((with_reducible refine z_run ?_); (conv => whnf))
    | (with_reducible apply z_t)
    | (with_reducible apply z_f)
    | ((with_reducible apply z_b); ((intro h); (try simp only [beq_self_eq_true, eq_self, not_true_eq_false, not_false_eq_true, decide_true, cond_true, cond_false, Bool.not_true, Bool.not_false, Bool.not_eq_true', Bool.not_eq_false', Bool.and_eq_true, Bool.and_eq_false_imp, Bool.or_eq_true, Bool.or_eq_false_iff, decide_eq_true_eq, decide_eq_false_iff_not, Bool.false_eq_true, reduceCtorEq, Int.not_le, Int.not_lt, Decidable.not_not] at h)); rotate_left; ((intro h); (try simp only [beq_self_eq_true, eq_self, not_true_eq_false, not_false_eq_true, decide_true, cond_true, cond_false, Bool.not_true, Bool.not_false, Bool.not_eq_true', Bool.not_eq_false', Bool.and_eq_true, Bool.and_eq_false_imp, Bool.or_eq_true, Bool.or_eq_false_iff, decide_eq_true_eq, decide_eq_false_iff_not, Bool.false_eq_true, reduceCtorEq, Int.not_le, Int.not_lt, Decidable.not_not] at h)))
    | (with_reducible refine z_r ?_ ?_)
    | (with_reducible refine z_wg ?_ ?_)
    | (with_reducible refine z_w ?_ ?_)
    | ((with_reducible apply sh_nil); (intro _))
    | ((with_reducible apply sh_int); (intro _))
    | ((with_reducible apply sh_bool); (intro _))
    | ((with_reducible apply sh_sl); (intro _))
    | ((with_reducible refine z_xf ?zc ?zx ?_); (case zc => decide +kernel); (case zx => decide +kernel))
    | ((with_reducible refine z_o ?zo ?_); (case zo => decide +kernel))
    | ((with_reducible refine z_x ?zx ?_); (case zx => decide +kernel))
    | ((refine z_mf (d := ?zD) (f := ?zF) (caps := ?zA) (τ := ?zT) (ps := ?zP) (cs := ?zC) ?zd ?ze ?zt ?za ?zp ?zl ?_); (case zd => exact rfl); (case ze => exact rfl); (case zt => (simp only [frzAll, frz, frzL, frzV, frzS, drp, unSs, unS, unsing, ev, Vq.look, List.map_cons, List.map_nil, List.drop_zero, List.drop_succ_cons, Nat.reduceAdd, Nat.zero_add, Option.map_some, Nat.reduceEqDiff, if_true, if_false, reduceCtorEq, ↓reduceIte]; exact rfl)); (case za => exact rfl); (case zp => exact rfl); (case zl => (simp only [unSs, unS, unsing, List.drop_zero, List.drop_succ_cons, Nat.reduceAdd, Nat.zero_add, Option.map_some, List.length_map, fillTo_zero, Int.toNat_natCast, Option.isSome_some, and_self, fixB, Nat.reduceLeDiff, false_implies, true_implies, forall_const, St.le0, St.swaps, St.ren, mapV, renO, V.ren, Sc.ren, Ob.ren, swp, slsLe, obsLe, vLe, scLe, scsLe, obLe, Vq.look, Nat.reduceEqDiff, if_true, if_false, reduceCtorEq, ↓reduceIte, true_and, and_true] <;> (and_intros <;> first | rfl | omega))))
    | fail)
      all_goals ((try simp only [Int.toNat_natCast, tn1, tp1, List.length_map, eq_self, true_and, and_true] at *); (try simp (disch := omega) only [wr, Int.toNat_natCast, tn1, tp1, List.length_map, eq_self, true_and, and_true] at *))
      all_goals (try rw [hB] at *)
      all_goals (first
        | omega
        | skip)
      refine z_li (fun i : Nat => i ≤ B.2.length) (0 : Nat) (fun i => B.2.length - i) (fun i => ⟨[(1, .one (.bx 1 0)), (3, .one (.root 14)), (4, .one (.root 15)), (20, .one (.ro dBlk ((shL sp bs sp.length).map eBlk))), (21, .one (.int .i64 (shL sp bs sp.length).length)), (22, .one (.int .i64 k)), (27, .one (.ro dCell (B.2.map eCell))), (28, .one (.int .i64 B.2.length)), (29, .one (.int .i64 i))], [(14, .row 3 dI ((mulL (cutX s) (fun a => Wn sp bs k a + sumP (phW a) (B.2.take i))).map eI)), (15, .row 3 dI ((mulL (triY s) (fun a => Hn sp bs k a + sumP (phH a) (B.2.take i))).map eI)), (1, .box [.int .i64 w, .int .i64 g, .ro dSpot (sp.map eSpot), .ro dBlk (bs.map eBlk), .int .i64 s])]⟩) (by omega) ?_ ?_
      · rw [show mulL (cutX s) (fun a => Wn sp bs k a + sumP (phW a) (B.2.take 0)) = mulL (cutX s) (Wn sp bs k) from mulL_congr _ fun a _ => by simp [sumP], show mulL (triY s) (fun a => Hn sp bs k a + sumP (phH a) (B.2.take 0)) = mulL (triY s) (Hn sp bs k) from mulL_congr _ fun a _ => by simp [sumP]]; simp only [List.length_map, fillTo_zero, Int.toNat_natCast, Option.isSome_some, and_self, fixB, Nat.reduceLeDiff, false_implies, true_implies, forall_const, St.le0, St.swaps, St.ren, mapV, renO, V.ren, Sc.ren, Ob.ren, swp, slsLe, obsLe, vLe, scLe, scsLe, obLe, Vq.look, Nat.reduceEqDiff, if_true, if_false, reduceCtorEq, ↓reduceIte, true_and, and_true] <;> (and_intros <;> first | rfl | omega | assumption)
      · intro i hi
        by_cases hlt2 : i < B.2.length
        · have hck := blk_get hok hlt2
          have hA := hck.2.1
          have hBb := hck.2.2.1
          have hwl := mulL_len (cutX s) (fun a => Wn sp bs k a + sumP (phW a) (B.2.take i))
          have hhl := mulL_len (triY s) (fun a => Hn sp bs k a + sumP (phH a) (B.2.take i))
          have sW := fun a => sumP_take (φ := phW a) hlt2
          have sH := fun a => sumP_take (φ := phH a) hlt2
          have bW : ∀ a, 0 ≤ Wn sp bs k a + sumP (phW a) (B.2.take i) ∧ Wn sp bs k a + sumP (phW a) (B.2.take i) ≤ 592 := fun a => by
            have h1 := hWb a
            have h2 := sumP_bds (phW_bd a) (B.2.take i)
            rw [List.length_take] at h2; omega
          have bH : ∀ a, 0 ≤ Hn sp bs k a + sumP (phH a) (B.2.take i) ∧ Hn sp bs k a + sumP (phH a) (B.2.take i) ≤ 1184 := fun a => by
            have h1 := hHb a
            have h2 := sumP_bds (phH_bd a) (B.2.take i)
            rw [List.length_take] at h2; omega
          have pX : ∀ a, 0 ≤ cutX s * (Wn sp bs k a + sumP (phW a) (B.2.take i)) ∧ cutX s * (Wn sp bs k a + sumP (phW a) (B.2.take i)) ≤ 10816 * 592 := fun a => ⟨Int.mul_nonneg (by omega) (bW a).1, Int.mul_le_mul hX.2 (bW a).2 (bW a).1 (by omega)⟩
          have pY : ∀ a, 0 ≤ triY s * (Hn sp bs k a + sumP (phH a) (B.2.take i)) ∧ triY s * (Hn sp bs k a + sumP (phH a) (B.2.take i)) ≤ 11449 * 1184 := fun a => ⟨Int.mul_nonneg (by omega) (bH a).1, Int.mul_le_mul hY.2 (bH a).2 (bH a).1 (by omega)⟩
          have wX : IntKind.i64.wrap ((s + 4) * (s + 4)) = cutX s := wr (x := cutX s) ⟨by omega, by omega⟩
          have wY : IntKind.i64.wrap ((s + 7) * (s + 7)) = triY s := wr (x := triY s) ⟨by omega, by omega⟩
          have cW : (B.2.getD i default).1 = 0 → ((mulL (cutX s) (fun a => Wn sp bs k a + sumP (phW a) (B.2.take i))).map eI).set (B.2.getD i default).2.1.toNat [C.int .i64 (IntKind.i64.wrap ((mulL (cutX s) (fun a => Wn sp bs k a + sumP (phW a) (B.2.take i))).getD (B.2.getD i default).2.1.toNat default + IntKind.i64.wrap ((s + 4) * (s + 4))))] = (mulL (cutX s) (fun a => Wn sp bs k a + sumP (phW a) (B.2.take (i + 1)))).map eI := fun h0 => by
            have p1 := pX (B.2.getD i default).2.1.toNat
            rw [wX, mulL_get _ _ (by omega), wr ⟨by omega, by omega⟩]
            have := mulL_set (cutX s) (fun a => Wn sp bs k a + sumP (phW a) (B.2.take i)) (fun a => Wn sp bs k a + sumP (phW a) (B.2.take (i + 1))) (j := (B.2.getD i default).2.1.toNat) (fun a ha => by
              rw [sW a, phW]
              by_cases e : (B.2.getD i default).2.1 = (a : Int)
              · rw [if_pos ⟨h0, e⟩, if_pos (by omega)]; omega
              · rw [if_neg (fun hh => e hh.2), if_neg (by omega)]; omega)
            rw [← this, ← set_map]; rfl
          have cH : (B.2.getD i default).1 = 0 → mulL (triY s) (fun a => Hn sp bs k a + sumP (phH a) (B.2.take i)) = mulL (triY s) (fun a => Hn sp bs k a + sumP (phH a) (B.2.take (i + 1))) := fun h0 => mulL_congr _ fun a _ => by
            rw [sH a, phH, if_pos h0]; omega
          have dW : ¬ (B.2.getD i default).1 = 0 → mulL (cutX s) (fun a => Wn sp bs k a + sumP (phW a) (B.2.take i)) = mulL (cutX s) (fun a => Wn sp bs k a + sumP (phW a) (B.2.take (i + 1))) := fun h0 => mulL_congr _ fun a _ => by
            rw [sW a, phW, if_neg (fun hh => h0 hh.1)]; omega
          have dH : ¬ (B.2.getD i default).1 = 0 → ∀ n : Int, (((mulL (triY s) (fun a => Hn sp bs k a + sumP (phH a) (B.2.take i))).map eI).set (B.2.getD i default).2.1.toNat [C.int .i64 (IntKind.i64.wrap ((mulL (triY s) (fun a => Hn sp bs k a + sumP (phH a) (B.2.take i))).getD (B.2.getD i default).2.1.toNat default + IntKind.i64.wrap ((s + 7) * (s + 7))))])[(B.2.getD i default).2.2.toNat]? = some [C.int .i64 n] → (((mulL (triY s) (fun a => Hn sp bs k a + sumP (phH a) (B.2.take i))).map eI).set (B.2.getD i default).2.1.toNat [C.int .i64 (IntKind.i64.wrap ((mulL (triY s) (fun a => Hn sp bs k a + sumP (phH a) (B.2.take i))).getD (B.2.getD i default).2.1.toNat default + IntKind.i64.wrap ((s + 7) * (s + 7))))]).set (B.2.getD i default).2.2.toNat [C.int .i64 (IntKind.i64.wrap (n + IntKind.i64.wrap ((s + 7) * (s + 7))))] = (mulL (triY s) (fun a => Hn sp bs k a + sumP (phH a) (B.2.take (i + 1)))).map eI := fun h0 n hn => by
            have hne : (B.2.getD i default).2.1 ≠ (B.2.getD i default).2.2 := fun e => h0 (hck.2.2.2.2 e)
            have e1 := set_get_ne (by omega) (by omega) hn
            have p1 := pY (B.2.getD i default).2.1.toNat
            have p2 := pY (B.2.getD i default).2.2.toNat
            rw [mulL_get _ _ (by omega)] at e1
            rw [e1, wY, mulL_get _ _ (by omega), wr (x := triY s * (Hn sp bs k (B.2.getD i default).2.1.toNat + sumP (phH (B.2.getD i default).2.1.toNat) (B.2.take i)) + triY s) ⟨by omega, by omega⟩, wr (x := triY s * (Hn sp bs k (B.2.getD i default).2.2.toNat + sumP (phH (B.2.getD i default).2.2.toNat) (B.2.take i)) + triY s) ⟨by omega, by omega⟩]
            have s1 := mulL_set (triY s) (fun a => Hn sp bs k a + sumP (phH a) (B.2.take i)) (fun a => Hn sp bs k a + sumP (phH a) (B.2.take i) + if a = (B.2.getD i default).2.1.toNat then 1 else 0) (j := (B.2.getD i default).2.1.toNat) (fun a ha => rfl)
            have s2 := mulL_set (triY s) (fun a => Hn sp bs k a + sumP (phH a) (B.2.take i) + if a = (B.2.getD i default).2.1.toNat then 1 else 0) (fun a => Hn sp bs k a + sumP (phH a) (B.2.take (i + 1))) (j := (B.2.getD i default).2.2.toNat) (fun a ha => by
              rw [sH a, phH, if_neg h0]
              have ea : ((B.2.getD i default).2.1 = (a : Int)) ↔ a = (B.2.getD i default).2.1.toNat := by omega
              have eb : ((B.2.getD i default).2.2 = (a : Int)) ↔ a = (B.2.getD i default).2.2.toNat := by omega
              simp only [ea, eb]; omega)
            rw [if_neg (show ¬ (B.2.getD i default).2.2.toNat = (B.2.getD i default).2.1.toNat by omega), Int.add_zero] at s2
            rw [← s2, ← s1, ← set_map, ← set_map]; rfl
          repeat' (first
    | ((with_reducible refine z_run ?_); (conv => whnf))
    | (with_reducible apply z_t)
    | (with_reducible apply z_f)
    | ((with_reducible apply z_b); ((intro h); (try simp only [beq_self_eq_true, eq_self, not_true_eq_false, not_false_eq_true, decide_true, cond_true, cond_false, Bool.not_true, Bool.not_false, Bool.not_eq_true', Bool.not_eq_false', Bool.and_eq_true, Bool.and_eq_false_imp, Bool.or_eq_true, Bool.or_eq_false_iff, decide_eq_true_eq, decide_eq_false_iff_not, Bool.false_eq_true, reduceCtorEq, Int.not_le, Int.not_lt, Decidable.not_not] at h)); rotate_left; ((intro h); (try simp only [beq_self_eq_true, eq_self, not_true_eq_false, not_false_eq_true, decide_true, cond_true, cond_false, Bool.not_true, Bool.not_false, Bool.not_eq_true', Bool.not_eq_false', Bool.and_eq_true, Bool.and_eq_false_imp, Bool.or_eq_true, Bool.or_eq_false_iff, decide_eq_true_eq, decide_eq_false_iff_not, Bool.false_eq_true, reduceCtorEq, Int.not_le, Int.not_lt, Decidable.not_not] at h)))
    | (with_reducible refine z_r ?_ ?_)
    | (with_reducible refine z_wg ?_ ?_)
    | (with_reducible refine z_w ?_ ?_)
    | ((with_reducible apply sh_nil); (intro _))
    | ((with_reducible apply sh_int); (intro _))
    | ((with_reducible apply sh_bool); (intro _))
    | ((with_reducible apply sh_sl); (intro _))
    | ((with_reducible refine z_xf ?zc ?zx ?_); (case zc => decide +kernel); (case zx => decide +kernel))
    | (with_reducible refine z_k (implCutSize _ hs) ?_)
    | (with_reducible refine z_k (implTriangleSide _ hs) ?_)
    | ((with_reducible refine z_o ?zo ?_); (case zo => decide +kernel))
    | ((with_reducible refine z_x ?zx ?_); (case zx => decide +kernel))
    | ((refine z_mf (d := ?zD) (f := ?zF) (caps := ?zA) (τ := ?zT) (ps := ?zP) (cs := ?zC) ?zd ?ze ?zt ?za ?zp ?zl ?_); (case zd => exact rfl); (case ze => exact rfl); (case zt => (simp only [frzAll, frz, frzL, frzV, frzS, drp, unSs, unS, unsing, ev, Vq.look, List.map_cons, List.map_nil, List.drop_zero, List.drop_succ_cons, Nat.reduceAdd, Nat.zero_add, Option.map_some, Nat.reduceEqDiff, if_true, if_false, reduceCtorEq, ↓reduceIte]; exact rfl)); (case za => exact rfl); (case zp => exact rfl); (case zl => (simp only [unSs, unS, unsing, List.drop_zero, List.drop_succ_cons, Nat.reduceAdd, Nat.zero_add, Option.map_some, List.length_map, fillTo_zero, Int.toNat_natCast, Option.isSome_some, and_self, fixB, Nat.reduceLeDiff, false_implies, true_implies, forall_const, St.le0, St.swaps, St.ren, mapV, renO, V.ren, Sc.ren, Ob.ren, swp, slsLe, obsLe, vLe, scLe, scsLe, obLe, Vq.look, Nat.reduceEqDiff, if_true, if_false, reduceCtorEq, ↓reduceIte, true_and, and_true] <;> (and_intros <;> first | rfl | omega))))
    | fail)
          all_goals ((try simp only [Int.toNat_natCast, tn1, tp1, List.length_map, eq_self, true_and, and_true] at *); (try simp (disch := omega) only [wr, Int.toNat_natCast, tn1, tp1, List.length_map, eq_self, true_and, and_true] at *))
          all_goals (first
            | omega
            | (simp only [List.length_map, List.length_set, hwl, hhl]; omega)
            | (refine z_n (i + 1) ⟨by omega, by omega⟩ ?_; rw [cW h, cH h]; simp only [List.length_map, fillTo_zero, Int.toNat_natCast, Option.isSome_some, and_self, fixB, Nat.reduceLeDiff, false_implies, true_implies, forall_const, St.le0, St.swaps, St.ren, mapV, renO, V.ren, Sc.ren, Ob.ren, swp, slsLe, obsLe, vLe, scLe, scsLe, obLe, Vq.look, Nat.reduceEqDiff, if_true, if_false, reduceCtorEq, ↓reduceIte, true_and, and_true] <;> (and_intros <;> first | rfl | omega | assumption); done)
            | (have e := dH h _ (by assumption)
               refine z_n (i + 1) ⟨by omega, by omega⟩ ?_; rw [e, dW h]; simp only [List.length_map, fillTo_zero, Int.toNat_natCast, Option.isSome_some, and_self, fixB, Nat.reduceLeDiff, false_implies, true_implies, forall_const, St.le0, St.swaps, St.ren, mapV, renO, V.ren, Sc.ren, Ob.ren, swp, slsLe, obsLe, vLe, scLe, scsLe, obLe, Vq.look, Nat.reduceEqDiff, if_true, if_false, reduceCtorEq, ↓reduceIte, true_and, and_true] <;> (and_intros <;> first | rfl | omega | assumption); done)
            | (trace_state; fail))
        · have hfull : B.2.take i = B.2 := List.take_of_length_le (by omega)
          have eW : (fun a => Wn sp bs k a + sumP (phW a) (B.2.take i)) = Wn sp bs (k + 1) := by
            funext a; rw [hfull]; exact (hWs a).symm
          have eH : (fun a => Hn sp bs k a + sumP (phH a) (B.2.take i)) = Hn sp bs (k + 1) := by
            funext a; rw [hfull]; exact (hHs a).symm
          repeat' (first
    | ((with_reducible refine z_run ?_); (conv => whnf))
    | (with_reducible apply z_t)
    | (with_reducible apply z_f)
    | ((with_reducible apply z_b); ((intro h); (try simp only [beq_self_eq_true, eq_self, not_true_eq_false, not_false_eq_true, decide_true, cond_true, cond_false, Bool.not_true, Bool.not_false, Bool.not_eq_true', Bool.not_eq_false', Bool.and_eq_true, Bool.and_eq_false_imp, Bool.or_eq_true, Bool.or_eq_false_iff, decide_eq_true_eq, decide_eq_false_iff_not, Bool.false_eq_true, reduceCtorEq, Int.not_le, Int.not_lt, Decidable.not_not] at h)); rotate_left; ((intro h); (try simp only [beq_self_eq_true, eq_self, not_true_eq_false, not_false_eq_true, decide_true, cond_true, cond_false, Bool.not_true, Bool.not_false, Bool.not_eq_true', Bool.not_eq_false', Bool.and_eq_true, Bool.and_eq_false_imp, Bool.or_eq_true, Bool.or_eq_false_iff, decide_eq_true_eq, decide_eq_false_iff_not, Bool.false_eq_true, reduceCtorEq, Int.not_le, Int.not_lt, Decidable.not_not] at h)))
    | (with_reducible refine z_r ?_ ?_)
    | (with_reducible refine z_wg ?_ ?_)
    | (with_reducible refine z_w ?_ ?_)
    | ((with_reducible apply sh_nil); (intro _))
    | ((with_reducible apply sh_int); (intro _))
    | ((with_reducible apply sh_bool); (intro _))
    | ((with_reducible apply sh_sl); (intro _))
    | ((with_reducible refine z_xf ?zc ?zx ?_); (case zc => decide +kernel); (case zx => decide +kernel))
    | ((with_reducible refine z_o ?zo ?_); (case zo => decide +kernel))
    | ((with_reducible refine z_x ?zx ?_); (case zx => decide +kernel))
    | ((refine z_mf (d := ?zD) (f := ?zF) (caps := ?zA) (τ := ?zT) (ps := ?zP) (cs := ?zC) ?zd ?ze ?zt ?za ?zp ?zl ?_); (case zd => exact rfl); (case ze => exact rfl); (case zt => (simp only [frzAll, frz, frzL, frzV, frzS, drp, unSs, unS, unsing, ev, Vq.look, List.map_cons, List.map_nil, List.drop_zero, List.drop_succ_cons, Nat.reduceAdd, Nat.zero_add, Option.map_some, Nat.reduceEqDiff, if_true, if_false, reduceCtorEq, ↓reduceIte]; exact rfl)); (case za => exact rfl); (case zp => exact rfl); (case zl => (simp only [unSs, unS, unsing, List.drop_zero, List.drop_succ_cons, Nat.reduceAdd, Nat.zero_add, Option.map_some, List.length_map, fillTo_zero, Int.toNat_natCast, Option.isSome_some, and_self, fixB, Nat.reduceLeDiff, false_implies, true_implies, forall_const, St.le0, St.swaps, St.ren, mapV, renO, V.ren, Sc.ren, Ob.ren, swp, slsLe, obsLe, vLe, scLe, scsLe, obLe, Vq.look, Nat.reduceEqDiff, if_true, if_false, reduceCtorEq, ↓reduceIte, true_and, and_true] <;> (and_intros <;> first | rfl | omega))))
    | fail)
          all_goals ((try simp only [Int.toNat_natCast, tn1, tp1, List.length_map, eq_self, true_and, and_true] at *); (try simp (disch := omega) only [wr, Int.toNat_natCast, tn1, tp1, List.length_map, eq_self, true_and, and_true] at *))
          all_goals (first
            | omega
            | (refine z_n (k + 1) ⟨by omega, by omega⟩ ?_; rw [eW, eH]; simp only [List.length_map, fillTo_zero, Int.toNat_natCast, Option.isSome_some, and_self, fixB, Nat.reduceLeDiff, false_implies, true_implies, forall_const, St.le0, St.swaps, St.ren, mapV, renO, V.ren, Sc.ren, Ob.ren, swp, slsLe, obsLe, vLe, scLe, scsLe, obLe, Vq.look, Nat.reduceEqDiff, if_true, if_false, reduceCtorEq, ↓reduceIte, true_and, and_true] <;> (and_intros <;> first | rfl | omega | assumption); done)
            | (trace_state; fail))
    · repeat' (first
    | ((with_reducible refine z_run ?_); (conv => whnf))
    | (with_reducible apply z_t)
    | (with_reducible apply z_f)
    | ((with_reducible apply z_b); ((intro h); (try simp only [beq_self_eq_true, eq_self, not_true_eq_false, not_false_eq_true, decide_true, cond_true, cond_false, Bool.not_true, Bool.not_false, Bool.not_eq_true', Bool.not_eq_false', Bool.and_eq_true, Bool.and_eq_false_imp, Bool.or_eq_true, Bool.or_eq_false_iff, decide_eq_true_eq, decide_eq_false_iff_not, Bool.false_eq_true, reduceCtorEq, Int.not_le, Int.not_lt, Decidable.not_not] at h)); rotate_left; ((intro h); (try simp only [beq_self_eq_true, eq_self, not_true_eq_false, not_false_eq_true, decide_true, cond_true, cond_false, Bool.not_true, Bool.not_false, Bool.not_eq_true', Bool.not_eq_false', Bool.and_eq_true, Bool.and_eq_false_imp, Bool.or_eq_true, Bool.or_eq_false_iff, decide_eq_true_eq, decide_eq_false_iff_not, Bool.false_eq_true, reduceCtorEq, Int.not_le, Int.not_lt, Decidable.not_not] at h)))
    | (with_reducible refine z_r ?_ ?_)
    | (with_reducible refine z_wg ?_ ?_)
    | (with_reducible refine z_w ?_ ?_)
    | ((with_reducible apply sh_nil); (intro _))
    | ((with_reducible apply sh_int); (intro _))
    | ((with_reducible apply sh_bool); (intro _))
    | ((with_reducible apply sh_sl); (intro _))
    | ((with_reducible refine z_xf ?zc ?zx ?_); (case zc => decide +kernel); (case zx => decide +kernel))
    | ((with_reducible refine z_o ?zo ?_); (case zo => decide +kernel))
    | ((with_reducible refine z_x ?zx ?_); (case zx => decide +kernel))
    | ((refine z_mf (d := ?zD) (f := ?zF) (caps := ?zA) (τ := ?zT) (ps := ?zP) (cs := ?zC) ?zd ?ze ?zt ?za ?zp ?zl ?_); (case zd => exact rfl); (case ze => exact rfl); (case zt => (simp only [frzAll, frz, frzL, frzV, frzS, drp, unSs, unS, unsing, ev, Vq.look, List.map_cons, List.map_nil, List.drop_zero, List.drop_succ_cons, Nat.reduceAdd, Nat.zero_add, Option.map_some, Nat.reduceEqDiff, if_true, if_false, reduceCtorEq, ↓reduceIte]; exact rfl)); (case za => exact rfl); (case zp => exact rfl); (case zl => (simp only [unSs, unS, unsing, List.drop_zero, List.drop_succ_cons, Nat.reduceAdd, Nat.zero_add, Option.map_some, List.length_map, fillTo_zero, Int.toNat_natCast, Option.isSome_some, and_self, fixB, Nat.reduceLeDiff, false_implies, true_implies, forall_const, St.le0, St.swaps, St.ren, mapV, renO, V.ren, Sc.ren, Ob.ren, swp, slsLe, obsLe, vLe, scLe, scsLe, obLe, Vq.look, Nat.reduceEqDiff, if_true, if_false, reduceCtorEq, ↓reduceIte, true_and, and_true] <;> (and_intros <;> first | rfl | omega))))
    | fail)
      all_goals ((try simp only [Int.toNat_natCast, tn1, tp1, List.length_map, eq_self, true_and, and_true] at *); (try simp (disch := omega) only [wr, Int.toNat_natCast, tn1, tp1, List.length_map, eq_self, true_and, and_true] at *))
      all_goals (first | omega | skip)
      rw [show k = sp.length by omega, mulL_len]
      have hWb := fun a => Wn_bd hq a sp.length (Nat.le_refl _)
      have hHb := fun a => Hn_bd hq a sp.length (Nat.le_refl _)
      have hwl := mulL_len (cutX s) (Wn sp bs sp.length)
      have hhl := mulL_len (triY s) (Hn sp bs sp.length)
      refine z_li (fun a : Nat => a ≤ 6) (0 : Nat) (fun a => 6 - a) (fun a => ⟨[(3, .one (.root 14)), (4, .one (.root 15)), (9, .one (.root 80)), (82, .one (.int .i64 6)), (83, .one (.int .i64 a))], [(80, .row 3 dI ((clothK sp bs s a).map eI)), (14, .row 3 dI ((mulL (cutX s) (Wn sp bs sp.length)).map eI)), (15, .row 3 dI ((mulL (triY s) (Hn sp bs sp.length)).map eI))]⟩) (by omega) ?_ ?_
      · simp only [List.length_map, fillTo_zero, Int.toNat_natCast, Option.isSome_some, and_self, fixB, Nat.reduceLeDiff, false_implies, true_implies, forall_const, St.le0, St.swaps, St.ren, mapV, renO, V.ren, Sc.ren, Ob.ren, swp, slsLe, obsLe, vLe, scLe, scsLe, obLe, Vq.look, Nat.reduceEqDiff, if_true, if_false, reduceCtorEq, ↓reduceIte, true_and, and_true] <;> (and_intros <;> first | rfl | omega | assumption)
      · intro a ha
        have hcl := clothK_len sp bs s a
        by_cases hlt6 : a < 6
        · have p1 : 0 ≤ cutX s * Wn sp bs sp.length a ∧ cutX s * Wn sp bs sp.length a ≤ 10816 * 592 := ⟨Int.mul_nonneg (by omega) (hWb a).1, Int.mul_le_mul hX.2 (by have := (hWb a).2; omega) (hWb a).1 (by omega)⟩
          have p2 : 0 ≤ triY s * Hn sp bs sp.length a ∧ triY s * Hn sp bs sp.length a ≤ 11449 * 1184 := ⟨Int.mul_nonneg (by omega) (hHb a).1, Int.mul_le_mul hY.2 (by have := (hHb a).2; omega) (hHb a).1 (by omega)⟩
          have g1 := mulL_get (cutX s) (Wn sp bs sp.length) hlt6
          have g2 := mulL_get (triY s) (Hn sp bs sp.length) hlt6
          have cU : ∀ v : Int, v = triY s * Hn sp bs sp.length a → FnC Try.prog 122 [(false, [.int .i64 v]), (false, [.int .i64 2])] (.one (.int .i64 ((triY s * Hn sp bs sp.length a + 1) / 2))) := by rintro _ rfl; exact implUp2 _ ⟨by omega, by omega⟩
          repeat' (first
    | ((with_reducible refine z_run ?_); (conv => whnf))
    | (with_reducible apply z_t)
    | (with_reducible apply z_f)
    | ((with_reducible apply z_b); ((intro h); (try simp only [beq_self_eq_true, eq_self, not_true_eq_false, not_false_eq_true, decide_true, cond_true, cond_false, Bool.not_true, Bool.not_false, Bool.not_eq_true', Bool.not_eq_false', Bool.and_eq_true, Bool.and_eq_false_imp, Bool.or_eq_true, Bool.or_eq_false_iff, decide_eq_true_eq, decide_eq_false_iff_not, Bool.false_eq_true, reduceCtorEq, Int.not_le, Int.not_lt, Decidable.not_not] at h)); rotate_left; ((intro h); (try simp only [beq_self_eq_true, eq_self, not_true_eq_false, not_false_eq_true, decide_true, cond_true, cond_false, Bool.not_true, Bool.not_false, Bool.not_eq_true', Bool.not_eq_false', Bool.and_eq_true, Bool.and_eq_false_imp, Bool.or_eq_true, Bool.or_eq_false_iff, decide_eq_true_eq, decide_eq_false_iff_not, Bool.false_eq_true, reduceCtorEq, Int.not_le, Int.not_lt, Decidable.not_not] at h)))
    | (with_reducible refine z_r ?_ ?_)
    | (with_reducible refine z_wg ?_ ?_)
    | (with_reducible refine z_w ?_ ?_)
    | ((with_reducible apply sh_nil); (intro _))
    | ((with_reducible apply sh_int); (intro _))
    | ((with_reducible apply sh_bool); (intro _))
    | ((with_reducible apply sh_sl); (intro _))
    | ((with_reducible refine z_xf ?zc ?zx ?_); (case zc => decide +kernel); (case zx => decide +kernel))
    | (with_reducible refine z_k (cU _ (by simp only [Int.toNat_natCast]; exact g2)) ?_)
    | ((with_reducible refine z_o ?zo ?_); (case zo => decide +kernel))
    | ((with_reducible refine z_x ?zx ?_); (case zx => decide +kernel))
    | ((refine z_mf (d := ?zD) (f := ?zF) (caps := ?zA) (τ := ?zT) (ps := ?zP) (cs := ?zC) ?zd ?ze ?zt ?za ?zp ?zl ?_); (case zd => exact rfl); (case ze => exact rfl); (case zt => (simp only [frzAll, frz, frzL, frzV, frzS, drp, unSs, unS, unsing, ev, Vq.look, List.map_cons, List.map_nil, List.drop_zero, List.drop_succ_cons, Nat.reduceAdd, Nat.zero_add, Option.map_some, Nat.reduceEqDiff, if_true, if_false, reduceCtorEq, ↓reduceIte]; exact rfl)); (case za => exact rfl); (case zp => exact rfl); (case zl => (simp only [unSs, unS, unsing, List.drop_zero, List.drop_succ_cons, Nat.reduceAdd, Nat.zero_add, Option.map_some, List.length_map, fillTo_zero, Int.toNat_natCast, Option.isSome_some, and_self, fixB, Nat.reduceLeDiff, false_implies, true_implies, forall_const, St.le0, St.swaps, St.ren, mapV, renO, V.ren, Sc.ren, Ob.ren, swp, slsLe, obsLe, vLe, scLe, scsLe, obLe, Vq.look, Nat.reduceEqDiff, if_true, if_false, reduceCtorEq, ↓reduceIte, true_and, and_true] <;> (and_intros <;> first | rfl | omega))))
    | fail)
          all_goals ((try simp only [Int.toNat_natCast, tn1, tp1, List.length_map, eq_self, true_and, and_true] at *); (try simp (disch := omega) only [wr, Int.toNat_natCast, tn1, tp1, List.length_map, eq_self, true_and, and_true] at *))
          all_goals (try rw [g1] at *)
          all_goals (first
            | omega
            | (simp only [List.length_map, List.length_cons, List.length_nil, hwl, hhl]; omega)
            | (refine z_n (a + 1) ⟨by omega, by omega⟩ ?_; rw [clothK_succ, List.map_append]; (try rw [wr ⟨by omega, by omega⟩]); simp only [List.length_map, fillTo_zero, Int.toNat_natCast, Option.isSome_some, and_self, fixB, Nat.reduceLeDiff, false_implies, true_implies, forall_const, St.le0, St.swaps, St.ren, mapV, renO, V.ren, Sc.ren, Ob.ren, swp, slsLe, obsLe, vLe, scLe, scsLe, obLe, Vq.look, Nat.reduceEqDiff, if_true, if_false, reduceCtorEq, ↓reduceIte, true_and, and_true] <;> (and_intros <;> first | rfl | omega | assumption); done)
            | (trace_state; fail))
        · repeat' (first
    | ((with_reducible refine z_run ?_); (conv => whnf))
    | (with_reducible apply z_t)
    | (with_reducible apply z_f)
    | ((with_reducible apply z_b); ((intro h); (try simp only [beq_self_eq_true, eq_self, not_true_eq_false, not_false_eq_true, decide_true, cond_true, cond_false, Bool.not_true, Bool.not_false, Bool.not_eq_true', Bool.not_eq_false', Bool.and_eq_true, Bool.and_eq_false_imp, Bool.or_eq_true, Bool.or_eq_false_iff, decide_eq_true_eq, decide_eq_false_iff_not, Bool.false_eq_true, reduceCtorEq, Int.not_le, Int.not_lt, Decidable.not_not] at h)); rotate_left; ((intro h); (try simp only [beq_self_eq_true, eq_self, not_true_eq_false, not_false_eq_true, decide_true, cond_true, cond_false, Bool.not_true, Bool.not_false, Bool.not_eq_true', Bool.not_eq_false', Bool.and_eq_true, Bool.and_eq_false_imp, Bool.or_eq_true, Bool.or_eq_false_iff, decide_eq_true_eq, decide_eq_false_iff_not, Bool.false_eq_true, reduceCtorEq, Int.not_le, Int.not_lt, Decidable.not_not] at h)))
    | (with_reducible refine z_r ?_ ?_)
    | (with_reducible refine z_wg ?_ ?_)
    | (with_reducible refine z_w ?_ ?_)
    | ((with_reducible apply sh_nil); (intro _))
    | ((with_reducible apply sh_int); (intro _))
    | ((with_reducible apply sh_bool); (intro _))
    | ((with_reducible apply sh_sl); (intro _))
    | ((with_reducible refine z_xf ?zc ?zx ?_); (case zc => decide +kernel); (case zx => decide +kernel))
    | ((with_reducible refine z_o ?zo ?_); (case zo => decide +kernel))
    | ((with_reducible refine z_x ?zx ?_); (case zx => decide +kernel))
    | ((refine z_mf (d := ?zD) (f := ?zF) (caps := ?zA) (τ := ?zT) (ps := ?zP) (cs := ?zC) ?zd ?ze ?zt ?za ?zp ?zl ?_); (case zd => exact rfl); (case ze => exact rfl); (case zt => (simp only [frzAll, frz, frzL, frzV, frzS, drp, unSs, unS, unsing, ev, Vq.look, List.map_cons, List.map_nil, List.drop_zero, List.drop_succ_cons, Nat.reduceAdd, Nat.zero_add, Option.map_some, Nat.reduceEqDiff, if_true, if_false, reduceCtorEq, ↓reduceIte]; exact rfl)); (case za => exact rfl); (case zp => exact rfl); (case zl => (simp only [unSs, unS, unsing, List.drop_zero, List.drop_succ_cons, Nat.reduceAdd, Nat.zero_add, Option.map_some, List.length_map, fillTo_zero, Int.toNat_natCast, Option.isSome_some, and_self, fixB, Nat.reduceLeDiff, false_implies, true_implies, forall_const, St.le0, St.swaps, St.ren, mapV, renO, V.ren, Sc.ren, Ob.ren, swp, slsLe, obsLe, vLe, scLe, scsLe, obLe, Vq.look, Nat.reduceEqDiff, if_true, if_false, reduceCtorEq, ↓reduceIte, true_and, and_true] <;> (and_intros <;> first | rfl | omega))))
    | fail)
          all_goals ((try simp only [Int.toNat_natCast, tn1, tp1, List.length_map, eq_self, true_and, and_true] at *); (try simp (disch := omega) only [wr, Int.toNat_natCast, tn1, tp1, List.length_map, eq_self, true_and, and_true] at *))
          all_goals (first
            | omega
            | (refine z_e rfl ?_; simp only [fin, finP, finM, ids, nodupB, tupP, tupM, memN, List.length_cons, List.length_nil, List.nil_append, List.append_nil, List.cons_append, Nat.zero_add, Nat.reduceAdd, ne_eq, not_false_eq_true, eq_self, ev, Vq.look, List.map_cons, List.map_nil, and_true, true_and, Nat.reduceEqDiff, if_true, if_false, reduceCtorEq, ↓reduceIte]; rw [show 6 = a by omega]; done)
            | (trace_state; fail))
/-! ### areas, cloth and pieces -/
theorem cellA_turn {t : TCell} (h : cellOk t) (a : Int) : cellA (turnC t) a = cellA t a := by
  have h2 := turnC_ok h
  rw [cellA, if_pos h2, cellA, if_pos h]
  unfold turnC
  rw [if_pos h]
  by_cases e1 : t.1 = 1
  · rw [if_pos e1]; dsimp only; omega
  · rw [if_neg e1]
    by_cases e2 : t.1 = 2
    · rw [if_pos e2]
    · rw [if_neg e2]
theorem cellA_mir {t : TCell} (h : cellOk t) (a : Int) : cellA (mirC t) a = cellA t a := by
  have h2 := mirC_ok h
  rw [cellA, if_pos h2, cellA, if_pos h]
  unfold mirC
  rw [if_pos h]
  by_cases e1 : t.1 = 0
  · rw [if_pos e1]
  · rw [if_neg e1]; dsimp only; omega
theorem areaR_seen {b : TBlk} (h : bOk b) (a : Int) {k : Int} (hk : 0 ≤ k ∧ k ≤ 7) : areaR (seenB b k).1 (seenB b k).2 a = areaR b.1 b.2 a := by
  have hb : blkOk b.1 b.2 := h
  have hs : blkOk (seenB b k).1 (seenB b k).2 := (seenB_ok h hk).1
  rw [areaR, if_pos hs, areaR, if_pos hb]
  exact sumP_seenB h (fun t ht => cellA_turn ht a) (fun t ht => cellA_mir ht a) hk
theorem cellA_ph {t : TCell} (h : cellOk t) (a : Nat) : cellA t a = 4 * phW a t + 2 * phH a t := by
  rw [cellA, if_pos h, phW, phH]
  by_cases e : t.1 = 0
  · have e2 := h.2.2.2.1 e
    rw [if_pos e, e2]
    by_cases e3 : t.2.2 = (a : Int)
    · rw [if_pos e3, if_pos ⟨e, e3⟩]; omega
    · rw [if_neg e3, if_neg (fun hh => e3 hh.2)]; omega
  · rw [if_neg e, if_neg (show ¬ (t.1 = 0 ∧ t.2.1 = (a : Int)) from fun hh => e hh.1)]; split <;> split <;> omega
theorem areaR_ph {b : TBlk} (h : bOk b) (a : Nat) : areaR b.1 b.2 a = 4 * sumP (phW a) b.2 + 2 * sumP (phH a) b.2 := by
  have hb : blkOk b.1 b.2 := h
  rw [areaR, if_pos hb]
  have : ∀ c : List TCell, (∀ t ∈ c, cellOk t) → sumP (fun t => cellA t a) c = 4 * sumP (phW a) c + 2 * sumP (phH a) c := fun c => by
    induction c with
    | nil => intro _; simp [sumP]
    | cons t c ih =>
      intro hc
      have h1 := ih fun u hu => hc u (List.mem_cons_of_mem _ hu)
      have h2 := cellA_ph (hc t (List.mem_cons_self ..)) a
      simp only [sumP, List.map_cons, List.sum_cons] at h1 ⊢
      omega
  exact this b.2 h.2.2
theorem shS_ind {w g : Int} {sp : List TSpot} {bs : List TBlk} (h : qOk w g sp bs) {p : Nat → Prop} (h0 : p 0) (h1 : ∀ k, k < sp.length → bOk (seenB (bs.getD (sp.getD k default).1.toNat default) (sp.getD k default).2) → (seenB (bs.getD (sp.getD k default).1.toNat default) (sp.getD k default).2).1 = (bs.getD 0 default).1 → p k → p (k + 1)) : ∀ k, k ≤ sp.length → p k
  | 0, _ => h0
  | k + 1, hk => by
    have hsp := qOk_spot h (k := k) (by omega)
    have hbm := h.2.2 _ (getD_mem (l := bs) (k := (sp.getD k default).1.toNat) (by omega))
    have hs := seenB_ok (b := bs.getD (sp.getD k default).1.toNat default) hbm.1 hsp.2
    exact h1 k (by omega) hs.1 (hs.2.trans hbm.2) (shS_ind h h0 h1 k (by omega))
theorem qaF_ph {w g : Int} {sp : List TSpot} {bs : List TBlk} (h : qOk w g sp bs) (a : Nat) : qaF sp bs a bs.length = 4 * Wn sp bs sp.length a + 2 * Hn sp bs sp.length a := by
  have e := shS_eq h (fun b => areaR b.1 b.2 a) (fun b hb k hk => areaR_seen hb a hk)
  rw [qaF, ← e]
  refine shS_ind h (p := fun k => shS (fun b => areaR b.1 b.2 a) sp bs k = 4 * Wn sp bs k a + 2 * Hn sp bs k a) (by simp [shS, shL, Wn, Hn]) (fun k hk hb _ ih => ?_) sp.length (Nat.le_refl _)
  rw [shS_succ _ bs hk, ih, Wn, Hn, Wn, Hn, shS_succ _ bs hk, shS_succ _ bs hk, areaR_ph hb]
  omega
theorem two6 {A : Int} (h : 0 ≤ A ∧ A ≤ 5) : (if A = ((0 : Nat) : Int) then (2 : Int) else 0) + (if A = ((1 : Nat) : Int) then 2 else 0) + (if A = ((2 : Nat) : Int) then 2 else 0) + (if A = ((3 : Nat) : Int) then 2 else 0) + (if A = ((4 : Nat) : Int) then 2 else 0) + (if A = ((5 : Nat) : Int) then 2 else 0) = 2 := by
  have : A = 0 ∨ A = 1 ∨ A = 2 ∨ A = 3 ∨ A = 4 ∨ A = 5 := by omega
  rcases this with rfl | rfl | rfl | rfl | rfl | rfl <;> rfl
def sum6 (f : Nat → Int) : Nat → Int
  | 0 => 0
  | k + 1 => sum6 f k + f k
theorem area_sum6 {b : TBlk} (h : bOk b) : sum6 (fun a => areaR b.1 b.2 a) 6 = 4 * (b.1 * b.1) := by
  have hb : blkOk b.1 b.2 := h
  have hl := hb.2.1
  have : ∀ c : List TCell, (∀ t ∈ c, cellOk t) → sum6 (fun a => sumP (fun t => cellA t a) c) 6 = 4 * c.length := fun c => by
    induction c with
    | nil => intro _; simp [sumP, sum6]
    | cons t c ih =>
      intro hc
      have h1 := ih fun u hu => hc u (List.mem_cons_of_mem _ hu)
      have ht := hc t (List.mem_cons_self ..)
      have h2 := two6 ht.2.1
      have h3 := two6 ht.2.2.1
      simp only [sum6, sumP, List.map_cons, List.sum_cons, List.length_cons, cellA, if_pos ht] at h1 ⊢
      rw [Int.natCast_add]
      omega
  have := this b.2 hb.2.2
  simp only [areaR, if_pos hb]
  omega
theorem qa_sum6 {w g : Int} {sp : List TSpot} {bs : List TBlk} (h : qOk w g sp bs) : sum6 (fun a => qaF sp bs a bs.length) 6 = 4 * ((bs.getD 0 default).1 * (bs.getD 0 default).1) * sp.length := by
  have e : ∀ a : Nat, qaF sp bs a bs.length = shS (fun b => areaR b.1 b.2 a) sp bs sp.length := fun a => (shS_eq h (fun b => areaR b.1 b.2 a) (fun b hb k hk => areaR_seen hb a hk)).symm
  simp only [e]
  refine shS_ind h (p := fun k => sum6 (fun a => shS (fun b => areaR b.1 b.2 a) sp bs k) 6 = 4 * ((bs.getD 0 default).1 * (bs.getD 0 default).1) * k) (by simp [sum6, shS, shL]) (fun k hk hb hz ih => ?_) sp.length (Nat.le_refl _)
  have ha := area_sum6 hb
  have e4 : (seenB (bs.getD (sp.getD k default).1.toNat default) (sp.getD k default).2).1 * (seenB (bs.getD (sp.getD k default).1.toNat default) (sp.getD k default).2).1 = (bs.getD 0 default).1 * (bs.getD 0 default).1 := by rw [hz]
  have hs := fun a : Nat => shS_succ (fun b => areaR b.1 b.2 a) bs hk
  simp only [hs]
  simp only [sum6] at ih ha ⊢
  rw [show ((k + 1 : Nat) : Int) = k + 1 by omega, Int.mul_add, Int.mul_one]
  omega
theorem pc_bd2 {b : TBlk} (h : bOk b) : b.1 * b.1 ≤ pcN b ∧ pcN b ≤ 2 * (b.1 * b.1) := by
  have hb : blkOk b.1 b.2 := h
  have hl := hb.2.1
  have h1 := triR_bd h
  have h2 : triR b.1 b.2 ≤ 2 * b.2.length := by rw [triR, if_pos hb]; exact (sumP_bds tri1_bd b.2).2
  unfold pcN
  rw [Int.tdiv_eq_ediv_of_nonneg h1.1]
  omega
theorem pc_sum {w g : Int} {sp : List TSpot} {bs : List TBlk} (h : qOk w g sp bs) : (bs.getD 0 default).1 * (bs.getD 0 default).1 * sp.length ≤ shS pcN sp bs sp.length ∧ shS pcN sp bs sp.length ≤ 2 * ((bs.getD 0 default).1 * (bs.getD 0 default).1) * sp.length := by
  refine shS_ind h (p := fun k => (bs.getD 0 default).1 * (bs.getD 0 default).1 * k ≤ shS pcN sp bs k ∧ shS pcN sp bs k ≤ 2 * ((bs.getD 0 default).1 * (bs.getD 0 default).1) * k) (by simp [shS, shL]) (fun k hk hb hz ih => ?_) sp.length (Nat.le_refl _)
  have hp := pc_bd2 hb
  rw [hz] at hp
  rw [shS_succ pcN bs hk, show ((k + 1 : Nat) : Int) = k + 1 by omega, Int.mul_add, Int.mul_one, Int.mul_add, Int.mul_one]
  omega
def clothV (sp : List TSpot) (bs : List TBlk) (s : Int) (a : Nat) : Int := cutX s * Wn sp bs sp.length a + (triY s * Hn sp bs sp.length a + 1) / 2
theorem sq_mono {a b : Int} (h : 0 ≤ a) (h2 : a ≤ b) : a * a ≤ b * b := Int.mul_le_mul h2 h2 h (by omega)
theorem cloth_mono {w g : Int} {sp : List TSpot} {bs : List TBlk} (h : qOk w g sp bs) {s : Int} (hs : 4 ≤ s) (a : Nat) : clothV sp bs s a ≤ clothV sp bs (s + 1) a := by
  have hW := Wn_bd h a sp.length (Nat.le_refl _)
  have hH := Hn_bd h a sp.length (Nat.le_refl _)
  have e1 : cutX s * Wn sp bs sp.length a ≤ cutX (s + 1) * Wn sp bs sp.length a := Int.mul_le_mul_of_nonneg_right (sq_mono (by omega) (by omega)) hW.1
  have e2 : triY s * Hn sp bs sp.length a ≤ triY (s + 1) * Hn sp bs sp.length a := Int.mul_le_mul_of_nonneg_right (sq_mono (by omega) (by omega)) hH.1
  unfold clothV
  omega
theorem cloth_area {w g : Int} {sp : List TSpot} {bs : List TBlk} (h : qOk w g sp bs) {s : Int} (hs : 4 ≤ s) (a : Nat) : qaF sp bs a bs.length * s * s ≤ 4 * clothV sp bs s a ∧ (clothV sp bs s a = 0 ↔ qaF sp bs a bs.length = 0) := by
  have hW := Wn_bd h a sp.length (Nat.le_refl _)
  have hH := Hn_bd h a sp.length (Nat.le_refl _)
  rw [qaF_ph h a]
  unfold clothV
  generalize Wn sp bs sp.length a = W at *
  generalize Hn sp bs sp.length a = H at *
  have e1 : s * s * W ≤ cutX s * W := Int.mul_le_mul_of_nonneg_right (sq_mono (by omega) (by omega)) hW.1
  have e2 : s * s * H ≤ triY s * H := Int.mul_le_mul_of_nonneg_right (sq_mono (by omega) (by omega)) hH.1
  have x1 : 1 ≤ cutX s := Int.le_trans (by decide : (1 : Int) ≤ 8 * 8) (Int.mul_le_mul (by omega) (by omega) (by omega) (by omega))
  have y1 : 1 ≤ triY s := Int.le_trans (by decide : (1 : Int) ≤ 11 * 11) (Int.mul_le_mul (by omega) (by omega) (by omega) (by omega))
  have e3 : 1 * W ≤ cutX s * W := Int.mul_le_mul_of_nonneg_right x1 hW.1
  have e4 : 1 * H ≤ triY s * H := Int.mul_le_mul_of_nonneg_right y1 hH.1
  have e5 : (4 * W + 2 * H) * s * s = 4 * (s * s * W) + 2 * (s * s * H) := by
    rw [Int.mul_assoc, Int.add_mul, Int.mul_assoc, Int.mul_assoc, Int.mul_comm W, Int.mul_comm H]
  refine ⟨by rw [e5]; omega, ⟨fun hz => ?_, fun hz => ?_⟩⟩
  · omega
  · have hW0 : W = 0 := by omega
    have hH0 : H = 0 := by omega
    rw [hW0, hH0, Int.mul_zero, Int.mul_zero]; decide
theorem implShared (w g : Int) (sp : List TSpot) (bs : List TBlk) (s : Int) (hl : sp.length + bs.length + cellsN bs ≤ 1048576) (ho : ordOkP w g sp bs s) (ho2 : ordOkP w g sp bs (s + 1)) : FnC Try.prog 62 [aO w g sp bs s, aO w g sp bs (s + 1)] (.one (.own 3 dI ((clothK sp bs s 6).map eI))) := by
  have hmo := fun a => cloth_mono ho.1 ho.2.1 a
  have hcl := clothK_len sp bs s 6
  have hcl2 := clothK_len sp bs (s + 1) 6
  refine fn_z (ty := ty) (ts := [.tmp 4]) [0, 1, 2, 3, 4, 5, 6, 7, 8, 16, 23, 24, 25] mixed ty_ok Try.func62 (by kernel_rfl) rfl (by kernel_rfl) (by kernel_rfl) rfl (.inl rfl) (Nat.le_of_ble_eq_true rfl) (by simp only [entry, entryV, C.toS, Nat.zero_add, Nat.reduceAdd, List.map_cons, List.map_nil]; exact rfl) ?_
  repeat' (first
    | ((with_reducible refine z_run ?_); (conv => whnf))
    | (with_reducible apply z_t)
    | (with_reducible apply z_f)
    | ((with_reducible apply z_b); ((intro h); (try simp only [beq_self_eq_true, eq_self, not_true_eq_false, not_false_eq_true, decide_true, cond_true, cond_false, Bool.not_true, Bool.not_false, Bool.not_eq_true', Bool.not_eq_false', Bool.and_eq_true, Bool.and_eq_false_imp, Bool.or_eq_true, Bool.or_eq_false_iff, decide_eq_true_eq, decide_eq_false_iff_not, Bool.false_eq_true, reduceCtorEq, Int.not_le, Int.not_lt, Decidable.not_not] at h)); rotate_left; ((intro h); (try simp only [beq_self_eq_true, eq_self, not_true_eq_false, not_false_eq_true, decide_true, cond_true, cond_false, Bool.not_true, Bool.not_false, Bool.not_eq_true', Bool.not_eq_false', Bool.and_eq_true, Bool.and_eq_false_imp, Bool.or_eq_true, Bool.or_eq_false_iff, decide_eq_true_eq, decide_eq_false_iff_not, Bool.false_eq_true, reduceCtorEq, Int.not_le, Int.not_lt, Decidable.not_not] at h)))
    | (with_reducible refine z_r ?_ ?_)
    | (with_reducible refine z_wg ?_ ?_)
    | (with_reducible refine z_w ?_ ?_)
    | ((with_reducible apply sh_nil); (intro _))
    | ((with_reducible apply sh_int); (intro _))
    | ((with_reducible apply sh_bool); (intro _))
    | ((with_reducible apply sh_sl); (intro _))
    | ((with_reducible refine z_xf ?zc ?zx ?_); (case zc => decide +kernel); (case zx => decide +kernel))
    | (with_reducible refine z_k (implOrderOk _ _ _ _ _ hl) ?_)
    | (with_reducible refine z_k (implClothFor _ _ _ _ _ hl ho) ?_)
    | (with_reducible refine z_k (implClothFor _ _ _ _ _ hl ho2) ?_)
    | (refine z_xd [[0, 2, 1, 3, 5, 6, 4, 7], [0, 2, 1, 4, 3, 5, 6, 7], [0, 2, 4, 1, 3, 5, 6, 7]] (by decide +kernel) ?_ ?_ ?_)
    | exact allP_n
    | (refine allP_c ?_ ?_)
    | ((refine z_sn0 ?_); (simp only [List.length_map, fillTo_zero, Int.toNat_natCast, Option.isSome_some, and_self, fixB, Nat.reduceLeDiff, false_implies, true_implies, forall_const, St.le0, St.swaps, St.ren, mapV, renO, V.ren, Sc.ren, Ob.ren, swp, slsLe, obsLe, vLe, scLe, scsLe, obLe, Vq.look, Nat.reduceEqDiff, if_true, if_false, reduceCtorEq, ↓reduceIte, true_and, and_true] <;> (and_intros <;> first | rfl | omega | assumption); done))
    | ((refine z_sn ?_); (simp only [List.length_map, fillTo_zero, Int.toNat_natCast, Option.isSome_some, and_self, fixB, Nat.reduceLeDiff, false_implies, true_implies, forall_const, St.le0, St.swaps, St.ren, mapV, renO, V.ren, Sc.ren, Ob.ren, swp, slsLe, obsLe, vLe, scLe, scsLe, obLe, Vq.look, Nat.reduceEqDiff, if_true, if_false, reduceCtorEq, ↓reduceIte, true_and, and_true] <;> (and_intros <;> first | rfl | omega | assumption); done))
    | ((with_reducible refine z_o ?zo ?_); (case zo => decide +kernel))
    | ((with_reducible refine z_x ?zx ?_); (case zx => decide +kernel))
    | ((refine z_mf (d := ?zD) (f := ?zF) (caps := ?zA) (τ := ?zT) (ps := ?zP) (cs := ?zC) ?zd ?ze ?zt ?za ?zp ?zl ?_); (case zd => exact rfl); (case ze => exact rfl); (case zt => (simp only [frzAll, frz, frzL, frzV, frzS, drp, unSs, unS, unsing, ev, Vq.look, List.map_cons, List.map_nil, List.drop_zero, List.drop_succ_cons, Nat.reduceAdd, Nat.zero_add, Option.map_some, Nat.reduceEqDiff, if_true, if_false, reduceCtorEq, ↓reduceIte]; exact rfl)); (case za => exact rfl); (case zp => exact rfl); (case zl => (simp only [unSs, unS, unsing, List.drop_zero, List.drop_succ_cons, Nat.reduceAdd, Nat.zero_add, Option.map_some, List.length_map, fillTo_zero, Int.toNat_natCast, Option.isSome_some, and_self, fixB, Nat.reduceLeDiff, false_implies, true_implies, forall_const, St.le0, St.swaps, St.ren, mapV, renO, V.ren, Sc.ren, Ob.ren, swp, slsLe, obsLe, vLe, scLe, scsLe, obLe, Vq.look, Nat.reduceEqDiff, if_true, if_false, reduceCtorEq, ↓reduceIte, true_and, and_true] <;> (and_intros <;> first | rfl | omega))))
    | fail)
  all_goals ((try simp only [Int.toNat_natCast, tn1, tp1, List.length_map, eq_self, true_and, and_true] at *); (try simp (disch := omega) only [wr, Int.toNat_natCast, tn1, tp1, List.length_map, eq_self, true_and, and_true] at *))
  all_goals (first
    | contradiction
    | skip)
  refine z_li (fun k : Nat => k ≤ 6) (0 : Nat) (fun k => 6 - k) (fun k => ⟨[(5, .one (.root 18)), (6, .one (.root 20)), (7, .one (.root 21)), (23, .one (.int .i64 6)), (24, .one (.int .i64 k))], [(21, .row 3 dI ((clothK sp bs s k).map eI)), (20, .row 3 dI ((clothK sp bs (s + 1) 6).map eI)), (18, .row 3 dI ((clothK sp bs s 6).map eI))]⟩) (by omega) ?_ ?_
  · simp only [List.length_map, fillTo_zero, Int.toNat_natCast, Option.isSome_some, and_self, fixB, Nat.reduceLeDiff, false_implies, true_implies, forall_const, St.le0, St.swaps, St.ren, mapV, renO, V.ren, Sc.ren, Ob.ren, swp, slsLe, obsLe, vLe, scLe, scsLe, obLe, Vq.look, Nat.reduceEqDiff, if_true, if_false, reduceCtorEq, ↓reduceIte, true_and, and_true] <;> (and_intros <;> first | rfl | omega | assumption)
  · intro k hk
    have hck := clothK_len sp bs s k
    by_cases hlt : k < 6
    · have g1 := clothK_get sp bs s hlt
      have g2 := clothK_get sp bs (s + 1) hlt
      have hm := hmo k
      have hnl : ¬ ((clothK sp bs (s + 1) 6).getD k default < (clothK sp bs s 6).getD k default) := by
        rw [g1, g2]; unfold clothV at hm; omega
      repeat' (first
    | ((with_reducible refine z_run ?_); (conv => whnf))
    | (with_reducible apply z_t)
    | (with_reducible apply z_f)
    | ((with_reducible apply z_b); ((intro h); (try simp only [beq_self_eq_true, eq_self, not_true_eq_false, not_false_eq_true, decide_true, cond_true, cond_false, Bool.not_true, Bool.not_false, Bool.not_eq_true', Bool.not_eq_false', Bool.and_eq_true, Bool.and_eq_false_imp, Bool.or_eq_true, Bool.or_eq_false_iff, decide_eq_true_eq, decide_eq_false_iff_not, Bool.false_eq_true, reduceCtorEq, Int.not_le, Int.not_lt, Decidable.not_not] at h)); rotate_left; ((intro h); (try simp only [beq_self_eq_true, eq_self, not_true_eq_false, not_false_eq_true, decide_true, cond_true, cond_false, Bool.not_true, Bool.not_false, Bool.not_eq_true', Bool.not_eq_false', Bool.and_eq_true, Bool.and_eq_false_imp, Bool.or_eq_true, Bool.or_eq_false_iff, decide_eq_true_eq, decide_eq_false_iff_not, Bool.false_eq_true, reduceCtorEq, Int.not_le, Int.not_lt, Decidable.not_not] at h)))
    | (with_reducible refine z_r ?_ ?_)
    | (with_reducible refine z_wg ?_ ?_)
    | (with_reducible refine z_w ?_ ?_)
    | ((with_reducible apply sh_nil); (intro _))
    | ((with_reducible apply sh_int); (intro _))
    | ((with_reducible apply sh_bool); (intro _))
    | ((with_reducible apply sh_sl); (intro _))
    | ((with_reducible refine z_xf ?zc ?zx ?_); (case zc => decide +kernel); (case zx => decide +kernel))
    | ((with_reducible refine z_o ?zo ?_); (case zo => decide +kernel))
    | ((with_reducible refine z_x ?zx ?_); (case zx => decide +kernel))
    | ((refine z_mf (d := ?zD) (f := ?zF) (caps := ?zA) (τ := ?zT) (ps := ?zP) (cs := ?zC) ?zd ?ze ?zt ?za ?zp ?zl ?_); (case zd => exact rfl); (case ze => exact rfl); (case zt => (simp only [frzAll, frz, frzL, frzV, frzS, drp, unSs, unS, unsing, ev, Vq.look, List.map_cons, List.map_nil, List.drop_zero, List.drop_succ_cons, Nat.reduceAdd, Nat.zero_add, Option.map_some, Nat.reduceEqDiff, if_true, if_false, reduceCtorEq, ↓reduceIte]; exact rfl)); (case za => exact rfl); (case zp => exact rfl); (case zl => (simp only [unSs, unS, unsing, List.drop_zero, List.drop_succ_cons, Nat.reduceAdd, Nat.zero_add, Option.map_some, List.length_map, fillTo_zero, Int.toNat_natCast, Option.isSome_some, and_self, fixB, Nat.reduceLeDiff, false_implies, true_implies, forall_const, St.le0, St.swaps, St.ren, mapV, renO, V.ren, Sc.ren, Ob.ren, swp, slsLe, obsLe, vLe, scLe, scsLe, obLe, Vq.look, Nat.reduceEqDiff, if_true, if_false, reduceCtorEq, ↓reduceIte, true_and, and_true] <;> (and_intros <;> first | rfl | omega))))
    | fail)
      all_goals ((try simp only [Int.toNat_natCast, tn1, tp1, List.length_map, eq_self, true_and, and_true] at *); (try simp (disch := omega) only [wr, Int.toNat_natCast, tn1, tp1, List.length_map, eq_self, true_and, and_true] at *))
      all_goals (first
        | omega
        | (simp only [List.length_map, List.length_cons, List.length_nil]; omega)
        | (refine z_n (k + 1) ⟨by omega, by omega⟩ ?_; simp only [if_neg hnl]; simp only [g1]; rw [clothK_succ sp bs s k, List.map_append]; simp only [List.length_map, fillTo_zero, Int.toNat_natCast, Option.isSome_some, and_self, fixB, Nat.reduceLeDiff, false_implies, true_implies, forall_const, St.le0, St.swaps, St.ren, mapV, renO, V.ren, Sc.ren, Ob.ren, swp, slsLe, obsLe, vLe, scLe, scsLe, obLe, Vq.look, Nat.reduceEqDiff, if_true, if_false, reduceCtorEq, ↓reduceIte, true_and, and_true] <;> (and_intros <;> first | rfl | omega | assumption); done)
        | (trace_state; fail))
    · repeat' (first
    | ((with_reducible refine z_run ?_); (conv => whnf))
    | (with_reducible apply z_t)
    | (with_reducible apply z_f)
    | ((with_reducible apply z_b); ((intro h); (try simp only [beq_self_eq_true, eq_self, not_true_eq_false, not_false_eq_true, decide_true, cond_true, cond_false, Bool.not_true, Bool.not_false, Bool.not_eq_true', Bool.not_eq_false', Bool.and_eq_true, Bool.and_eq_false_imp, Bool.or_eq_true, Bool.or_eq_false_iff, decide_eq_true_eq, decide_eq_false_iff_not, Bool.false_eq_true, reduceCtorEq, Int.not_le, Int.not_lt, Decidable.not_not] at h)); rotate_left; ((intro h); (try simp only [beq_self_eq_true, eq_self, not_true_eq_false, not_false_eq_true, decide_true, cond_true, cond_false, Bool.not_true, Bool.not_false, Bool.not_eq_true', Bool.not_eq_false', Bool.and_eq_true, Bool.and_eq_false_imp, Bool.or_eq_true, Bool.or_eq_false_iff, decide_eq_true_eq, decide_eq_false_iff_not, Bool.false_eq_true, reduceCtorEq, Int.not_le, Int.not_lt, Decidable.not_not] at h)))
    | (with_reducible refine z_r ?_ ?_)
    | (with_reducible refine z_wg ?_ ?_)
    | (with_reducible refine z_w ?_ ?_)
    | ((with_reducible apply sh_nil); (intro _))
    | ((with_reducible apply sh_int); (intro _))
    | ((with_reducible apply sh_bool); (intro _))
    | ((with_reducible apply sh_sl); (intro _))
    | ((with_reducible refine z_xf ?zc ?zx ?_); (case zc => decide +kernel); (case zx => decide +kernel))
    | ((with_reducible refine z_o ?zo ?_); (case zo => decide +kernel))
    | ((with_reducible refine z_x ?zx ?_); (case zx => decide +kernel))
    | ((refine z_mf (d := ?zD) (f := ?zF) (caps := ?zA) (τ := ?zT) (ps := ?zP) (cs := ?zC) ?zd ?ze ?zt ?za ?zp ?zl ?_); (case zd => exact rfl); (case ze => exact rfl); (case zt => (simp only [frzAll, frz, frzL, frzV, frzS, drp, unSs, unS, unsing, ev, Vq.look, List.map_cons, List.map_nil, List.drop_zero, List.drop_succ_cons, Nat.reduceAdd, Nat.zero_add, Option.map_some, Nat.reduceEqDiff, if_true, if_false, reduceCtorEq, ↓reduceIte]; exact rfl)); (case za => exact rfl); (case zp => exact rfl); (case zl => (simp only [unSs, unS, unsing, List.drop_zero, List.drop_succ_cons, Nat.reduceAdd, Nat.zero_add, Option.map_some, List.length_map, fillTo_zero, Int.toNat_natCast, Option.isSome_some, and_self, fixB, Nat.reduceLeDiff, false_implies, true_implies, forall_const, St.le0, St.swaps, St.ren, mapV, renO, V.ren, Sc.ren, Ob.ren, swp, slsLe, obsLe, vLe, scLe, scsLe, obLe, Vq.look, Nat.reduceEqDiff, if_true, if_false, reduceCtorEq, ↓reduceIte, true_and, and_true] <;> (and_intros <;> first | rfl | omega))))
    | fail)
      all_goals ((try simp only [Int.toNat_natCast, tn1, tp1, List.length_map, eq_self, true_and, and_true] at *); (try simp (disch := omega) only [wr, Int.toNat_natCast, tn1, tp1, List.length_map, eq_self, true_and, and_true] at *))
      all_goals (first
        | omega
        | (refine z_e rfl ?_; simp only [fin, finP, finM, ids, nodupB, tupP, tupM, memN, List.length_cons, List.length_nil, List.nil_append, List.append_nil, List.cons_append, Nat.zero_add, Nat.reduceAdd, ne_eq, not_false_eq_true, eq_self, ev, Vq.look, List.map_cons, List.map_nil, and_true, true_and, Nat.reduceEqDiff, if_true, if_false, reduceCtorEq, ↓reduceIte]; rw [show 6 = k by omega]; done)
        | (trace_state; fail))
end Go.Proofs.Ytcibheinilkcoaa
