/- Turned quilts and their areas: plain mathematics and contracts. No conditions. -/
import Derived.Test.YtcibheinilkcoaaQltD
namespace Go.Proofs.Ytcibheinilkcoaa
open Go.Vq
set_option linter.unusedSimpArgs false
set_option maxHeartbeats 1000000
def cellA (t : TCell) (a : Int) : Int := if cellOk t then (if t.2.1 = a then 2 else 0) + (if t.2.2 = a then 2 else 0) else 0
theorem cellA_bd (t : TCell) (a : Int) : 0 ≤ cellA t a ∧ cellA t a ≤ 4 := by
  unfold cellA
  split
  · split <;> split <;> omega
  · omega
def areaR (n : Int) (c : List TCell) (a : Int) : Int := if blkOk n c then sumP (fun t => cellA t a) c else 0
theorem areaR_bd (n : Int) (c : List TCell) (a : Int) : 0 ≤ areaR n c a ∧ areaR n c a ≤ 64 := by
  unfold areaR
  split
  · rename_i h
    have h1 := sumP_bds (φ := fun t => cellA t a) (u := 4) (fun t => cellA_bd t a) c
    have := blk_len h
    omega
  · omega
theorem cellA_sum (c : List TCell) (a : Int) (k : Nat) (hk : k ≤ c.length) : 0 ≤ sumP (fun t => cellA t a) (c.take k) ∧ sumP (fun t => cellA t a) (c.take k) ≤ 4 * k := by
  have h1 := sumP_bds (φ := fun t => cellA t a) (u := 4) (fun t => cellA_bd t a) (c.take k)
  rw [List.length_take] at h1
  omega
theorem specCellArea (t : TCell) (a : Int) : FnC Try.prog 149 [aC t, (false, [.int .i64 a])] (.one (.int .i64 (cellA t a))) := by
  refine fn_z (ty := ty) (ts := [.tmp 4]) [0, 1, 2, 4, 5, 8, 12, 18] mixed ty_ok Try.func149 (by kernel_rfl) rfl (by kernel_rfl) (by kernel_rfl) rfl (.inl rfl) (Nat.le_of_ble_eq_true rfl) (by simp only [entry, entryV, C.toS, Nat.zero_add, Nat.reduceAdd, List.map_cons, List.map_nil]; exact rfl) ?_
  repeat' (first
    | ((with_reducible refine z_run ?_); (conv => whnf))
    | (with_reducible apply z_t)
    | (with_reducible apply z_f)
    | ((with_reducible apply z_b); ((intro h); (try simp only [beq_self_eq_true, eq_self, not_true_eq_false, not_false_eq_true, decide_true, cond_true, cond_false, Bool.not_true, Bool.not_false, Bool.not_eq_true', Bool.not_eq_false', Bool.and_eq_true, Bool.and_eq_false_imp, Bool.or_eq_true, Bool.or_eq_false_iff, decide_eq_true_eq, decide_eq_false_iff_not, Bool.false_eq_true, reduceCtorEq, Int.not_le, Int.not_lt, Decidable.not_not] at h)); rotate_left; ((intro h); (try simp only [beq_self_eq_true, eq_self, not_true_eq_false, not_false_eq_true, decide_true, cond_true, cond_false, Bool.not_true, Bool.not_false, Bool.not_eq_true', Bool.not_eq_false', Bool.and_eq_true, Bool.and_eq_false_imp, Bool.or_eq_true, Bool.or_eq_false_iff, decide_eq_true_eq, decide_eq_false_iff_not, Bool.false_eq_true, reduceCtorEq, Int.not_le, Int.not_lt, Decidable.not_not] at h)))
    | (with_reducible refine z_r ?_ ?_)
    | (with_reducible refine z_wg ?_ ?_)
    | (with_reducible refine z_w ?_ ?_)
    | ((with_reducible apply sh_nil); (intro _))
    | ((with_reducible apply sh_int); (intro _))
    | ((with_reducible apply sh_bool); (intro _))
    | ((with_reducible apply sh_sl); (intro _))
    | ((with_reducible refine z_xf ?zc ?zx ?_); (case zc => decide +kernel); (case zx => decide +kernel))
    | (with_reducible refine z_k (specCellOkT _) ?_)
    | ((with_reducible refine z_o ?zo ?_); (case zo => decide +kernel))
    | ((with_reducible refine z_x ?zx ?_); (case zx => decide +kernel))
    | fail)
  all_goals ((try simp only [Int.toNat_natCast, tn1, tp1, List.length_map, eq_self, true_and, and_true] at *); (try simp (disch := omega) only [wr, Int.toNat_natCast, tn1, tp1, List.length_map, eq_self, true_and, and_true] at *))
  all_goals (refine z_e rfl ?_; simp only [fin, finP, finM, ids, nodupB, tupP, tupM, memN, List.length_cons, List.length_nil, List.nil_append, List.append_nil, List.cons_append, Nat.zero_add, Nat.reduceAdd, ne_eq, not_false_eq_true, eq_self, ev, Vq.look, List.map_cons, List.map_nil, and_true, true_and, Nat.reduceEqDiff, if_true, if_false, reduceCtorEq, ↓reduceIte]; unfold cellA; (first | rw [if_pos (by assumption)] | rw [if_neg (by assumption)]) <;> (first | rfl | (simp [*]; done)))
theorem specAreaOf (n : Int) (c : List TCell) (hl : c.length ≤ 1048576) (a : Int) : FnC Try.prog 123 [aB n c, (false, [.int .i64 a])] (.one (.int .i64 (areaR n c a))) := by
  refine fn_z (ty := ty) (ts := [.tmp 4]) [0, 1, 2, 4, 5, 6, 9, 14] mixed ty_ok Try.func123 (by kernel_rfl) rfl (by kernel_rfl) (by kernel_rfl) rfl (.inl rfl) (Nat.le_of_ble_eq_true rfl) (by simp only [entry, entryV, C.toS, Nat.zero_add, Nat.reduceAdd, List.map_cons, List.map_nil]; exact rfl) ?_
  repeat' (first
    | ((with_reducible refine z_run ?_); (conv => whnf))
    | (with_reducible apply z_t)
    | (with_reducible apply z_f)
    | ((with_reducible apply z_b); ((intro h); (try simp only [beq_self_eq_true, eq_self, not_true_eq_false, not_false_eq_true, decide_true, cond_true, cond_false, Bool.not_true, Bool.not_false, Bool.not_eq_true', Bool.not_eq_false', Bool.and_eq_true, Bool.and_eq_false_imp, Bool.or_eq_true, Bool.or_eq_false_iff, decide_eq_true_eq, decide_eq_false_iff_not, Bool.false_eq_true, reduceCtorEq, Int.not_le, Int.not_lt, Decidable.not_not] at h)); rotate_left; ((intro h); (try simp only [beq_self_eq_true, eq_self, not_true_eq_false, not_false_eq_true, decide_true, cond_true, cond_false, Bool.not_true, Bool.not_false, Bool.not_eq_true', Bool.not_eq_false', Bool.and_eq_true, Bool.and_eq_false_imp, Bool.or_eq_true, Bool.or_eq_false_iff, decide_eq_true_eq, decide_eq_false_iff_not, Bool.false_eq_true, reduceCtorEq, Int.not_le, Int.not_lt, Decidable.not_not] at h)))
    | (with_reducible refine z_r ?_ ?_)
    | (with_reducible refine z_wg ?_ ?_)
    | (with_reducible refine z_w ?_ ?_)
    | ((with_reducible apply sh_nil); (intro _))
    | ((with_reducible apply sh_int); (intro _))
    | ((with_reducible apply sh_bool); (intro _))
    | ((with_reducible apply sh_sl); (intro _))
    | ((with_reducible refine z_xf ?zc ?zx ?_); (case zc => decide +kernel); (case zx => decide +kernel))
    | (with_reducible refine z_k (specBlockOk _ _ (by omega)) ?_)
    | ((with_reducible refine z_o ?zo ?_); (case zo => decide +kernel))
    | ((with_reducible refine z_x ?zx ?_); (case zx => decide +kernel))
    | fail)
  all_goals ((try simp only [Int.toNat_natCast, tn1, tp1, List.length_map, eq_self, true_and, and_true] at *); (try simp (disch := omega) only [wr, Int.toNat_natCast, tn1, tp1, List.length_map, eq_self, true_and, and_true] at *))
  all_goals (first
    | (refine z_e rfl ?_; simp only [fin, finP, finM, ids, nodupB, tupP, tupM, memN, List.length_cons, List.length_nil, List.nil_append, List.append_nil, List.cons_append, Nat.zero_add, Nat.reduceAdd, ne_eq, not_false_eq_true, eq_self, ev, Vq.look, List.map_cons, List.map_nil, and_true, true_and, Nat.reduceEqDiff, if_true, if_false, reduceCtorEq, ↓reduceIte]; rw [areaR, if_neg (by assumption)])
    | skip)
  refine z_li (fun k => k ≤ c.length) (0 : Nat) (fun k => c.length - k) (fun k => ⟨[(1, .one (.int .i64 a)), (2, .one (.bx 2 0)), (5, .one (.int .i64 (sumP (fun t => cellA t a) (c.take k)))), (6, .one (.int .i64 k))], [(2, .box [.int .i64 n, .ro dCell (c.map eCell)])]⟩) (by omega) ?_ ?_
  · simp only [List.length_map, fillTo_zero, Int.toNat_natCast, Option.isSome_some, and_self, fixB, Nat.reduceLeDiff, false_implies, true_implies, forall_const, St.le0, St.swaps, St.ren, mapV, renO, V.ren, Sc.ren, Ob.ren, swp, slsLe, obsLe, vLe, psLe, scLe, scsLe, obLe, Vq.look, Nat.reduceEqDiff, if_true, if_false, reduceCtorEq, ↓reduceIte, true_and, and_true] <;> (and_intros <;> first | rfl | omega | assumption)
  · intro k hk
    have hs := cellA_sum c a k hk
    have hb := cellA_bd (c.getD k default) a
    repeat' (first
    | ((with_reducible refine z_run ?_); (conv => whnf))
    | (with_reducible apply z_t)
    | (with_reducible apply z_f)
    | ((with_reducible apply z_b); ((intro h); (try simp only [beq_self_eq_true, eq_self, not_true_eq_false, not_false_eq_true, decide_true, cond_true, cond_false, Bool.not_true, Bool.not_false, Bool.not_eq_true', Bool.not_eq_false', Bool.and_eq_true, Bool.and_eq_false_imp, Bool.or_eq_true, Bool.or_eq_false_iff, decide_eq_true_eq, decide_eq_false_iff_not, Bool.false_eq_true, reduceCtorEq, Int.not_le, Int.not_lt, Decidable.not_not] at h)); rotate_left; ((intro h); (try simp only [beq_self_eq_true, eq_self, not_true_eq_false, not_false_eq_true, decide_true, cond_true, cond_false, Bool.not_true, Bool.not_false, Bool.not_eq_true', Bool.not_eq_false', Bool.and_eq_true, Bool.and_eq_false_imp, Bool.or_eq_true, Bool.or_eq_false_iff, decide_eq_true_eq, decide_eq_false_iff_not, Bool.false_eq_true, reduceCtorEq, Int.not_le, Int.not_lt, Decidable.not_not] at h)))
    | (with_reducible refine z_r ?_ ?_)
    | (with_reducible refine z_wg ?_ ?_)
    | (with_reducible refine z_w ?_ ?_)
    | ((with_reducible apply sh_nil); (intro _))
    | ((with_reducible apply sh_int); (intro _))
    | ((with_reducible apply sh_bool); (intro _))
    | ((with_reducible apply sh_sl); (intro _))
    | ((with_reducible refine z_xf ?zc ?zx ?_); (case zc => decide +kernel); (case zx => decide +kernel))
    | (with_reducible refine z_k (specCellArea _ _) ?_)
    | ((with_reducible refine z_o ?zo ?_); (case zo => decide +kernel))
    | ((with_reducible refine z_x ?zx ?_); (case zx => decide +kernel))
    | fail)
    all_goals ((try simp only [Int.toNat_natCast, tn1, tp1, List.length_map, eq_self, true_and, and_true] at *); (try simp (disch := omega) only [wr, Int.toNat_natCast, tn1, tp1, List.length_map, eq_self, true_and, and_true] at *))
    all_goals (first
      | omega
      | (refine z_n (k + 1) ⟨by omega, by omega⟩ ?_; rw [sumP_take (by omega)]; simp only [List.length_map, fillTo_zero, Int.toNat_natCast, Option.isSome_some, and_self, fixB, Nat.reduceLeDiff, false_implies, true_implies, forall_const, St.le0, St.swaps, St.ren, mapV, renO, V.ren, Sc.ren, Ob.ren, swp, slsLe, obsLe, vLe, psLe, scLe, scsLe, obLe, Vq.look, Nat.reduceEqDiff, if_true, if_false, reduceCtorEq, ↓reduceIte, true_and, and_true] <;> (and_intros <;> first | rfl | omega | assumption); done)
      | (refine z_e rfl ?_; simp only [fin, finP, finM, ids, nodupB, tupP, tupM, memN, List.length_cons, List.length_nil, List.nil_append, List.append_nil, List.cons_append, Nat.zero_add, Nat.reduceAdd, ne_eq, not_false_eq_true, eq_self, ev, Vq.look, List.map_cons, List.map_nil, and_true, true_and, Nat.reduceEqDiff, if_true, if_false, reduceCtorEq, ↓reduceIte]; rw [areaR, if_pos (by assumption), List.take_of_length_le (by omega)])
      | (trace_state; fail))
/-- how much of what is shown has a color, block by block -/
def qaF (sp : List TSpot) (bs : List TBlk) (a : Nat) (k : Nat) : Int := usum sp (fun i => areaR (bs.getD i default).1 (bs.getD i default).2 a) k
def qaL (sp : List TSpot) (bs : List TBlk) (k j : Nat) : List Int := (List.range 6).map fun a : Nat => if a < j then qaF sp bs a (k + 1) else qaF sp bs a k
theorem qaL_len (sp : List TSpot) (bs : List TBlk) (k j : Nat) : (qaL sp bs k j).length = 6 := by simp [qaL]
theorem qaL_get (sp : List TSpot) (bs : List TBlk) (k : Nat) {j : Nat} (h : j < 6) : (qaL sp bs k j).getD j default = qaF sp bs j k := by simp [qaL, List.getD, h]
theorem qaL_set (sp : List TSpot) (bs : List TBlk) (k : Nat) {j : Nat} (h : j < 6) : (qaL sp bs k j).set j (qaF sp bs j k + cntS sp k * areaR (bs.getD k default).1 (bs.getD k default).2 j) = qaL sp bs k (j + 1) := by
  refine List.ext_getElem (by simp [qaL]) fun i h1 h2 => ?_
  rw [List.getElem_set]
  simp only [qaL, List.getElem_map, List.getElem_range]
  by_cases e : j = i
  · subst e; rw [if_pos rfl, if_pos (by omega)]; rfl
  · rw [if_neg e]
    by_cases e2 : i < j
    · rw [if_pos e2, if_pos (by omega)]
    · rw [if_neg e2, if_neg (by omega)]
theorem qaL_next (sp : List TSpot) (bs : List TBlk) (k : Nat) : qaL sp bs k 6 = qaL sp bs (k + 1) 0 := by
  unfold qaL
  refine List.map_congr_left fun a ha => ?_
  have := List.mem_range.1 ha
  rw [if_pos this, if_neg (by omega)]
def qaR (sp : List TSpot) (bs : List TBlk) : List Int := qaL sp bs bs.length 0
theorem qaF_bd {sp : List TSpot} {bs : List TBlk} (hl : sp.length ≤ 36) (hb : bs.length ≤ 6) (a : Nat) (k : Nat) (hk : k ≤ bs.length) : 0 ≤ qaF sp bs a k ∧ qaF sp bs a k ≤ 36 * 64 * k :=
  usum_bdm sp _ hl bs.length (fun i _ => areaR_bd _ _ _) k hk
theorem specQuiltAreas (w g : Int) (sp : List TSpot) (bs : List TBlk) (hl : sp.length + bs.length + cellsN bs ≤ 1048576) (hq : qOk w g sp bs) : FnC Try.prog 60 [aQ w g sp, aBs bs] (.one (.own 3 dI ((qaR sp bs).map eI))) := by
  have hul := useK_len sp bs.length sp.length
  have hbl := hq.2.1
  have hsl := qOk_len hq
  refine fn_z (ty := ty) (ts := [.tmp 4]) [0, 1, 2, 4, 5, 6, 7, 8, 14, 20, 24] mixed ty_ok Try.func60 (by kernel_rfl) rfl (by kernel_rfl) (by kernel_rfl) rfl (.inl rfl) (Nat.le_of_ble_eq_true rfl) (by simp only [entry, entryV, C.toS, Nat.zero_add, Nat.reduceAdd, List.map_cons, List.map_nil]; exact rfl) ?_
  repeat' (first
    | ((with_reducible refine z_run ?_); (conv => whnf))
    | (with_reducible apply z_t)
    | (with_reducible apply z_f)
    | ((with_reducible apply z_b); ((intro h); (try simp only [beq_self_eq_true, eq_self, not_true_eq_false, not_false_eq_true, decide_true, cond_true, cond_false, Bool.not_true, Bool.not_false, Bool.not_eq_true', Bool.not_eq_false', Bool.and_eq_true, Bool.and_eq_false_imp, Bool.or_eq_true, Bool.or_eq_false_iff, decide_eq_true_eq, decide_eq_false_iff_not, Bool.false_eq_true, reduceCtorEq, Int.not_le, Int.not_lt, Decidable.not_not] at h)); rotate_left; ((intro h); (try simp only [beq_self_eq_true, eq_self, not_true_eq_false, not_false_eq_true, decide_true, cond_true, cond_false, Bool.not_true, Bool.not_false, Bool.not_eq_true', Bool.not_eq_false', Bool.and_eq_true, Bool.and_eq_false_imp, Bool.or_eq_true, Bool.or_eq_false_iff, decide_eq_true_eq, decide_eq_false_iff_not, Bool.false_eq_true, reduceCtorEq, Int.not_le, Int.not_lt, Decidable.not_not] at h)))
    | (with_reducible refine z_r ?_ ?_)
    | (with_reducible refine z_wg ?_ ?_)
    | (with_reducible refine z_w ?_ ?_)
    | ((with_reducible apply sh_nil); (intro _))
    | ((with_reducible apply sh_int); (intro _))
    | ((with_reducible apply sh_bool); (intro _))
    | ((with_reducible apply sh_sl); (intro _))
    | ((with_reducible refine z_xf ?zc ?zx ?_); (case zc => decide +kernel); (case zx => decide +kernel))
    | (with_reducible refine z_k (specUseOf _ _ _ _ hl hq) ?_)
    | ((with_reducible refine z_o ?zo ?_); (case zo => decide +kernel))
    | ((with_reducible refine z_x ?zx ?_); (case zx => decide +kernel))
    | fail)
  all_goals ((try simp only [Int.toNat_natCast, tn1, tp1, List.length_map, eq_self, true_and, and_true] at *); (try simp (disch := omega) only [wr, Int.toNat_natCast, tn1, tp1, List.length_map, eq_self, true_and, and_true] at *))
  all_goals (first
    | omega
    | (exfalso; omega)
    | skip)
  refine z_li (fun k : Nat => k ≤ bs.length) (0 : Nat) (fun k => bs.length - k) (fun k => ⟨[(1, .one (.ro dBlk (bs.map eBlk))), (5, .one (.root 11)), (6, .one (.root 16)), (7, .one (.int .i64 k))], [(16, .row 3 dI ((qaL sp bs k 0).map eI)), (11, .row 3 dI ((useK sp bs.length sp.length).map eI))]⟩) (by omega) ?_ ?_
  · rw [show qaL sp bs 0 0 = [0, 0, 0, 0, 0, 0] by simp [qaL, qaF, usum]; rfl]; simp only [List.length_map, fillTo_zero, Int.toNat_natCast, Option.isSome_some, and_self, fixB, Nat.reduceLeDiff, false_implies, true_implies, forall_const, St.le0, St.swaps, St.ren, mapV, renO, V.ren, Sc.ren, Ob.ren, swp, slsLe, obsLe, vLe, psLe, scLe, scsLe, obLe, Vq.look, Nat.reduceEqDiff, if_true, if_false, reduceCtorEq, ↓reduceIte, true_and, and_true] <;> (and_intros <;> first | rfl | omega | assumption)
  · intro k hk
    by_cases hlt : k < bs.length
    · repeat' (first
    | ((with_reducible refine z_run ?_); (conv => whnf))
    | (with_reducible apply z_t)
    | (with_reducible apply z_f)
    | ((with_reducible apply z_b); ((intro h); (try simp only [beq_self_eq_true, eq_self, not_true_eq_false, not_false_eq_true, decide_true, cond_true, cond_false, Bool.not_true, Bool.not_false, Bool.not_eq_true', Bool.not_eq_false', Bool.and_eq_true, Bool.and_eq_false_imp, Bool.or_eq_true, Bool.or_eq_false_iff, decide_eq_true_eq, decide_eq_false_iff_not, Bool.false_eq_true, reduceCtorEq, Int.not_le, Int.not_lt, Decidable.not_not] at h)); rotate_left; ((intro h); (try simp only [beq_self_eq_true, eq_self, not_true_eq_false, not_false_eq_true, decide_true, cond_true, cond_false, Bool.not_true, Bool.not_false, Bool.not_eq_true', Bool.not_eq_false', Bool.and_eq_true, Bool.and_eq_false_imp, Bool.or_eq_true, Bool.or_eq_false_iff, decide_eq_true_eq, decide_eq_false_iff_not, Bool.false_eq_true, reduceCtorEq, Int.not_le, Int.not_lt, Decidable.not_not] at h)))
    | (with_reducible refine z_r ?_ ?_)
    | (with_reducible refine z_wg ?_ ?_)
    | (with_reducible refine z_w ?_ ?_)
    | ((with_reducible apply sh_nil); (intro _))
    | ((with_reducible apply sh_int); (intro _))
    | ((with_reducible apply sh_bool); (intro _))
    | ((with_reducible apply sh_sl); (intro _))
    | ((with_reducible refine z_xf ?zc ?zx ?_); (case zc => decide +kernel); (case zx => decide +kernel))
    | ((with_reducible refine z_o ?zo ?_); (case zo => decide +kernel))
    | ((with_reducible refine z_x ?zx ?_); (case zx => decide +kernel))
    | fail)
      all_goals ((try simp only [Int.toNat_natCast, tn1, tp1, List.length_map, eq_self, true_and, and_true] at *); (try simp (disch := omega) only [wr, Int.toNat_natCast, tn1, tp1, List.length_map, eq_self, true_and, and_true] at *))
      all_goals (first
        | omega
        | skip)
      refine z_li (fun j : Nat => j ≤ 6) (0 : Nat) (fun j => 6 - j) (fun j => ⟨[(1, .one (.ro dBlk (bs.map eBlk))), (5, .one (.root 11)), (6, .one (.root 16)), (7, .one (.int .i64 k)), (8, .one (.int .i64 j))], [(16, .row 3 dI ((qaL sp bs k j).map eI)), (11, .row 3 dI ((useK sp bs.length sp.length).map eI))]⟩) (by omega) ?_ ?_
      · simp only [List.length_map, fillTo_zero, Int.toNat_natCast, Option.isSome_some, and_self, fixB, Nat.reduceLeDiff, false_implies, true_implies, forall_const, St.le0, St.swaps, St.ren, mapV, renO, V.ren, Sc.ren, Ob.ren, swp, slsLe, obsLe, vLe, psLe, scLe, scsLe, obLe, Vq.look, Nat.reduceEqDiff, if_true, if_false, reduceCtorEq, ↓reduceIte, true_and, and_true] <;> (and_intros <;> first | rfl | omega | assumption)
      · intro j hj
        have hql := qaL_len sp bs k j
        have hqg := fun h => qaL_get sp bs k (j := j) h
        have hqs := fun h => qaL_set sp bs k (j := j) h
        have hug := useK_get sp (m := bs.length) (k := sp.length) (i := k) hlt
        rw [List.take_of_length_le (Nat.le_refl _)] at hug
        have hcn := cntS_bd sp k
        have hab := areaR_bd (bs.getD k default).1 (bs.getD k default).2 j
        have hmul : 0 ≤ cntS sp k * areaR (bs.getD k default).1 (bs.getD k default).2 j ∧ cntS sp k * areaR (bs.getD k default).1 (bs.getD k default).2 j ≤ 36 * 64 := ⟨Int.mul_nonneg hcn.1 hab.1, Int.mul_le_mul (by omega) hab.2 hab.1 (by omega)⟩
        have hqb := qaF_bd (sp := sp) (bs := bs) (by omega) (by omega) j k hk
        have hc := cellsN_get hlt
        repeat' (first
    | ((with_reducible refine z_run ?_); (conv => whnf))
    | (with_reducible apply z_t)
    | (with_reducible apply z_f)
    | ((with_reducible apply z_b); ((intro h); (try simp only [beq_self_eq_true, eq_self, not_true_eq_false, not_false_eq_true, decide_true, cond_true, cond_false, Bool.not_true, Bool.not_false, Bool.not_eq_true', Bool.not_eq_false', Bool.and_eq_true, Bool.and_eq_false_imp, Bool.or_eq_true, Bool.or_eq_false_iff, decide_eq_true_eq, decide_eq_false_iff_not, Bool.false_eq_true, reduceCtorEq, Int.not_le, Int.not_lt, Decidable.not_not] at h)); rotate_left; ((intro h); (try simp only [beq_self_eq_true, eq_self, not_true_eq_false, not_false_eq_true, decide_true, cond_true, cond_false, Bool.not_true, Bool.not_false, Bool.not_eq_true', Bool.not_eq_false', Bool.and_eq_true, Bool.and_eq_false_imp, Bool.or_eq_true, Bool.or_eq_false_iff, decide_eq_true_eq, decide_eq_false_iff_not, Bool.false_eq_true, reduceCtorEq, Int.not_le, Int.not_lt, Decidable.not_not] at h)))
    | (with_reducible refine z_r ?_ ?_)
    | (with_reducible refine z_wg ?_ ?_)
    | (with_reducible refine z_w ?_ ?_)
    | ((with_reducible apply sh_nil); (intro _))
    | ((with_reducible apply sh_int); (intro _))
    | ((with_reducible apply sh_bool); (intro _))
    | ((with_reducible apply sh_sl); (intro _))
    | ((with_reducible refine z_xf ?zc ?zx ?_); (case zc => decide +kernel); (case zx => decide +kernel))
    | (with_reducible refine z_k (specAreaOf _ _ (by simp only [Int.toNat_natCast]; omega) _) ?_)
    | ((with_reducible refine z_o ?zo ?_); (case zo => decide +kernel))
    | ((with_reducible refine z_x ?zx ?_); (case zx => decide +kernel))
    | fail)
        all_goals ((try simp only [Int.toNat_natCast, tn1, tp1, List.length_map, eq_self, true_and, and_true] at *); (try simp (disch := omega) only [wr, Int.toNat_natCast, tn1, tp1, List.length_map, eq_self, true_and, and_true] at *))
        all_goals (try rw [hug] at *)
        all_goals (try rw [hqg (by omega)] at *)
        all_goals (first
          | omega
          | (simp only [List.length_map, hql, hul]; omega)
          | (refine z_n (j + 1) ⟨by omega, by omega⟩ ?_; rw [← hqs (by omega), ← set_map]; (try rw [wr (x := cntS sp k * areaR (bs.getD k default).1 (bs.getD k default).2 j) ⟨by omega, by omega⟩]); (try rw [wr ⟨by omega, by omega⟩]); simp only [List.length_map, fillTo_zero, Int.toNat_natCast, Option.isSome_some, and_self, fixB, Nat.reduceLeDiff, false_implies, true_implies, forall_const, St.le0, St.swaps, St.ren, mapV, renO, V.ren, Sc.ren, Ob.ren, swp, slsLe, obsLe, vLe, psLe, scLe, scsLe, obLe, Vq.look, Nat.reduceEqDiff, if_true, if_false, reduceCtorEq, ↓reduceIte, true_and, and_true] <;> (and_intros <;> first | rfl | omega | assumption); done)
          | (have e : qaL sp bs (k + 1) 0 = qaL sp bs k j := (by rw [← qaL_next, show j = 6 by omega])
             refine z_n (k + 1) ⟨by omega, by omega⟩ ?_; rw [e]; simp only [List.length_map, fillTo_zero, Int.toNat_natCast, Option.isSome_some, and_self, fixB, Nat.reduceLeDiff, false_implies, true_implies, forall_const, St.le0, St.swaps, St.ren, mapV, renO, V.ren, Sc.ren, Ob.ren, swp, slsLe, obsLe, vLe, psLe, scLe, scsLe, obLe, Vq.look, Nat.reduceEqDiff, if_true, if_false, reduceCtorEq, ↓reduceIte, true_and, and_true] <;> (and_intros <;> first | rfl | omega | assumption); done)
          | (trace_state; fail))
    · repeat' (first
    | ((with_reducible refine z_run ?_); (conv => whnf))
    | (with_reducible apply z_t)
    | (with_reducible apply z_f)
    | ((with_reducible apply z_b); ((intro h); (try simp only [beq_self_eq_true, eq_self, not_true_eq_false, not_false_eq_true, decide_true, cond_true, cond_false, Bool.not_true, Bool.not_false, Bool.not_eq_true', Bool.not_eq_false', Bool.and_eq_true, Bool.and_eq_false_imp, Bool.or_eq_true, Bool.or_eq_false_iff, decide_eq_true_eq, decide_eq_false_iff_not, Bool.false_eq_true, reduceCtorEq, Int.not_le, Int.not_lt, Decidable.not_not] at h)); rotate_left; ((intro h); (try simp only [beq_self_eq_true, eq_self, not_true_eq_false, not_false_eq_true, decide_true, cond_true, cond_false, Bool.not_true, Bool.not_false, Bool.not_eq_true', Bool.not_eq_false', Bool.and_eq_true, Bool.and_eq_false_imp, Bool.or_eq_true, Bool.or_eq_false_iff, decide_eq_true_eq, decide_eq_false_iff_not, Bool.false_eq_true, reduceCtorEq, Int.not_le, Int.not_lt, Decidable.not_not] at h)))
    | (with_reducible refine z_r ?_ ?_)
    | (with_reducible refine z_wg ?_ ?_)
    | (with_reducible refine z_w ?_ ?_)
    | ((with_reducible apply sh_nil); (intro _))
    | ((with_reducible apply sh_int); (intro _))
    | ((with_reducible apply sh_bool); (intro _))
    | ((with_reducible apply sh_sl); (intro _))
    | ((with_reducible refine z_xf ?zc ?zx ?_); (case zc => decide +kernel); (case zx => decide +kernel))
    | ((with_reducible refine z_o ?zo ?_); (case zo => decide +kernel))
    | ((with_reducible refine z_x ?zx ?_); (case zx => decide +kernel))
    | fail)
      all_goals ((try simp only [Int.toNat_natCast, tn1, tp1, List.length_map, eq_self, true_and, and_true] at *); (try simp (disch := omega) only [wr, Int.toNat_natCast, tn1, tp1, List.length_map, eq_self, true_and, and_true] at *))
      all_goals (first
        | omega
        | (refine z_e rfl ?_; simp only [fin, finP, finM, ids, nodupB, tupP, tupM, memN, List.length_cons, List.length_nil, List.nil_append, List.append_nil, List.cons_append, Nat.zero_add, Nat.reduceAdd, ne_eq, not_false_eq_true, eq_self, ev, Vq.look, List.map_cons, List.map_nil, and_true, true_and, Nat.reduceEqDiff, if_true, if_false, reduceCtorEq, ↓reduceIte]; rw [qaR, show bs.length = k by omega]; done)
        | (trace_state; fail))
theorem cellA_turn {t : TCell} (h : cellOk t) (a : Int) : cellA (turnC t) a = cellA t a := by
  have h2 := turnC_ok h
  rw [cellA, if_pos h2, cellA, if_pos h]
  unfold turnC
  rw [if_pos h]
  by_cases e1 : t.1 = 1
  · rw [if_pos e1]; dsimp only; omega
  · rw [if_neg e1]
    by_cases e2 : t.1 = 2
    · rw [if_pos e2]
    · rw [if_neg e2]
theorem cellA_mir {t : TCell} (h : cellOk t) (a : Int) : cellA (mirC t) a = cellA t a := by
  have h2 := mirC_ok h
  rw [cellA, if_pos h2, cellA, if_pos h]
  unfold mirC
  rw [if_pos h]
  by_cases e1 : t.1 = 0
  · rw [if_pos e1]
  · rw [if_neg e1]; dsimp only; omega
theorem areaR_seen {b : TBlk} (h : bOk b) (a : Int) {k : Int} (hk : 0 ≤ k ∧ k ≤ 7) : areaR (seenB b k).1 (seenB b k).2 a = areaR b.1 b.2 a := by
  have hb : blkOk b.1 b.2 := h
  have hs : blkOk (seenB b k).1 (seenB b k).2 := (seenB_ok h hk).1
  rw [areaR, if_pos hs, areaR, if_pos hb]
  exact sumP_seenB h (fun t ht => cellA_turn ht a) (fun t ht => cellA_mir ht a) hk
theorem shS_ind {w g : Int} {sp : List TSpot} {bs : List TBlk} (h : qOk w g sp bs) {p : Nat → Prop} (h0 : p 0) (h1 : ∀ k, k < sp.length → bOk (seenB (bs.getD (sp.getD k default).1.toNat default) (sp.getD k default).2) → (seenB (bs.getD (sp.getD k default).1.toNat default) (sp.getD k default).2).1 = (bs.getD 0 default).1 → p k → p (k + 1)) : ∀ k, k ≤ sp.length → p k
  | 0, _ => h0
  | k + 1, hk => by
    have hsp := qOk_spot h (k := k) (by omega)
    have hbm := h.2.2 _ (getD_mem (l := bs) (k := (sp.getD k default).1.toNat) (by omega))
    have hs := seenB_ok (b := bs.getD (sp.getD k default).1.toNat default) hbm.1 hsp.2
    exact h1 k (by omega) hs.1 (hs.2.trans hbm.2) (shS_ind h h0 h1 k (by omega))
theorem two6 {A : Int} (h : 0 ≤ A ∧ A ≤ 5) : (if A = ((0 : Nat) : Int) then (2 : Int) else 0) + (if A = ((1 : Nat) : Int) then 2 else 0) + (if A = ((2 : Nat) : Int) then 2 else 0) + (if A = ((3 : Nat) : Int) then 2 else 0) + (if A = ((4 : Nat) : Int) then 2 else 0) + (if A = ((5 : Nat) : Int) then 2 else 0) = 2 := by
  have : A = 0 ∨ A = 1 ∨ A = 2 ∨ A = 3 ∨ A = 4 ∨ A = 5 := by omega
  rcases this with rfl | rfl | rfl | rfl | rfl | rfl <;> rfl
def sum6 (f : Nat → Int) : Nat → Int
  | 0 => 0
  | k + 1 => sum6 f k + f k
theorem area_sum6 {b : TBlk} (h : bOk b) : sum6 (fun a => areaR b.1 b.2 a) 6 = 4 * (b.1 * b.1) := by
  have hb : blkOk b.1 b.2 := h
  have hl := hb.2.1
  have : ∀ c : List TCell, (∀ t ∈ c, cellOk t) → sum6 (fun a => sumP (fun t => cellA t a) c) 6 = 4 * c.length := fun c => by
    induction c with
    | nil => intro _; simp [sumP, sum6]
    | cons t c ih =>
      intro hc
      have h1 := ih fun u hu => hc u (List.mem_cons_of_mem _ hu)
      have ht := hc t (List.mem_cons_self ..)
      have h2 := two6 ht.2.1
      have h3 := two6 ht.2.2.1
      simp only [sum6, sumP, List.map_cons, List.sum_cons, List.length_cons, cellA, if_pos ht] at h1 ⊢
      rw [Int.natCast_add]
      omega
  have := this b.2 hb.2.2
  simp only [areaR, if_pos hb]
  omega
theorem qa_sum6 {w g : Int} {sp : List TSpot} {bs : List TBlk} (h : qOk w g sp bs) : sum6 (fun a => qaF sp bs a bs.length) 6 = 4 * ((bs.getD 0 default).1 * (bs.getD 0 default).1) * sp.length := by
  have e : ∀ a : Nat, qaF sp bs a bs.length = shS (fun b => areaR b.1 b.2 a) sp bs sp.length := fun a => (shS_eq h (fun b => areaR b.1 b.2 a) (fun b hb k hk => areaR_seen hb a hk)).symm
  simp only [e]
  refine shS_ind h (p := fun k => sum6 (fun a => shS (fun b => areaR b.1 b.2 a) sp bs k) 6 = 4 * ((bs.getD 0 default).1 * (bs.getD 0 default).1) * k) (by simp [sum6, shS, shL]) (fun k hk hb hz ih => ?_) sp.length (Nat.le_refl _)
  have ha := area_sum6 hb
  have e4 : (seenB (bs.getD (sp.getD k default).1.toNat default) (sp.getD k default).2).1 * (seenB (bs.getD (sp.getD k default).1.toNat default) (sp.getD k default).2).1 = (bs.getD 0 default).1 * (bs.getD 0 default).1 := by rw [hz]
  have hs := fun a : Nat => shS_succ (fun b => areaR b.1 b.2 a) bs hk
  simp only [hs]
  simp only [sum6] at ih ha ⊢
  rw [show ((k + 1 : Nat) : Int) = k + 1 by omega, Int.mul_add, Int.mul_one]
  omega
def cellsAll : List TCell := (List.range 3).flatMap fun s : Nat => (List.range 6).flatMap fun a : Nat => (List.range 6).map fun b : Nat => (((s : Int), (a : Int), (b : Int)) : TCell)
theorem cell_mem {t : TCell} (h : cellOk t) : t ∈ cellsAll := by
  obtain ⟨s, a, b⟩ := t
  obtain ⟨h1, h2, h3, h4⟩ := h
  dsimp only at h1 h2 h3 h4
  refine List.mem_flatMap.2 ⟨s.toNat, List.mem_range.2 (by omega), List.mem_flatMap.2 ⟨a.toNat, List.mem_range.2 (by omega), List.mem_map.2 ⟨b.toNat, List.mem_range.2 (by omega), ?_⟩⟩⟩
  rw [Int.toNat_of_nonneg h1.1, Int.toNat_of_nonneg h2.1, Int.toNat_of_nonneg h3.1]
theorem cell_all {p : TCell → Prop} (h : ∀ t ∈ cellsAll, cellOk t → p t) {t : TCell} (ht : cellOk t) : p t := h t (cell_mem ht) ht
theorem turnC4 {t : TCell} (h : cellOk t) : turnC (turnC (turnC (turnC t))) = t := cell_all (p := fun t => turnC (turnC (turnC (turnC t))) = t) (by decide +kernel) h
theorem mirC2 {t : TCell} (h : cellOk t) : mirC (mirC t) = t := cell_all (p := fun t => mirC (mirC t) = t) (by decide +kernel) h
theorem tmtC {t : TCell} (h : cellOk t) : turnC (mirC (turnC t)) = mirC t := cell_all (p := fun t => turnC (mirC (turnC t)) = mirC t) (by decide +kernel) h
/-- cells that are changed and moved -/
def blkQ (m : Nat) (q : TCell → TCell) (f : Nat → Nat) (c : List TCell) : TBlk := ((m : Int), (List.range (m * m)).map fun k => q (c.getD (f k) default))
theorem rng_getD {m k : Nat} (g : Nat → TCell) (h : k < m) : ((List.range m).map g).getD k default = g k := by simp [List.getD, h]
theorem blkQ_ok {m : Nat} {q : TCell → TCell} (hq : ∀ t, cellOk t → cellOk (q t)) {c : List TCell} (h : blkOk m c) {f : Nat → Nat} (hf : ∀ k, k < m * m → f k < m * m) : bOk (blkQ m q f c) := map_ok hq h hf
theorem turnQ {m : Nat} {q : TCell → TCell} (hq : ∀ t, cellOk t → cellOk (q t)) {c : List TCell} (h : blkOk m c) {f : Nat → Nat} (hf : ∀ k, k < m * m → f k < m * m) : turnB (blkQ m q f c) = blkQ m (fun t => turnC (q t)) (fun k => f (rI m k)) c := by
  obtain ⟨m', e, hm, hl⟩ := blkN h
  obtain rfl : m = m' := by omega
  have ht : blkOk m ((List.range (m * m)).map fun k => q (c.getD (f k) default)) := blkQ_ok hq h hf
  rw [blkQ, turnB_eq ht, blkQ]
  congr 1
  refine List.map_congr_left fun k hk => ?_
  rw [rng_getD _ (rI_lt hm k (List.mem_range.1 hk))]
theorem mirQ {m : Nat} {q : TCell → TCell} (hq : ∀ t, cellOk t → cellOk (q t)) {c : List TCell} (h : blkOk m c) {f : Nat → Nat} (hf : ∀ k, k < m * m → f k < m * m) : mirB (blkQ m q f c) = blkQ m (fun t => mirC (q t)) (fun k => f (mI m k)) c := by
  obtain ⟨m', e, hm, hl⟩ := blkN h
  obtain rfl : m = m' := by omega
  have ht : blkOk m ((List.range (m * m)).map fun k => q (c.getD (f k) default)) := blkQ_ok hq h hf
  rw [blkQ, mirB_eq ht, blkQ]
  congr 1
  refine List.map_congr_left fun k hk => ?_
  rw [rng_getD _ (mI_lt hm k (List.mem_range.1 hk))]
theorem eqQ {m : Nat} {q q' : TCell → TCell} {c : List TCell} (h : blkOk m c) {f f' : Nat → Nat} (hf : ∀ k, k < m * m → f k < m * m) (hq : ∀ t, cellOk t → q t = q' t) (hff : ∀ k, k < m * m → f k = f' k) : blkQ m q f c = blkQ m q' f' c := by
  obtain ⟨m', e, hm, hl⟩ := blkN h
  obtain rfl : m = m' := by omega
  unfold blkQ
  congr 1
  refine List.map_congr_left fun k hk => ?_
  rw [← hff k (List.mem_range.1 hk), hq _ (blk_get h (by rw [hl]; exact hf k (List.mem_range.1 hk)))]
theorem idQ {m : Nat} {c : List TCell} (h : blkOk m c) : blkQ m (fun t => t) (fun k => k) c = ((m : Int), c) := by
  obtain ⟨m', e, hm, hl⟩ := blkN h
  obtain rfl : m = m' := by omega
  unfold blkQ
  congr 1
  rw [← hl]
  refine List.ext_getElem (by simp) fun i h1 h2 => ?_
  simp only [List.getElem_map, List.getElem_range]
  rw [List.getD_eq_getElem?_getD, List.getElem?_eq_getElem (by simpa using h1)]; rfl
theorem rI4 {m : Nat} (h : 1 ≤ m ∧ m ≤ 4) : ∀ k, k < m * m → rI m (rI m (rI m (rI m k))) = k := side4 (p := fun m => ∀ k, k < m * m → rI m (rI m (rI m (rI m k))) = k) h (by decide) (by decide) (by decide) (by decide)
theorem mI2 {m : Nat} (h : 1 ≤ m ∧ m ≤ 4) : ∀ k, k < m * m → mI m (mI m k) = k := side4 (p := fun m => ∀ k, k < m * m → mI m (mI m k) = k) h (by decide) (by decide) (by decide) (by decide)
theorem tmtI {m : Nat} (h : 1 ≤ m ∧ m ≤ 4) : ∀ k, k < m * m → rI m (mI m (rI m k)) = mI m k := side4 (p := fun m => ∀ k, k < m * m → rI m (mI m (rI m k)) = mI m k) h (by decide) (by decide) (by decide) (by decide)
theorem turnN4 {b : TBlk} (h : bOk b) : turnN 4 b = b := by
  obtain ⟨n, c⟩ := b
  obtain ⟨m, rfl, hm, hl⟩ := blkN h
  have r1 := rI_lt hm
  have e := idQ h
  have t1 : ∀ t, cellOk t → cellOk (turnC t) := fun t ht => turnC_ok ht
  simp only [turnN]
  rw [← e, turnQ (fun _ ht => ht) h (fun _ hk => hk), turnQ t1 h r1, turnQ (fun t ht => t1 _ (t1 t ht)) h (fun k hk => r1 _ (r1 k hk)), turnQ (fun t ht => t1 _ (t1 _ (t1 t ht))) h (fun k hk => r1 _ (r1 _ (r1 k hk)))]
  exact eqQ h (fun k hk => r1 _ (r1 _ (r1 _ (r1 k hk)))) (fun t ht => turnC4 ht) (rI4 hm)
theorem mirB2 {b : TBlk} (h : bOk b) : mirB (mirB b) = b := by
  obtain ⟨n, c⟩ := b
  obtain ⟨m, rfl, hm, hl⟩ := blkN h
  have r1 := mI_lt hm
  rw [← idQ h, mirQ (fun _ ht => ht) h (fun _ hk => hk), mirQ (fun t ht => mirC_ok ht) h r1]
  exact eqQ h (fun k hk => r1 _ (r1 k hk)) (fun t ht => mirC2 ht) (mI2 hm)
theorem tmtB {b : TBlk} (h : bOk b) : turnB (mirB (turnB b)) = mirB b := by
  obtain ⟨n, c⟩ := b
  obtain ⟨m, rfl, hm, hl⟩ := blkN h
  have r1 := rI_lt hm
  have r2 := mI_lt hm
  rw [← idQ h, turnQ (fun _ ht => ht) h (fun _ hk => hk), mirQ (fun t ht => turnC_ok ht) h r1, turnQ (fun t ht => mirC_ok (turnC_ok ht)) h (fun k hk => r1 _ (r2 k hk)), mirQ (fun _ ht => ht) h (fun _ hk => hk)]
  exact eqQ h (fun k hk => r1 _ (r2 _ (r1 k hk))) (fun t ht => tmtC ht) (tmtI hm)
theorem cellAt_turn {m : Nat} {c : List TCell} (h : blkOk m c) {x y : Nat} (hx : x < m) (hy : y < m) : cellAt (turnB (m, c)).1 (turnB (m, c)).2 ((m : Int) - 1 - y) x = turnC (cellAt m c x y) := by
  obtain ⟨m', e, hm, hl⟩ := blkN h
  obtain rfl : m = m' := by omega
  have ht := (turnB_ok (b := ((m : Int), c)) h).1
  rw [turnB_eq h] at ht ⊢
  rw [cellAt, if_pos ⟨ht, by omega, by omega⟩, cellAt, if_pos ⟨h, by omega, by omega⟩]
  dsimp only
  have e1 : ((x : Int) * m + ((m : Int) - 1 - y)).toNat = x * m + (m - 1 - y) := by
    rw [← Int.natCast_mul, show (m : Int) - 1 - y = ((m - 1 - y : Nat) : Int) by omega, ← Int.natCast_add, Int.toNat_natCast]
  have e2 : ((y : Int) * m + x).toNat = y * m + x := by rw [← Int.natCast_mul, ← Int.natCast_add, Int.toNat_natCast]
  have h1 : x * m + (m - 1 - y) < m * m := by
    have : x * m + m ≤ m * m := by rw [← Nat.succ_mul]; exact Nat.mul_le_mul_right m hx
    omega
  rw [e1, e2, rng_getD _ h1]
  congr 2
  unfold rI
  rw [Nat.mul_comm x m, Nat.mul_add_div (by omega), Nat.div_eq_of_lt (by omega), Nat.mul_add_mod, Nat.mod_eq_of_lt (by omega), show m - 1 - (m - 1 - y) = y by omega]
  rfl
theorem implCellArea (t : TCell) (a : Int) : FnC Try.prog 137 [aC t, (false, [.int .i64 a])] (.one (.int .i64 (cellA t a))) := by
  refine fn_z (ty := ty) (ts := [.tmp 4]) [0, 1, 2, 4, 5, 13, 23] mixed ty_ok Try.func137 (by kernel_rfl) rfl (by kernel_rfl) (by kernel_rfl) rfl (.inl rfl) (Nat.le_of_ble_eq_true rfl) (by simp only [entry, entryV, C.toS, Nat.zero_add, Nat.reduceAdd, List.map_cons, List.map_nil]; exact rfl) ?_
  repeat' (first
    | ((with_reducible refine z_run ?_); (conv => whnf))
    | (with_reducible apply z_t)
    | (with_reducible apply z_f)
    | ((with_reducible apply z_b); ((intro h); (try simp only [beq_self_eq_true, eq_self, not_true_eq_false, not_false_eq_true, decide_true, cond_true, cond_false, Bool.not_true, Bool.not_false, Bool.not_eq_true', Bool.not_eq_false', Bool.and_eq_true, Bool.and_eq_false_imp, Bool.or_eq_true, Bool.or_eq_false_iff, decide_eq_true_eq, decide_eq_false_iff_not, Bool.false_eq_true, reduceCtorEq, Int.not_le, Int.not_lt, Decidable.not_not] at h)); rotate_left; ((intro h); (try simp only [beq_self_eq_true, eq_self, not_true_eq_false, not_false_eq_true, decide_true, cond_true, cond_false, Bool.not_true, Bool.not_false, Bool.not_eq_true', Bool.not_eq_false', Bool.and_eq_true, Bool.and_eq_false_imp, Bool.or_eq_true, Bool.or_eq_false_iff, decide_eq_true_eq, decide_eq_false_iff_not, Bool.false_eq_true, reduceCtorEq, Int.not_le, Int.not_lt, Decidable.not_not] at h)))
    | (with_reducible refine z_r ?_ ?_)
    | (with_reducible refine z_wg ?_ ?_)
    | (with_reducible refine z_w ?_ ?_)
    | ((with_reducible apply sh_nil); (intro _))
    | ((with_reducible apply sh_int); (intro _))
    | ((with_reducible apply sh_bool); (intro _))
    | ((with_reducible apply sh_sl); (intro _))
    | ((with_reducible refine z_xf ?zc ?zx ?_); (case zc => decide +kernel); (case zx => decide +kernel))
    | (with_reducible refine z_k (implCellOkT _) ?_)
    | ((with_reducible refine z_o ?zo ?_); (case zo => decide +kernel))
    | ((with_reducible refine z_x ?zx ?_); (case zx => decide +kernel))
    | fail)
  all_goals ((try simp only [Int.toNat_natCast, tn1, tp1, List.length_map, eq_self, true_and, and_true] at *); (try simp (disch := omega) only [wr, Int.toNat_natCast, tn1, tp1, List.length_map, eq_self, true_and, and_true] at *))
  all_goals (first | contradiction | skip)
  all_goals (refine z_e rfl ?_; simp only [fin, finP, finM, ids, nodupB, tupP, tupM, memN, List.length_cons, List.length_nil, List.nil_append, List.append_nil, List.cons_append, Nat.zero_add, Nat.reduceAdd, ne_eq, not_false_eq_true, eq_self, ev, Vq.look, List.map_cons, List.map_nil, and_true, true_and, Nat.reduceEqDiff, if_true, if_false, reduceCtorEq, ↓reduceIte]; unfold cellA; (first | rw [if_pos (by assumption)] | rw [if_neg (by assumption)]) <;> (first | rfl | (simp [*]; done)))
theorem implAreaOf (n : Int) (c : List TCell) (hl : c.length ≤ 1048576) (a : Int) : FnC Try.prog 99 [aB n c, (false, [.int .i64 a])] (.one (.int .i64 (areaR n c a))) := by
  refine fn_z (ty := ty) (ts := [.tmp 4]) [0, 1, 2, 4, 5, 7, 10, 12, 13, 14, 15] mixed ty_ok Try.func99 (by kernel_rfl) rfl (by kernel_rfl) (by kernel_rfl) rfl (.inl rfl) (Nat.le_of_ble_eq_true rfl) (by simp only [entry, entryV, C.toS, Nat.zero_add, Nat.reduceAdd, List.map_cons, List.map_nil]; exact rfl) ?_
  repeat' (first
    | ((with_reducible refine z_run ?_); (conv => whnf))
    | (with_reducible apply z_t)
    | (with_reducible apply z_f)
    | ((with_reducible apply z_b); ((intro h); (try simp only [beq_self_eq_true, eq_self, not_true_eq_false, not_false_eq_true, decide_true, cond_true, cond_false, Bool.not_true, Bool.not_false, Bool.not_eq_true', Bool.not_eq_false', Bool.and_eq_true, Bool.and_eq_false_imp, Bool.or_eq_true, Bool.or_eq_false_iff, decide_eq_true_eq, decide_eq_false_iff_not, Bool.false_eq_true, reduceCtorEq, Int.not_le, Int.not_lt, Decidable.not_not] at h)); rotate_left; ((intro h); (try simp only [beq_self_eq_true, eq_self, not_true_eq_false, not_false_eq_true, decide_true, cond_true, cond_false, Bool.not_true, Bool.not_false, Bool.not_eq_true', Bool.not_eq_false', Bool.and_eq_true, Bool.and_eq_false_imp, Bool.or_eq_true, Bool.or_eq_false_iff, decide_eq_true_eq, decide_eq_false_iff_not, Bool.false_eq_true, reduceCtorEq, Int.not_le, Int.not_lt, Decidable.not_not] at h)))
    | (with_reducible refine z_r ?_ ?_)
    | (with_reducible refine z_wg ?_ ?_)
    | (with_reducible refine z_w ?_ ?_)
    | ((with_reducible apply sh_nil); (intro _))
    | ((with_reducible apply sh_int); (intro _))
    | ((with_reducible apply sh_bool); (intro _))
    | ((with_reducible apply sh_sl); (intro _))
    | ((with_reducible refine z_xf ?zc ?zx ?_); (case zc => decide +kernel); (case zx => decide +kernel))
    | (with_reducible refine z_k (implBlockOk _ _ (by omega)) ?_)
    | ((with_reducible refine z_o ?zo ?_); (case zo => decide +kernel))
    | ((with_reducible refine z_x ?zx ?_); (case zx => decide +kernel))
    | fail)
  all_goals ((try simp only [Int.toNat_natCast, tn1, tp1, List.length_map, eq_self, true_and, and_true] at *); (try simp (disch := omega) only [wr, Int.toNat_natCast, tn1, tp1, List.length_map, eq_self, true_and, and_true] at *))
  all_goals (first
    | (refine z_e rfl ?_; simp only [fin, finP, finM, ids, nodupB, tupP, tupM, memN, List.length_cons, List.length_nil, List.nil_append, List.append_nil, List.cons_append, Nat.zero_add, Nat.reduceAdd, ne_eq, not_false_eq_true, eq_self, ev, Vq.look, List.map_cons, List.map_nil, and_true, true_and, Nat.reduceEqDiff, if_true, if_false, reduceCtorEq, ↓reduceIte]; rw [areaR, if_neg (by assumption)])
    | skip)
  refine z_li (fun k => k ≤ c.length) (0 : Nat) (fun k => c.length - k) (fun k => ⟨[(1, .one (.int .i64 a)), (2, .one (.bx 2 0)), (5, .one (.int .i64 (sumP (fun t => cellA t a) (c.take k)))), (12, .one (.ro dCell (c.map eCell))), (13, .one (.int .i64 c.length)), (14, .one (.int .i64 k))], [(2, .box [.int .i64 n, .ro dCell (c.map eCell)])]⟩) (by omega) ?_ ?_
  · simp only [List.length_map, fillTo_zero, Int.toNat_natCast, Option.isSome_some, and_self, fixB, Nat.reduceLeDiff, false_implies, true_implies, forall_const, St.le0, St.swaps, St.ren, mapV, renO, V.ren, Sc.ren, Ob.ren, swp, slsLe, obsLe, vLe, psLe, scLe, scsLe, obLe, Vq.look, Nat.reduceEqDiff, if_true, if_false, reduceCtorEq, ↓reduceIte, true_and, and_true] <;> (and_intros <;> first | rfl | omega | assumption)
  · intro k hk
    have hs := cellA_sum c a k hk
    have hb := cellA_bd (c.getD k default) a
    repeat' (first
    | ((with_reducible refine z_run ?_); (conv => whnf))
    | (with_reducible apply z_t)
    | (with_reducible apply z_f)
    | ((with_reducible apply z_b); ((intro h); (try simp only [beq_self_eq_true, eq_self, not_true_eq_false, not_false_eq_true, decide_true, cond_true, cond_false, Bool.not_true, Bool.not_false, Bool.not_eq_true', Bool.not_eq_false', Bool.and_eq_true, Bool.and_eq_false_imp, Bool.or_eq_true, Bool.or_eq_false_iff, decide_eq_true_eq, decide_eq_false_iff_not, Bool.false_eq_true, reduceCtorEq, Int.not_le, Int.not_lt, Decidable.not_not] at h)); rotate_left; ((intro h); (try simp only [beq_self_eq_true, eq_self, not_true_eq_false, not_false_eq_true, decide_true, cond_true, cond_false, Bool.not_true, Bool.not_false, Bool.not_eq_true', Bool.not_eq_false', Bool.and_eq_true, Bool.and_eq_false_imp, Bool.or_eq_true, Bool.or_eq_false_iff, decide_eq_true_eq, decide_eq_false_iff_not, Bool.false_eq_true, reduceCtorEq, Int.not_le, Int.not_lt, Decidable.not_not] at h)))
    | (with_reducible refine z_r ?_ ?_)
    | (with_reducible refine z_wg ?_ ?_)
    | (with_reducible refine z_w ?_ ?_)
    | ((with_reducible apply sh_nil); (intro _))
    | ((with_reducible apply sh_int); (intro _))
    | ((with_reducible apply sh_bool); (intro _))
    | ((with_reducible apply sh_sl); (intro _))
    | ((with_reducible refine z_xf ?zc ?zx ?_); (case zc => decide +kernel); (case zx => decide +kernel))
    | (with_reducible refine z_k (implCellArea _ _) ?_)
    | ((with_reducible refine z_o ?zo ?_); (case zo => decide +kernel))
    | ((with_reducible refine z_x ?zx ?_); (case zx => decide +kernel))
    | fail)
    all_goals ((try simp only [Int.toNat_natCast, tn1, tp1, List.length_map, eq_self, true_and, and_true] at *); (try simp (disch := omega) only [wr, Int.toNat_natCast, tn1, tp1, List.length_map, eq_self, true_and, and_true] at *))
    all_goals (first
      | omega
      | (refine z_n (k + 1) ⟨by omega, by omega⟩ ?_; rw [sumP_take (by omega)]; simp only [List.length_map, fillTo_zero, Int.toNat_natCast, Option.isSome_some, and_self, fixB, Nat.reduceLeDiff, false_implies, true_implies, forall_const, St.le0, St.swaps, St.ren, mapV, renO, V.ren, Sc.ren, Ob.ren, swp, slsLe, obsLe, vLe, psLe, scLe, scsLe, obLe, Vq.look, Nat.reduceEqDiff, if_true, if_false, reduceCtorEq, ↓reduceIte, true_and, and_true] <;> (and_intros <;> first | rfl | omega | assumption); done)
      | (refine z_e rfl ?_; simp only [fin, finP, finM, ids, nodupB, tupP, tupM, memN, List.length_cons, List.length_nil, List.nil_append, List.append_nil, List.cons_append, Nat.zero_add, Nat.reduceAdd, ne_eq, not_false_eq_true, eq_self, ev, Vq.look, List.map_cons, List.map_nil, and_true, true_and, Nat.reduceEqDiff, if_true, if_false, reduceCtorEq, ↓reduceIte]; rw [areaR, if_pos (by assumption), List.take_of_length_le (by omega)])
      | (trace_state; fail))
/-! ### turned quilts -/
def prod1 (i : Int) : Int := if i < 4 then (i + 1) % 4 else 4 + (i + 1) % 4
theorem prod1_bd {i : Int} (h : 0 ≤ i ∧ i ≤ 7) : 0 ≤ prod1 i ∧ prod1 i ≤ 7 := by unfold prod1; split <;> omega
theorem prod14 {i : Int} (h : 0 ≤ i ∧ i ≤ 7) : prod1 (prod1 (prod1 (prod1 i))) = i := by
  have : i = 0 ∨ i = 1 ∨ i = 2 ∨ i = 3 ∨ i = 4 ∨ i = 5 ∨ i = 6 ∨ i = 7 := by omega
  rcases this with rfl | rfl | rfl | rfl | rfl | rfl | rfl | rfl <;> decide
theorem seen_prod {b : TBlk} (h : bOk b) {i : Int} (hi : 0 ≤ i ∧ i ≤ 7) : seenB b (prod1 i) = turnB (seenB b i) := by
  have hp := prod1_bd hi
  rw [seenB, if_pos ⟨h, hp⟩, seenB, if_pos ⟨h, hi⟩]
  have e : startB b (prod1 i) = startB b i := by unfold startB prod1; split <;> split <;> (first | rfl | omega)
  rw [e]
  have h4 := turnN4 (startB_ok h i).1
  by_cases h3 : i % 4 = 3
  · have e0 : (prod1 i % 4).toNat = 0 := by unfold prod1; split <;> omega
    rw [e0, show (i % 4).toNat = 3 by omega]
    exact h4.symm
  · rw [show (prod1 i % 4).toNat = (i % 4).toNat + 1 by unfold prod1; split <;> omega]; rfl
def madeP {α : Type} (n : Nat) (g : Nat → Nat → α) (y x : Nat) : List α := ((List.range y).flatMap fun j => (List.range n).map (g j)) ++ (List.range x).map (g y)
theorem madeP_len {α : Type} (n : Nat) (g : Nat → Nat → α) (y x : Nat) : (madeP n g y x).length = y * n + x := by
  unfold madeP
  rw [List.length_append, List.length_flatMap]
  simp only [List.length_map, List.length_range]
  rw [show (List.range y).map (fun _ => n) = List.replicate y n by rw [List.map_const', List.length_range]]
  simp
theorem madeP_succ {α : Type} (n : Nat) (g : Nat → Nat → α) (y x : Nat) : madeP n g y (x + 1) = madeP n g y x ++ [g y x] := by
  simp [madeP, List.range_succ]
theorem madeP_next {α : Type} (n : Nat) (g : Nat → Nat → α) (y : Nat) : madeP n g (y + 1) 0 = madeP n g y n := by
  simp [madeP, List.range_succ]
theorem madeP_get {α : Type} (n : Nat) (g : Nat → Nat → α) : ∀ (y x : Nat), x ≤ n → madeP n g y x = (List.range (y * n + x)).map fun k => g (k / n) (k % n) := by
  have one : ∀ y x, x ≤ n → (madeP n g y 0 = (List.range (y * n)).map fun k => g (k / n) (k % n)) → madeP n g y x = (List.range (y * n + x)).map fun k => g (k / n) (k % n) := by
    intro y x hx h0
    induction x with
    | zero => exact h0
    | succ x ih =>
      rw [madeP_succ, ih (by omega), show y * n + (x + 1) = (y * n + x) + 1 by omega, List.range_succ, List.map_append]
      congr 1
      simp only [List.map_cons, List.map_nil]
      rw [Nat.mul_comm y n, Nat.mul_add_div (by omega), Nat.div_eq_of_lt (by omega), Nat.mul_add_mod, Nat.mod_eq_of_lt (by omega)]
      simp
  intro y
  induction y with
  | zero => intro x hx; exact one 0 x hx (by simp [madeP])
  | succ y ih =>
    intro x hx
    refine one (y + 1) x hx ?_
    rw [madeP_next, ih n (Nat.le_refl _)]
    congr 2
    rw [Nat.succ_mul]
def spT (s : TSpot) : TSpot := (s.1, prod1 s.2)
def fI (w g k : Nat) : Nat := (g - 1 - k % g) * w + k / g
def tqS (w g : Nat) (sp : List TSpot) (y x : Nat) : TSpot := spT (sp.getD ((g - 1 - x) * w + y) default)
def tqL (w g : Nat) (sp : List TSpot) : List TSpot := madeP g (tqS w g sp) w 0
theorem tqL_eq (w g : Nat) (sp : List TSpot) : tqL w g sp = (List.range (w * g)).map fun k => spT (sp.getD (fI w g k) default) := madeP_get g (tqS w g sp) w 0 (by omega)
theorem tqL_len (w g : Nat) (sp : List TSpot) : (tqL w g sp).length = w * g := by rw [tqL, madeP_len]; rfl
theorem fI_lt : ∀ w, w < 7 → ∀ g, g < 7 → ∀ k, k < w * g → fI w g k < w * g := by decide +kernel
theorem fI_perm : ∀ w, w < 7 → ∀ g, g < 7 → ((List.range (w * g)).map (fI w g)).Perm (List.range (w * g)) := by decide +kernel
theorem fI_four : ∀ w, w < 7 → ∀ g, g < 7 → ∀ k, k < w * g → fI w g (fI g w (fI w g (fI g w k))) = k := by decide +kernel
theorem tqL_get {w g : Nat} {sp : List TSpot} {k : Nat} (h : k < w * g) : (tqL w g sp).getD k default = spT (sp.getD (fI w g k) default) := by rw [tqL_eq]; simp [List.getD, h]
structure WG (w g : Nat) : Prop where
  w1 : 1 ≤ w
  w6 : w ≤ 6
  g1 : 1 ≤ g
  g6 : g ≤ 6
theorem qOk_wg {w g : Nat} {sp : List TSpot} {bs : List TBlk} (h : qOk w g sp bs) : WG w g ∧ sp.length = w * g := by
  have h1 := h.1.1
  have h2 := h.1.2.1
  have h3 := h.1.2.2.1
  exact ⟨⟨by omega, by omega, by omega, by omega⟩, by exact_mod_cast h3⟩
theorem tq_ok {w g : Nat} {sp : List TSpot} {bs : List TBlk} (h : qOk w g sp bs) : qOk g w (tqL w g sp) bs := by
  obtain ⟨hw, hl⟩ := qOk_wg h
  refine ⟨⟨h.1.2.1, h.1.1, by rw [tqL_len, Nat.mul_comm]; simp, fun s hs => ?_⟩, h.2.1, h.2.2⟩
  rw [tqL_eq] at hs
  obtain ⟨k, hk, rfl⟩ := List.mem_map.1 hs
  have hsp := h.1.2.2.2 _ (getD_mem (l := sp) (k := fI w g k) (by rw [hl]; exact fI_lt w (by have := hw.w6; omega) g (by have := hw.g6; omega) k (List.mem_range.1 hk)))
  exact ⟨hsp.1, prod1_bd hsp.2⟩
theorem tq4 {w g : Nat} {sp : List TSpot} {bs : List TBlk} (h : qOk w g sp bs) : tqL g w (tqL w g (tqL g w (tqL w g sp))) = sp := by
  obtain ⟨hw, hl⟩ := qOk_wg h
  have w7 : w < 7 := by have := hw.w6; omega
  have g7 : g < 7 := by have := hw.g6; omega
  have hcm : g * w = w * g := Nat.mul_comm g w
  refine List.ext_getElem (by rw [tqL_len, hl, Nat.mul_comm]) fun k h1 h2 => ?_
  have hk : k < w * g := by rw [← hl]; exact h2
  have k1 := fI_lt g g7 w w7 k (by omega)
  have k2 := fI_lt w w7 g g7 _ (by omega : fI g w k < w * g)
  have k3 := fI_lt g g7 w w7 _ (by omega : fI w g (fI g w k) < g * w)
  have k4 := fI_four w w7 g g7 k hk
  have e : (tqL g w (tqL w g (tqL g w (tqL w g sp)))).getD k default = sp.getD k default := by
    rw [tqL_get (by omega), tqL_get (by omega), tqL_get (by omega), tqL_get (by omega), k4]
    have hs := h.1.2.2.2 _ (getD_mem (l := sp) (k := k) (by omega))
    simp only [spT]
    rw [prod14 hs.2]
  rw [List.getD_eq_getElem?_getD, List.getElem?_eq_getElem h1, List.getD_eq_getElem?_getD, List.getElem?_eq_getElem h2] at e
  exact e
theorem cnt_perm {l l' : List TSpot} (i : Nat) (h : (l.map (·.1)).Perm (l'.map (·.1))) : cntS l i = cntS l' i := by
  have e : ∀ l : List TSpot, l.countP (fun s => decide (s.1 = (i : Int))) = (l.map (·.1)).countP (fun a => decide (a = (i : Int))) := fun l => by rw [List.countP_map]; rfl
  unfold cntS
  rw [e l, e l', h.countP_eq]
theorem tq_cnt {w g : Nat} {sp : List TSpot} {bs : List TBlk} (h : qOk w g sp bs) (i : Nat) : cntS (tqL w g sp) i = cntS sp i := by
  obtain ⟨hw, hl⟩ := qOk_wg h
  refine cnt_perm i ?_
  have e1 : (tqL w g sp).map (·.1) = ((List.range (w * g)).map (fI w g)).map fun k => (sp.getD k default).1 := by rw [tqL_eq]; simp [spT]
  have e2 : sp.map (·.1) = (List.range (w * g)).map fun k => (sp.getD k default).1 := by
    rw [← hl]
    refine List.ext_getElem (by simp) fun k h1 h2 => ?_
    simp only [List.getElem_map, List.getElem_range]
    rw [List.getD_eq_getElem?_getD, List.getElem?_eq_getElem (by simpa using h1)]; rfl
  rw [e1, e2]
  exact (fI_perm w (by have := hw.w6; omega) g (by have := hw.g6; omega)).map _
theorem usum_congr {l l' : List TSpot} (f : Nat → Int) (h : ∀ i, cntS l i = cntS l' i) : ∀ m, usum l f m = usum l' f m
  | 0 => rfl
  | m + 1 => by simp only [usum]; rw [usum_congr f h m, h]
theorem tq_areas {w g : Nat} {sp : List TSpot} {bs : List TBlk} (h : qOk w g sp bs) : qaR (tqL w g sp) bs = qaR sp bs := by
  unfold qaR qaL
  refine List.map_congr_left fun a _ => ?_
  rw [if_neg (by omega), if_neg (by omega)]
  exact usum_congr _ (tq_cnt h) _
theorem use_sum {w g : Int} {sp : List TSpot} {bs : List TBlk} (h : qOk w g sp bs) : usum sp (fun _ => 1) bs.length = sp.length := by
  rw [usum_all _ _ sp fun s hs => by have := h.1.2.2.2 s hs; unfold spotOk at this; omega]
  have : ∀ l : List TSpot, (l.map fun _ => (1 : Int)).sum = l.length := fun l => by
    induction l with
    | nil => rfl
    | cons a l ih => simp only [List.map_cons, List.sum_cons, ih, List.length_cons]; omega
  exact this sp
/-- what a spot shows, and a cell of the whole -/
def shAt (w : Nat) (sp : List TSpot) (bs : List TBlk) (x y : Nat) : TBlk := seenB (bs.getD (sp.getD (y * w + x) default).1.toNat default) (sp.getD (y * w + x) default).2
def whAt (n w : Nat) (sp : List TSpot) (bs : List TBlk) (x y : Nat) : TCell := cellAt (shAt w sp bs (x / n) (y / n)).1 (shAt w sp bs (x / n) (y / n)).2 ((x % n : Nat) : Int) ((y % n : Nat) : Int)
theorem shAt_ok {w g : Nat} {sp : List TSpot} {bs : List TBlk} (h : qOk w g sp bs) {n : Nat} (hn : (bs.getD 0 default).1 = n) {x y : Nat} (hx : x < w) (hy : y < g) : bOk (shAt w sp bs x y) ∧ (shAt w sp bs x y).1 = n ∧ y * w + x < sp.length := by
  obtain ⟨hw, hl⟩ := qOk_wg h
  have hk : y * w + x < sp.length := by
    rw [hl]
    have : (y + 1) * w ≤ g * w := Nat.mul_le_mul_right w hy
    rw [Nat.succ_mul] at this
    rw [Nat.mul_comm w g]; omega
  have hsp := qOk_spot h hk
  have hbm := h.2.2 _ (getD_mem (l := bs) (k := (sp.getD (y * w + x) default).1.toNat) (by omega))
  have hs := seenB_ok (b := bs.getD (sp.getD (y * w + x) default).1.toNat default) hbm.1 hsp.2
  exact ⟨hs.1, hs.2.trans (hbm.2.trans hn), hk⟩
theorem dmN {n a b : Nat} (h : b < n) : (n * a + b) / n = a ∧ (n * a + b) % n = b := by
  rw [Nat.mul_add_div (by omega), Nat.div_eq_of_lt h, Nat.mul_add_mod, Nat.mod_eq_of_lt h]; exact ⟨rfl, rfl⟩
theorem backN {g n Y u : Nat} (hY : Y < g) (hu : u < n) : g * n - 1 - (n * Y + u) = n * (g - 1 - Y) + (n - 1 - u) := by
  have e1 : n * g = n * (g - 1 - Y) + n * Y + n := by rw [← Nat.mul_add, ← Nat.mul_succ]; congr 1; omega
  rw [Nat.mul_comm g n]; omega
theorem fI_at {w g X Y : Nat} (hX : X < w) (hY : Y < g) : X * g + (g - 1 - Y) < w * g ∧ fI w g (X * g + (g - 1 - Y)) = Y * w + X := by
  have h1 : (X + 1) * g ≤ w * g := Nat.mul_le_mul_right g hX
  rw [Nat.succ_mul] at h1
  have h2 := dmN (n := g) (a := X) (b := g - 1 - Y) (by omega)
  rw [Nat.mul_comm X g]
  rw [Nat.mul_comm X g] at h1
  refine ⟨by omega, ?_⟩
  unfold fI
  rw [h2.1, h2.2, show g - 1 - (g - 1 - Y) = Y by omega]
theorem sh_turn {w g : Nat} {sp : List TSpot} {bs : List TBlk} (h : qOk w g sp bs) {n : Nat} (hn : (bs.getD 0 default).1 = n) {X Y : Nat} (hX : X < w) (hY : Y < g) : shAt g (tqL w g sp) bs (g - 1 - Y) X = turnB (shAt w sp bs X Y) := by
  obtain ⟨h1, h2⟩ := fI_at hX hY
  have hs := shAt_ok h hn hX hY
  have hsp := qOk_spot h hs.2.2
  have hbm := h.2.2 _ (getD_mem (l := bs) (k := (sp.getD (Y * w + X) default).1.toNat) (by omega))
  unfold shAt
  rw [tqL_get h1, h2]
  exact seen_prod hbm.1 hsp.2
theorem wh_turn {w g : Nat} {sp : List TSpot} {bs : List TBlk} (h : qOk w g sp bs) {n : Nat} (hn : (bs.getD 0 default).1 = n) (hn1 : 1 ≤ n) {x y : Nat} (hx : x < w * n) (hy : y < g * n) : whAt n g (tqL w g sp) bs (g * n - 1 - y) x = turnC (whAt n w sp bs x y) := by
  have hxn : x / n < w := Nat.div_lt_of_lt_mul (by rw [Nat.mul_comm]; exact hx)
  have hyn : y / n < g := Nat.div_lt_of_lt_mul (by rw [Nat.mul_comm]; exact hy)
  have hxm : x % n < n := Nat.mod_lt _ hn1
  have hym : y % n < n := Nat.mod_lt _ hn1
  have hyd := Nat.div_add_mod y n
  unfold whAt
  generalize x / n = X at *
  generalize x % n = u at *
  generalize hY : y / n = Y at *
  generalize hv : y % n = v at *
  have e0 := backN hyn hym
  have hd := dmN (n := n) (a := g - 1 - Y) (b := n - 1 - v) (by omega)
  rw [← hyd, e0, hd.1, hd.2, sh_turn h hn hxn hyn]
  obtain ⟨ho, hz, _⟩ := shAt_ok h hn hxn hyn
  generalize shAt w sp bs X Y = B at *
  obtain ⟨z, cs⟩ := B
  obtain rfl : z = n := hz
  have := cellAt_turn (c := cs) ho hxm hym
  rw [show ((n - 1 - v : Nat) : Int) = (n : Int) - 1 - (v : Nat) by omega]
  exact this
/-! ### contracts -/
theorem implProductOf (i : Int) (h : 0 ≤ i ∧ i ≤ 7) : FnC Try.prog 71 [(false, [.int .i64 i]), (false, [.int .i64 1])] (.one (.int .i64 (prod1 i))) := by
  refine fn_z (ty := ty) (ts := [.tmp 4]) [0, 1, 4, 12, 13, 24, 32] mixed ty_ok Try.func71 (by kernel_rfl) rfl (by kernel_rfl) (by kernel_rfl) rfl (.inl rfl) (Nat.le_of_ble_eq_true rfl) (by simp only [entry, entryV, C.toS, Nat.zero_add, Nat.reduceAdd, List.map_cons, List.map_nil]; exact rfl) ?_
  repeat' (first
    | ((with_reducible refine z_run ?_); (conv => whnf))
    | (with_reducible apply z_t)
    | (with_reducible apply z_f)
    | ((with_reducible apply z_b); ((intro h); (try simp only [beq_self_eq_true, eq_self, not_true_eq_false, not_false_eq_true, decide_true, cond_true, cond_false, Bool.not_true, Bool.not_false, Bool.not_eq_true', Bool.not_eq_false', Bool.and_eq_true, Bool.and_eq_false_imp, Bool.or_eq_true, Bool.or_eq_false_iff, decide_eq_true_eq, decide_eq_false_iff_not, Bool.false_eq_true, reduceCtorEq, Int.not_le, Int.not_lt, Decidable.not_not] at h)); rotate_left; ((intro h); (try simp only [beq_self_eq_true, eq_self, not_true_eq_false, not_false_eq_true, decide_true, cond_true, cond_false, Bool.not_true, Bool.not_false, Bool.not_eq_true', Bool.not_eq_false', Bool.and_eq_true, Bool.and_eq_false_imp, Bool.or_eq_true, Bool.or_eq_false_iff, decide_eq_true_eq, decide_eq_false_iff_not, Bool.false_eq_true, reduceCtorEq, Int.not_le, Int.not_lt, Decidable.not_not] at h)))
    | (with_reducible refine z_r ?_ ?_)
    | (with_reducible refine z_wg ?_ ?_)
    | (with_reducible refine z_w ?_ ?_)
    | ((with_reducible apply sh_nil); (intro _))
    | ((with_reducible apply sh_int); (intro _))
    | ((with_reducible apply sh_bool); (intro _))
    | ((with_reducible apply sh_sl); (intro _))
    | ((with_reducible refine z_xf ?zc ?zx ?_); (case zc => decide +kernel); (case zx => decide +kernel))
    | (with_reducible refine z_k (within_fn _ _ _) ?_)
    | ((with_reducible refine z_o ?zo ?_); (case zo => decide +kernel))
    | ((with_reducible refine z_x ?zx ?_); (case zx => decide +kernel))
    | fail)
  all_goals ((try simp only [Int.toNat_natCast, tn1, tp1, List.length_map, eq_self, true_and, and_true] at *); (try simp (disch := omega) only [wr, Int.toNat_natCast, tn1, tp1, List.length_map, eq_self, true_and, and_true] at *))
  all_goals (try rw [Int.tmod_eq_emod_of_nonneg (by omega)] at *)
  all_goals ((try simp only [Int.toNat_natCast, tn1, tp1, List.length_map, eq_self, true_and, and_true] at *); (try simp (disch := omega) only [wr, Int.toNat_natCast, tn1, tp1, List.length_map, eq_self, true_and, and_true] at *))
  all_goals (first
    | omega
    | (exfalso; omega)
    | (refine z_e rfl ?_; simp only [fin, finP, finM, ids, nodupB, tupP, tupM, memN, List.length_cons, List.length_nil, List.nil_append, List.append_nil, List.cons_append, Nat.zero_add, Nat.reduceAdd, ne_eq, not_false_eq_true, eq_self, ev, Vq.look, List.map_cons, List.map_nil, and_true, true_and, Nat.reduceEqDiff, if_true, if_false, reduceCtorEq, ↓reduceIte]; rw [prod1, if_pos (by omega)]; done)
    | (refine z_e rfl ?_; simp only [fin, finP, finM, ids, nodupB, tupP, tupM, memN, List.length_cons, List.length_nil, List.nil_append, List.append_nil, List.cons_append, Nat.zero_add, Nat.reduceAdd, ne_eq, not_false_eq_true, eq_self, ev, Vq.look, List.map_cons, List.map_nil, and_true, true_and, Nat.reduceEqDiff, if_true, if_false, reduceCtorEq, ↓reduceIte]; rw [prod1, if_neg (by omega)]; done)
    | (trace_state; fail))
theorem shown_fz (w g : Int) (sp : List TSpot) (bs : List TBlk) (hl : sp.length + bs.length + cellsN bs ≤ 1048576) (hq : qOk w g sp bs) : FnC Try.prog 83 [aQ w g sp, aBs bs] (.one (.fz dBlk ((shL sp bs sp.length).map eBlk))) := by
  have h := shown_fn w g sp bs hl hq
  refine ⟨h.cal, h.fn.weak ?_⟩
  simp only [List.length_map, fillTo_zero, Int.toNat_natCast, Option.isSome_some, and_self, fixB, Nat.reduceLeDiff, false_implies, true_implies, forall_const, St.le0, St.swaps, St.ren, mapV, renO, V.ren, Sc.ren, Ob.ren, swp, slsLe, obsLe, vLe, psLe, scLe, scsLe, obLe, Vq.look, Nat.reduceEqDiff, if_true, if_false, reduceCtorEq, ↓reduceIte, true_and, and_true, Rs.V, Rs.O, scsOf, obsOf]
theorem implTurnQuilt (w g : Nat) (sp : List TSpot) (bs : List TBlk) (hl : sp.length + bs.length + cellsN bs ≤ 1048576) (hq : qOk w g sp bs) : FnC Try.prog 25 [aQ w g sp, aBs bs] (.tup [(true, rQ g w (tqL w g sp)), (false, [.bool true])]) := by
  obtain ⟨hwg, hsl⟩ := qOk_wg hq
  have w1 := hwg.w1
  have w6 := hwg.w6
  have g1 := hwg.g1
  have g6 := hwg.g6
  refine fn_z (ty := ty) (ts := [.cell 4 32 3, .tmp 5]) [0, 1, 2, 4, 5, 6, 7, 8, 9, 13, 22, 23, 24, 27, 28, 29, 4] mixed ty_ok Try.func25 (by kernel_rfl) rfl (by kernel_rfl) (by kernel_rfl) rfl (.inr (.inl rfl)) (Nat.le_of_ble_eq_true rfl) (by simp only [entry, entryV, C.toS, Nat.zero_add, Nat.reduceAdd, List.map_cons, List.map_nil]; exact rfl) ?_
  repeat' (first
    | ((with_reducible refine z_run ?_); (conv => whnf))
    | (with_reducible apply z_t)
    | (with_reducible apply z_f)
    | ((with_reducible apply z_b); ((intro h); (try simp only [beq_self_eq_true, eq_self, not_true_eq_false, not_false_eq_true, decide_true, cond_true, cond_false, Bool.not_true, Bool.not_false, Bool.not_eq_true', Bool.not_eq_false', Bool.and_eq_true, Bool.and_eq_false_imp, Bool.or_eq_true, Bool.or_eq_false_iff, decide_eq_true_eq, decide_eq_false_iff_not, Bool.false_eq_true, reduceCtorEq, Int.not_le, Int.not_lt, Decidable.not_not] at h)); rotate_left; ((intro h); (try simp only [beq_self_eq_true, eq_self, not_true_eq_false, not_false_eq_true, decide_true, cond_true, cond_false, Bool.not_true, Bool.not_false, Bool.not_eq_true', Bool.not_eq_false', Bool.and_eq_true, Bool.and_eq_false_imp, Bool.or_eq_true, Bool.or_eq_false_iff, decide_eq_true_eq, decide_eq_false_iff_not, Bool.false_eq_true, reduceCtorEq, Int.not_le, Int.not_lt, Decidable.not_not] at h)))
    | (with_reducible refine z_r ?_ ?_)
    | (with_reducible refine z_wg ?_ ?_)
    | (with_reducible refine z_w ?_ ?_)
    | ((with_reducible apply sh_nil); (intro _))
    | ((with_reducible apply sh_int); (intro _))
    | ((with_reducible apply sh_bool); (intro _))
    | ((with_reducible apply sh_sl); (intro _))
    | ((with_reducible refine z_xf ?zc ?zx ?_); (case zc => decide +kernel); (case zx => decide +kernel))
    | (with_reducible refine z_k (implQuiltOk _ _ _ _ hl) ?_)
    | ((with_reducible refine z_o ?zo ?_); (case zo => decide +kernel))
    | ((with_reducible refine z_x ?zx ?_); (case zx => decide +kernel))
    | fail)
  all_goals ((try simp only [Int.toNat_natCast, tn1, tp1, List.length_map, eq_self, true_and, and_true] at *); (try simp (disch := omega) only [wr, Int.toNat_natCast, tn1, tp1, List.length_map, eq_self, true_and, and_true] at *))
  all_goals (first
    | contradiction
    | skip)
  refine z_li (fun y : Nat => y ≤ w) (0 : Nat) (fun y => w - y) (fun y => ⟨[(1, .one (.ro dBlk (bs.map eBlk))), (2, .one (.bx 2 0)), (4, .one (.bx 4 0)), (6, .one (.bx 6 0)), (22, .one (.int .i64 w)), (23, .one (.int .i64 y))], [(6, .box [.int .i64 g, .int .i64 w, .root 77]), (77, .row 82 dSpot ((madeP g (tqS w g sp) y 0).map eSpot)), (4, .box [.int .i64 0, .int .i64 0, .nil]), (2, .box [.int .i64 w, .int .i64 g, .ro dSpot (sp.map eSpot)])]⟩) (by omega) ?_ ?_
  · simp only [List.length_map, fillTo_zero, Int.toNat_natCast, Option.isSome_some, and_self, fixB, Nat.reduceLeDiff, false_implies, true_implies, forall_const, St.le0, St.swaps, St.ren, mapV, renO, V.ren, Sc.ren, Ob.ren, swp, slsLe, obsLe, vLe, psLe, scLe, scsLe, obLe, Vq.look, Nat.reduceEqDiff, if_true, if_false, reduceCtorEq, ↓reduceIte, true_and, and_true, madeP, List.range_zero, List.flatMap_nil, List.map_nil, List.append_nil]; and_intros <;> first | rfl | omega
  · intro y hy
    repeat' (first
    | ((with_reducible refine z_run ?_); (conv => whnf))
    | (with_reducible apply z_t)
    | (with_reducible apply z_f)
    | ((with_reducible apply z_b); ((intro h); (try simp only [beq_self_eq_true, eq_self, not_true_eq_false, not_false_eq_true, decide_true, cond_true, cond_false, Bool.not_true, Bool.not_false, Bool.not_eq_true', Bool.not_eq_false', Bool.and_eq_true, Bool.and_eq_false_imp, Bool.or_eq_true, Bool.or_eq_false_iff, decide_eq_true_eq, decide_eq_false_iff_not, Bool.false_eq_true, reduceCtorEq, Int.not_le, Int.not_lt, Decidable.not_not] at h)); rotate_left; ((intro h); (try simp only [beq_self_eq_true, eq_self, not_true_eq_false, not_false_eq_true, decide_true, cond_true, cond_false, Bool.not_true, Bool.not_false, Bool.not_eq_true', Bool.not_eq_false', Bool.and_eq_true, Bool.and_eq_false_imp, Bool.or_eq_true, Bool.or_eq_false_iff, decide_eq_true_eq, decide_eq_false_iff_not, Bool.false_eq_true, reduceCtorEq, Int.not_le, Int.not_lt, Decidable.not_not] at h)))
    | (with_reducible refine z_r ?_ ?_)
    | (with_reducible refine z_wg ?_ ?_)
    | (with_reducible refine z_w ?_ ?_)
    | ((with_reducible apply sh_nil); (intro _))
    | ((with_reducible apply sh_int); (intro _))
    | ((with_reducible apply sh_bool); (intro _))
    | ((with_reducible apply sh_sl); (intro _))
    | ((with_reducible refine z_xf ?zc ?zx ?_); (case zc => decide +kernel); (case zx => decide +kernel))
    | ((with_reducible refine z_o ?zo ?_); (case zo => decide +kernel))
    | ((with_reducible refine z_x ?zx ?_); (case zx => decide +kernel))
    | fail)
    all_goals ((try simp only [Int.toNat_natCast, tn1, tp1, List.length_map, eq_self, true_and, and_true] at *); (try simp (disch := omega) only [wr, Int.toNat_natCast, tn1, tp1, List.length_map, eq_self, true_and, and_true] at *))
    all_goals (first
      | omega
      | (refine z_e rfl ?_; simp only [fin, finP, finM, ids, nodupB, tupP, tupM, memN, List.length_cons, List.length_nil, List.nil_append, List.append_nil, List.cons_append, Nat.zero_add, Nat.reduceAdd, ne_eq, not_false_eq_true, eq_self, ev, Vq.look, List.map_cons, List.map_nil, and_true, true_and, Nat.reduceEqDiff, if_true, if_false, reduceCtorEq, ↓reduceIte]; rw [tqL, show w = y by omega]; first | done | rfl | (and_intros <;> rfl))
      | skip)
    refine z_li (fun x : Nat => x ≤ g) (0 : Nat) (fun x => g - x) (fun x => ⟨[(1, .one (.ro dBlk (bs.map eBlk))), (2, .one (.bx 2 0)), (4, .one (.bx 4 0)), (6, .one (.bx 6 0)), (7, .one (.int .i64 y)), (22, .one (.int .i64 w)), (23, .one (.int .i64 y)), (27, .one (.int .i64 g)), (28, .one (.int .i64 x))], [(6, .box [.int .i64 g, .int .i64 w, .root 77]), (77, .row 82 dSpot ((madeP g (tqS w g sp) y x).map eSpot)), (4, .box [.int .i64 0, .int .i64 0, .nil]), (2, .box [.int .i64 w, .int .i64 g, .ro dSpot (sp.map eSpot)])]⟩) (by omega) ?_ ?_
    · simp only [List.length_map, fillTo_zero, Int.toNat_natCast, Option.isSome_some, and_self, fixB, Nat.reduceLeDiff, false_implies, true_implies, forall_const, St.le0, St.swaps, St.ren, mapV, renO, V.ren, Sc.ren, Ob.ren, swp, slsLe, obsLe, vLe, psLe, scLe, scsLe, obLe, Vq.look, Nat.reduceEqDiff, if_true, if_false, reduceCtorEq, ↓reduceIte, true_and, and_true] <;> (and_intros <;> first | rfl | omega | assumption)
    · intro x hx
      have hml := madeP_len g (tqS w g sp) y x
      have hyg : y * g ≤ 6 * 6 := Nat.mul_le_mul (by omega) (by omega)
      by_cases hxg : x < g
      · have hyw : y < w := by omega
        obtain ⟨hi1, hi2⟩ := fI_at (w := g) (g := w) (X := g - 1 - x) (Y := w - 1 - y) (by omega) (by omega)
        rw [show w - 1 - (w - 1 - y) = y by omega, Nat.mul_comm g w] at hi1
        have hiw : (g - 1 - x) * w ≤ 6 * 6 := Nat.mul_le_mul (by omega) (by omega)
        have i1 : IntKind.i64.wrap (IntKind.i64.wrap ((g : Int) - 1) - x) = ((g - 1 - x : Nat) : Int) := by rw [wr (x := (g : Int) - 1) ⟨by omega, by omega⟩, wr ⟨by omega, by omega⟩]; omega
        have i2 : IntKind.i64.wrap (((g - 1 - x : Nat) : Int) * w) = (((g - 1 - x) * w : Nat) : Int) := by rw [← Int.natCast_mul]; exact wr ⟨by omega, by omega⟩
        have i3 : IntKind.i64.wrap ((((g - 1 - x) * w : Nat) : Int) + y) = (((g - 1 - x) * w + y : Nat) : Int) := by rw [wr ⟨by omega, by omega⟩]; omega
        have hsp := qOk_spot hq (k := (g - 1 - x) * w + y) (by omega)
        have cP : ∀ v : Int, v = (sp.getD ((g - 1 - x) * w + y) default).2 → FnC Try.prog 71 [(false, [.int .i64 v]), (false, [.int .i64 1])] (.one (.int .i64 (prod1 (sp.getD ((g - 1 - x) * w + y) default).2))) := by rintro _ rfl; exact implProductOf _ hsp.2
        repeat' (first
    | ((with_reducible refine z_run ?_); (conv => whnf))
    | (with_reducible apply z_t)
    | (with_reducible apply z_f)
    | ((with_reducible apply z_b); ((intro h); (try simp only [beq_self_eq_true, eq_self, not_true_eq_false, not_false_eq_true, decide_true, cond_true, cond_false, Bool.not_true, Bool.not_false, Bool.not_eq_true', Bool.not_eq_false', Bool.and_eq_true, Bool.and_eq_false_imp, Bool.or_eq_true, Bool.or_eq_false_iff, decide_eq_true_eq, decide_eq_false_iff_not, Bool.false_eq_true, reduceCtorEq, Int.not_le, Int.not_lt, Decidable.not_not] at h)); rotate_left; ((intro h); (try simp only [beq_self_eq_true, eq_self, not_true_eq_false, not_false_eq_true, decide_true, cond_true, cond_false, Bool.not_true, Bool.not_false, Bool.not_eq_true', Bool.not_eq_false', Bool.and_eq_true, Bool.and_eq_false_imp, Bool.or_eq_true, Bool.or_eq_false_iff, decide_eq_true_eq, decide_eq_false_iff_not, Bool.false_eq_true, reduceCtorEq, Int.not_le, Int.not_lt, Decidable.not_not] at h)))
    | (with_reducible refine z_r ?_ ?_)
    | (with_reducible refine z_wg ?_ ?_)
    | (with_reducible refine z_w ?_ ?_)
    | ((with_reducible apply sh_nil); (intro _))
    | ((with_reducible apply sh_int); (intro _))
    | ((with_reducible apply sh_bool); (intro _))
    | ((with_reducible apply sh_sl); (intro _))
    | ((with_reducible refine z_xf ?zc ?zx ?_); (case zc => decide +kernel); (case zx => decide +kernel))
    | (with_reducible refine z_k (cP _ (by simp only [i1, i2, i3, Int.toNat_natCast])) ?_)
    | ((with_reducible refine z_o ?zo ?_); (case zo => decide +kernel))
    | ((with_reducible refine z_x ?zx ?_); (case zx => decide +kernel))
    | fail)
        all_goals (try rw [i1] at *)
        all_goals (try rw [i2] at *)
        all_goals (try rw [i3] at *)
        all_goals (try simp only [Int.toNat_natCast, List.length_map] at *)
        all_goals (first
          | omega
          | (simp only [List.length_cons, List.length_nil, hml]; omega)
          | (refine z_n (x + 1) ⟨by omega, by omega⟩ ?_; rw [madeP_succ, List.map_append]; (try rw [wr (x := (x : Int) + 1) ⟨by omega, by omega⟩]); simp only [List.length_map, fillTo_zero, Int.toNat_natCast, Option.isSome_some, and_self, fixB, Nat.reduceLeDiff, false_implies, true_implies, forall_const, St.le0, St.swaps, St.ren, mapV, renO, V.ren, Sc.ren, Ob.ren, swp, slsLe, obsLe, vLe, psLe, scLe, scsLe, obLe, Vq.look, Nat.reduceEqDiff, if_true, if_false, reduceCtorEq, ↓reduceIte, true_and, and_true] <;> (and_intros <;> first | rfl | omega | assumption); done)
          | (trace_state; fail))
      · repeat' (first
    | ((with_reducible refine z_run ?_); (conv => whnf))
    | (with_reducible apply z_t)
    | (with_reducible apply z_f)
    | ((with_reducible apply z_b); ((intro h); (try simp only [beq_self_eq_true, eq_self, not_true_eq_false, not_false_eq_true, decide_true, cond_true, cond_false, Bool.not_true, Bool.not_false, Bool.not_eq_true', Bool.not_eq_false', Bool.and_eq_true, Bool.and_eq_false_imp, Bool.or_eq_true, Bool.or_eq_false_iff, decide_eq_true_eq, decide_eq_false_iff_not, Bool.false_eq_true, reduceCtorEq, Int.not_le, Int.not_lt, Decidable.not_not] at h)); rotate_left; ((intro h); (try simp only [beq_self_eq_true, eq_self, not_true_eq_false, not_false_eq_true, decide_true, cond_true, cond_false, Bool.not_true, Bool.not_false, Bool.not_eq_true', Bool.not_eq_false', Bool.and_eq_true, Bool.and_eq_false_imp, Bool.or_eq_true, Bool.or_eq_false_iff, decide_eq_true_eq, decide_eq_false_iff_not, Bool.false_eq_true, reduceCtorEq, Int.not_le, Int.not_lt, Decidable.not_not] at h)))
    | (with_reducible refine z_r ?_ ?_)
    | (with_reducible refine z_wg ?_ ?_)
    | (with_reducible refine z_w ?_ ?_)
    | ((with_reducible apply sh_nil); (intro _))
    | ((with_reducible apply sh_int); (intro _))
    | ((with_reducible apply sh_bool); (intro _))
    | ((with_reducible apply sh_sl); (intro _))
    | ((with_reducible refine z_xf ?zc ?zx ?_); (case zc => decide +kernel); (case zx => decide +kernel))
    | ((with_reducible refine z_o ?zo ?_); (case zo => decide +kernel))
    | ((with_reducible refine z_x ?zx ?_); (case zx => decide +kernel))
    | fail)
        all_goals ((try simp only [Int.toNat_natCast, tn1, tp1, List.length_map, eq_self, true_and, and_true] at *); (try simp (disch := omega) only [wr, Int.toNat_natCast, tn1, tp1, List.length_map, eq_self, true_and, and_true] at *))
        all_goals (first
          | omega
          | (refine z_n (y + 1) ⟨by omega, by omega⟩ ?_; rw [madeP_next, show x = g by omega]; simp only [List.length_map, fillTo_zero, Int.toNat_natCast, Option.isSome_some, and_self, fixB, Nat.reduceLeDiff, false_implies, true_implies, forall_const, St.le0, St.swaps, St.ren, mapV, renO, V.ren, Sc.ren, Ob.ren, swp, slsLe, obsLe, vLe, psLe, scLe, scsLe, obLe, Vq.look, Nat.reduceEqDiff, if_true, if_false, reduceCtorEq, ↓reduceIte, true_and, and_true] <;> (and_intros <;> first | rfl | omega | assumption); done)
          | (trace_state; fail))
theorem implUseOf (w g : Nat) (sp : List TSpot) (bs : List TBlk) (hl : sp.length + bs.length + cellsN bs ≤ 1048576) (hq : qOk w g sp bs) : FnC Try.prog 44 [aQ w g sp, aBs bs] (.one (.own 3 dI ((useK sp bs.length sp.length).map eI))) := by
  have hsl := qOk_len hq
  refine fn_z (ty := ty) (ts := [.tmp 4]) [0, 1, 2, 4, 5, 7, 11, 16, 17, 18, 19] mixed ty_ok Try.func44 (by kernel_rfl) rfl (by kernel_rfl) (by kernel_rfl) rfl (.inl rfl) (Nat.le_of_ble_eq_true rfl) (by simp only [entry, entryV, C.toS, Nat.zero_add, Nat.reduceAdd, List.map_cons, List.map_nil]; exact rfl) ?_
  repeat' (first
    | ((with_reducible refine z_run ?_); (conv => whnf))
    | (with_reducible apply z_t)
    | (with_reducible apply z_f)
    | ((with_reducible apply z_b); ((intro h); (try simp only [beq_self_eq_true, eq_self, not_true_eq_false, not_false_eq_true, decide_true, cond_true, cond_false, Bool.not_true, Bool.not_false, Bool.not_eq_true', Bool.not_eq_false', Bool.and_eq_true, Bool.and_eq_false_imp, Bool.or_eq_true, Bool.or_eq_false_iff, decide_eq_true_eq, decide_eq_false_iff_not, Bool.false_eq_true, reduceCtorEq, Int.not_le, Int.not_lt, Decidable.not_not] at h)); rotate_left; ((intro h); (try simp only [beq_self_eq_true, eq_self, not_true_eq_false, not_false_eq_true, decide_true, cond_true, cond_false, Bool.not_true, Bool.not_false, Bool.not_eq_true', Bool.not_eq_false', Bool.and_eq_true, Bool.and_eq_false_imp, Bool.or_eq_true, Bool.or_eq_false_iff, decide_eq_true_eq, decide_eq_false_iff_not, Bool.false_eq_true, reduceCtorEq, Int.not_le, Int.not_lt, Decidable.not_not] at h)))
    | (with_reducible refine z_r ?_ ?_)
    | (with_reducible refine z_wg ?_ ?_)
    | (with_reducible refine z_w ?_ ?_)
    | ((with_reducible apply sh_nil); (intro _))
    | ((with_reducible apply sh_int); (intro _))
    | ((with_reducible apply sh_bool); (intro _))
    | ((with_reducible apply sh_sl); (intro _))
    | ((with_reducible refine z_xf ?zc ?zx ?_); (case zc => decide +kernel); (case zx => decide +kernel))
    | (with_reducible refine z_k (implQuiltOk _ _ _ _ hl) ?_)
    | ((with_reducible refine z_o ?zo ?_); (case zo => decide +kernel))
    | ((with_reducible refine z_x ?zx ?_); (case zx => decide +kernel))
    | fail)
  all_goals ((try simp only [Int.toNat_natCast, tn1, tp1, List.length_map, eq_self, true_and, and_true] at *); (try simp (disch := omega) only [wr, Int.toNat_natCast, tn1, tp1, List.length_map, eq_self, true_and, and_true] at *))
  all_goals (first
    | contradiction
    | omega
    | skip)
  refine z_li (fun k : Nat => k ≤ sp.length) (0 : Nat) (fun k => sp.length - k) (fun k => ⟨[(5, .one (.root 14)), (16, .one (.ro dSpot (sp.map eSpot))), (17, .one (.int .i64 sp.length)), (18, .one (.int .i64 k))], [(14, .row 3 dI ((useK sp bs.length k).map eI))]⟩) (by omega) ?_ ?_
  · rw [useK_zero, List.map_replicate]; simp only [List.length_map, fillTo_zero, Int.toNat_natCast, Option.isSome_some, and_self, fixB, Nat.reduceLeDiff, false_implies, true_implies, forall_const, St.le0, St.swaps, St.ren, mapV, renO, V.ren, Sc.ren, Ob.ren, swp, slsLe, obsLe, vLe, psLe, scLe, scsLe, obLe, Vq.look, Nat.reduceEqDiff, if_true, if_false, reduceCtorEq, ↓reduceIte, true_and, and_true] <;> (and_intros <;> first | rfl | omega | assumption)
  · intro k hk
    have hul := useK_len sp bs.length k
    by_cases hlt : k < sp.length
    · have hsp := qOk_spot hq hlt
      have hcb := cntS_bd (sp.take k) (sp.getD k default).1.toNat
      rw [List.length_take] at hcb
      have hus := useK_succ (m := bs.length) hlt hsp.1.1
      have hug := useK_get sp (m := bs.length) (k := k) (i := (sp.getD k default).1.toNat) (by omega)
      repeat' (first
    | ((with_reducible refine z_run ?_); (conv => whnf))
    | (with_reducible apply z_t)
    | (with_reducible apply z_f)
    | ((with_reducible apply z_b); ((intro h); (try simp only [beq_self_eq_true, eq_self, not_true_eq_false, not_false_eq_true, decide_true, cond_true, cond_false, Bool.not_true, Bool.not_false, Bool.not_eq_true', Bool.not_eq_false', Bool.and_eq_true, Bool.and_eq_false_imp, Bool.or_eq_true, Bool.or_eq_false_iff, decide_eq_true_eq, decide_eq_false_iff_not, Bool.false_eq_true, reduceCtorEq, Int.not_le, Int.not_lt, Decidable.not_not] at h)); rotate_left; ((intro h); (try simp only [beq_self_eq_true, eq_self, not_true_eq_false, not_false_eq_true, decide_true, cond_true, cond_false, Bool.not_true, Bool.not_false, Bool.not_eq_true', Bool.not_eq_false', Bool.and_eq_true, Bool.and_eq_false_imp, Bool.or_eq_true, Bool.or_eq_false_iff, decide_eq_true_eq, decide_eq_false_iff_not, Bool.false_eq_true, reduceCtorEq, Int.not_le, Int.not_lt, Decidable.not_not] at h)))
    | (with_reducible refine z_r ?_ ?_)
    | (with_reducible refine z_wg ?_ ?_)
    | (with_reducible refine z_w ?_ ?_)
    | ((with_reducible apply sh_nil); (intro _))
    | ((with_reducible apply sh_int); (intro _))
    | ((with_reducible apply sh_bool); (intro _))
    | ((with_reducible apply sh_sl); (intro _))
    | ((with_reducible refine z_xf ?zc ?zx ?_); (case zc => decide +kernel); (case zx => decide +kernel))
    | ((with_reducible refine z_o ?zo ?_); (case zo => decide +kernel))
    | ((with_reducible refine z_x ?zx ?_); (case zx => decide +kernel))
    | fail)
      all_goals ((try simp only [Int.toNat_natCast, tn1, tp1, List.length_map, eq_self, true_and, and_true] at *); (try simp (disch := omega) only [wr, Int.toNat_natCast, tn1, tp1, List.length_map, eq_self, true_and, and_true] at *))
      all_goals (first
        | omega
        | (simp only [List.length_map, List.length_cons, List.length_nil, hul]; omega)
        | (refine z_n (k + 1) ⟨by omega, by omega⟩ ?_; rw [← hus, ← set_map]; simp only [List.length_map, fillTo_zero, Int.toNat_natCast, Option.isSome_some, and_self, fixB, Nat.reduceLeDiff, false_implies, true_implies, forall_const, St.le0, St.swaps, St.ren, mapV, renO, V.ren, Sc.ren, Ob.ren, swp, slsLe, obsLe, vLe, psLe, scLe, scsLe, obLe, Vq.look, Nat.reduceEqDiff, if_true, if_false, reduceCtorEq, ↓reduceIte, true_and, and_true] <;> (and_intros <;> first | rfl | omega | assumption); done)
        | (trace_state; fail))
    · repeat' (first
    | ((with_reducible refine z_run ?_); (conv => whnf))
    | (with_reducible apply z_t)
    | (with_reducible apply z_f)
    | ((with_reducible apply z_b); ((intro h); (try simp only [beq_self_eq_true, eq_self, not_true_eq_false, not_false_eq_true, decide_true, cond_true, cond_false, Bool.not_true, Bool.not_false, Bool.not_eq_true', Bool.not_eq_false', Bool.and_eq_true, Bool.and_eq_false_imp, Bool.or_eq_true, Bool.or_eq_false_iff, decide_eq_true_eq, decide_eq_false_iff_not, Bool.false_eq_true, reduceCtorEq, Int.not_le, Int.not_lt, Decidable.not_not] at h)); rotate_left; ((intro h); (try simp only [beq_self_eq_true, eq_self, not_true_eq_false, not_false_eq_true, decide_true, cond_true, cond_false, Bool.not_true, Bool.not_false, Bool.not_eq_true', Bool.not_eq_false', Bool.and_eq_true, Bool.and_eq_false_imp, Bool.or_eq_true, Bool.or_eq_false_iff, decide_eq_true_eq, decide_eq_false_iff_not, Bool.false_eq_true, reduceCtorEq, Int.not_le, Int.not_lt, Decidable.not_not] at h)))
    | (with_reducible refine z_r ?_ ?_)
    | (with_reducible refine z_wg ?_ ?_)
    | (with_reducible refine z_w ?_ ?_)
    | ((with_reducible apply sh_nil); (intro _))
    | ((with_reducible apply sh_int); (intro _))
    | ((with_reducible apply sh_bool); (intro _))
    | ((with_reducible apply sh_sl); (intro _))
    | ((with_reducible refine z_xf ?zc ?zx ?_); (case zc => decide +kernel); (case zx => decide +kernel))
    | ((with_reducible refine z_o ?zo ?_); (case zo => decide +kernel))
    | ((with_reducible refine z_x ?zx ?_); (case zx => decide +kernel))
    | fail)
      all_goals ((try simp only [Int.toNat_natCast, tn1, tp1, List.length_map, eq_self, true_and, and_true] at *); (try simp (disch := omega) only [wr, Int.toNat_natCast, tn1, tp1, List.length_map, eq_self, true_and, and_true] at *))
      all_goals (first
        | omega
        | (refine z_e rfl ?_; simp only [fin, finP, finM, ids, nodupB, tupP, tupM, memN, List.length_cons, List.length_nil, List.nil_append, List.append_nil, List.cons_append, Nat.zero_add, Nat.reduceAdd, ne_eq, not_false_eq_true, eq_self, ev, Vq.look, List.map_cons, List.map_nil, and_true, true_and, Nat.reduceEqDiff, if_true, if_false, reduceCtorEq, ↓reduceIte]; rw [show sp.length = k by omega]; done)
        | (trace_state; fail))
def saL (sp : List TSpot) (bs : List TBlk) (k j : Nat) : List Int := (List.range 6).map fun a : Nat => if a < j then shS (fun b => areaR b.1 b.2 a) sp bs (k + 1) else shS (fun b => areaR b.1 b.2 a) sp bs k
theorem saL_len (sp : List TSpot) (bs : List TBlk) (k j : Nat) : (saL sp bs k j).length = 6 := by simp [saL]
theorem saL_get (sp : List TSpot) (bs : List TBlk) (k : Nat) {j : Nat} (h : j < 6) : (saL sp bs k j).getD j default = shS (fun b => areaR b.1 b.2 j) sp bs k := by simp [saL, List.getD, h]
theorem saL_set {sp : List TSpot} (bs : List TBlk) {k : Nat} (hk : k < sp.length) {j : Nat} (h : j < 6) : (saL sp bs k j).set j (shS (fun b => areaR b.1 b.2 j) sp bs k + areaR ((shL sp bs sp.length).getD k default).1 ((shL sp bs sp.length).getD k default).2 j) = saL sp bs k (j + 1) := by
  refine List.ext_getElem (by simp [saL]) fun i h1 h2 => ?_
  rw [List.getElem_set]
  simp only [saL, List.getElem_map, List.getElem_range]
  by_cases e : j = i
  · subst e; rw [if_pos rfl, if_pos (by omega), shS_succ _ bs hk, shL_get bs hk]
  · rw [if_neg e]
    by_cases e2 : i < j
    · rw [if_pos e2, if_pos (by omega)]
    · rw [if_neg e2, if_neg (by omega)]
theorem saL_next (sp : List TSpot) (bs : List TBlk) (k : Nat) : saL sp bs k 6 = saL sp bs (k + 1) 0 := by
  unfold saL
  refine List.map_congr_left fun a ha => ?_
  have := List.mem_range.1 ha
  rw [if_pos this, if_neg (by omega)]
theorem saL_all {w g : Int} {sp : List TSpot} {bs : List TBlk} (h : qOk w g sp bs) : saL sp bs sp.length 0 = qaR sp bs := by
  unfold saL qaR qaL
  refine List.map_congr_left fun a ha => ?_
  rw [if_neg (by omega), if_neg (by omega)]
  exact shS_eq h (fun b => areaR b.1 b.2 a) (fun b hb k hk => areaR_seen hb a hk)
theorem implQuiltAreas (w g : Nat) (sp : List TSpot) (bs : List TBlk) (hl : sp.length + bs.length + cellsN bs ≤ 1048576) (hq : qOk w g sp bs) : FnC Try.prog 45 [aQ w g sp, aBs bs] (.one (.own 3 dI ((qaR sp bs).map eI))) := by
  have hsl := qOk_len hq
  have hshl := shL_len sp bs (Nat.le_refl sp.length)
  refine fn_z (ty := ty) (ts := [.tmp 4]) [0, 1, 2, 4, 5, 7, 8, 12, 16, 17, 18, 19, 23, 24, 25] mixed ty_ok Try.func45 (by kernel_rfl) rfl (by kernel_rfl) (by kernel_rfl) rfl (.inl rfl) (Nat.le_of_ble_eq_true rfl) (by simp only [entry, entryV, C.toS, Nat.zero_add, Nat.reduceAdd, List.map_cons, List.map_nil]; exact rfl) ?_
  repeat' (first
    | ((with_reducible refine z_run ?_); (conv => whnf))
    | (with_reducible apply z_t)
    | (with_reducible apply z_f)
    | ((with_reducible apply z_b); ((intro h); (try simp only [beq_self_eq_true, eq_self, not_true_eq_false, not_false_eq_true, decide_true, cond_true, cond_false, Bool.not_true, Bool.not_false, Bool.not_eq_true', Bool.not_eq_false', Bool.and_eq_true, Bool.and_eq_false_imp, Bool.or_eq_true, Bool.or_eq_false_iff, decide_eq_true_eq, decide_eq_false_iff_not, Bool.false_eq_true, reduceCtorEq, Int.not_le, Int.not_lt, Decidable.not_not] at h)); rotate_left; ((intro h); (try simp only [beq_self_eq_true, eq_self, not_true_eq_false, not_false_eq_true, decide_true, cond_true, cond_false, Bool.not_true, Bool.not_false, Bool.not_eq_true', Bool.not_eq_false', Bool.and_eq_true, Bool.and_eq_false_imp, Bool.or_eq_true, Bool.or_eq_false_iff, decide_eq_true_eq, decide_eq_false_iff_not, Bool.false_eq_true, reduceCtorEq, Int.not_le, Int.not_lt, Decidable.not_not] at h)))
    | (with_reducible refine z_r ?_ ?_)
    | (with_reducible refine z_wg ?_ ?_)
    | (with_reducible refine z_w ?_ ?_)
    | ((with_reducible apply sh_nil); (intro _))
    | ((with_reducible apply sh_int); (intro _))
    | ((with_reducible apply sh_bool); (intro _))
    | ((with_reducible apply sh_sl); (intro _))
    | ((with_reducible refine z_xf ?zc ?zx ?_); (case zc => decide +kernel); (case zx => decide +kernel))
    | (with_reducible refine z_k (implQuiltOk _ _ _ _ hl) ?_)
    | (with_reducible refine z_k (shown_fz _ _ _ _ hl hq) ?_)
    | ((with_reducible refine z_o ?zo ?_); (case zo => decide +kernel))
    | ((with_reducible refine z_x ?zx ?_); (case zx => decide +kernel))
    | fail)
  all_goals ((try simp only [Int.toNat_natCast, tn1, tp1, List.length_map, eq_self, true_and, and_true] at *); (try simp (disch := omega) only [wr, Int.toNat_natCast, tn1, tp1, List.length_map, eq_self, true_and, and_true] at *))
  all_goals (first
    | contradiction
    | omega
    | skip)
  refine z_li (fun k : Nat => k ≤ sp.length) (0 : Nat) (fun k => sp.length - k) (fun k => ⟨[(5, .one (.root 13)), (16, .one (.ro dBlk ((shL sp bs sp.length).map eBlk))), (17, .one (.int .i64 (shL sp bs sp.length).length)), (18, .one (.int .i64 k))], [(13, .row 3 dI ((saL sp bs k 0).map eI))]⟩) (by omega) ?_ ?_
  · rw [show saL sp bs 0 0 = [0, 0, 0, 0, 0, 0] by simp [saL, shS, shL]; rfl]; simp only [List.length_map, fillTo_zero, Int.toNat_natCast, Option.isSome_some, and_self, fixB, Nat.reduceLeDiff, false_implies, true_implies, forall_const, St.le0, St.swaps, St.ren, mapV, renO, V.ren, Sc.ren, Ob.ren, swp, slsLe, obsLe, vLe, psLe, scLe, scsLe, obLe, Vq.look, Nat.reduceEqDiff, if_true, if_false, reduceCtorEq, ↓reduceIte, true_and, and_true] <;> (and_intros <;> first | rfl | omega | assumption)
  · intro k hk
    by_cases hlt : k < sp.length
    · have hsp := qOk_spot hq hlt
      have hok := (seenB_ok (qOk_blk hq (i := (sp.getD k default).1.toNat) (by omega)) hsp.2).1
      have hge := shL_get bs hlt
      rw [← hge] at hok
      have hl16 := blk_len hok
      have hsl6 := saL_len sp bs k 0
      repeat' (first
    | ((with_reducible refine z_run ?_); (conv => whnf))
    | (with_reducible apply z_t)
    | (with_reducible apply z_f)
    | ((with_reducible apply z_b); ((intro h); (try simp only [beq_self_eq_true, eq_self, not_true_eq_false, not_false_eq_true, decide_true, cond_true, cond_false, Bool.not_true, Bool.not_false, Bool.not_eq_true', Bool.not_eq_false', Bool.and_eq_true, Bool.and_eq_false_imp, Bool.or_eq_true, Bool.or_eq_false_iff, decide_eq_true_eq, decide_eq_false_iff_not, Bool.false_eq_true, reduceCtorEq, Int.not_le, Int.not_lt, Decidable.not_not] at h)); rotate_left; ((intro h); (try simp only [beq_self_eq_true, eq_self, not_true_eq_false, not_false_eq_true, decide_true, cond_true, cond_false, Bool.not_true, Bool.not_false, Bool.not_eq_true', Bool.not_eq_false', Bool.and_eq_true, Bool.and_eq_false_imp, Bool.or_eq_true, Bool.or_eq_false_iff, decide_eq_true_eq, decide_eq_false_iff_not, Bool.false_eq_true, reduceCtorEq, Int.not_le, Int.not_lt, Decidable.not_not] at h)))
    | (with_reducible refine z_r ?_ ?_)
    | (with_reducible refine z_wg ?_ ?_)
    | (with_reducible refine z_w ?_ ?_)
    | ((with_reducible apply sh_nil); (intro _))
    | ((with_reducible apply sh_int); (intro _))
    | ((with_reducible apply sh_bool); (intro _))
    | ((with_reducible apply sh_sl); (intro _))
    | ((with_reducible refine z_xf ?zc ?zx ?_); (case zc => decide +kernel); (case zx => decide +kernel))
    | ((with_reducible refine z_o ?zo ?_); (case zo => decide +kernel))
    | ((with_reducible refine z_x ?zx ?_); (case zx => decide +kernel))
    | fail)
      all_goals ((try simp only [Int.toNat_natCast, tn1, tp1, List.length_map, eq_self, true_and, and_true] at *); (try simp (disch := omega) only [wr, Int.toNat_natCast, tn1, tp1, List.length_map, eq_self, true_and, and_true] at *))
      all_goals (first
        | omega
        | skip)
      rw [hsl6]
      generalize hB : (shL sp bs sp.length).getD k default = B at *
      refine z_li (fun j : Nat => j ≤ 6) (0 : Nat) (fun j => 6 - j) (fun j => ⟨[(5, .one (.root 13)), (7, .one (.bx 7 0)), (16, .one (.ro dBlk ((shL sp bs sp.length).map eBlk))), (17, .one (.int .i64 (shL sp bs sp.length).length)), (18, .one (.int .i64 k)), (23, .one (.int .i64 6)), (24, .one (.int .i64 j))], [(7, .box [.int .i64 B.1, .ro dCell (B.2.map eCell)]), (13, .row 3 dI ((saL sp bs k j).map eI))]⟩) (by omega) ?_ ?_
      · simp only [List.length_map, fillTo_zero, Int.toNat_natCast, Option.isSome_some, and_self, fixB, Nat.reduceLeDiff, false_implies, true_implies, forall_const, St.le0, St.swaps, St.ren, mapV, renO, V.ren, Sc.ren, Ob.ren, swp, slsLe, obsLe, vLe, psLe, scLe, scsLe, obLe, Vq.look, Nat.reduceEqDiff, if_true, if_false, reduceCtorEq, ↓reduceIte, true_and, and_true] <;> (and_intros <;> first | rfl | omega | assumption)
      · intro j hj
        have hql := saL_len sp bs k j
        by_cases hj6 : j < 6
        · have hqg := saL_get sp bs k hj6
          have hqs := saL_set bs hlt hj6
          rw [hB] at hqs
          have hab := areaR_bd B.1 B.2 j
          have hsb := shS_bd hq (fun b => areaR b.1 b.2 j) (u := 64) (fun b _ => areaR_bd b.1 b.2 j) k hk
          repeat' (first
    | ((with_reducible refine z_run ?_); (conv => whnf))
    | (with_reducible apply z_t)
    | (with_reducible apply z_f)
    | ((with_reducible apply z_b); ((intro h); (try simp only [beq_self_eq_true, eq_self, not_true_eq_false, not_false_eq_true, decide_true, cond_true, cond_false, Bool.not_true, Bool.not_false, Bool.not_eq_true', Bool.not_eq_false', Bool.and_eq_true, Bool.and_eq_false_imp, Bool.or_eq_true, Bool.or_eq_false_iff, decide_eq_true_eq, decide_eq_false_iff_not, Bool.false_eq_true, reduceCtorEq, Int.not_le, Int.not_lt, Decidable.not_not] at h)); rotate_left; ((intro h); (try simp only [beq_self_eq_true, eq_self, not_true_eq_false, not_false_eq_true, decide_true, cond_true, cond_false, Bool.not_true, Bool.not_false, Bool.not_eq_true', Bool.not_eq_false', Bool.and_eq_true, Bool.and_eq_false_imp, Bool.or_eq_true, Bool.or_eq_false_iff, decide_eq_true_eq, decide_eq_false_iff_not, Bool.false_eq_true, reduceCtorEq, Int.not_le, Int.not_lt, Decidable.not_not] at h)))
    | (with_reducible refine z_r ?_ ?_)
    | (with_reducible refine z_wg ?_ ?_)
    | (with_reducible refine z_w ?_ ?_)
    | ((with_reducible apply sh_nil); (intro _))
    | ((with_reducible apply sh_int); (intro _))
    | ((with_reducible apply sh_bool); (intro _))
    | ((with_reducible apply sh_sl); (intro _))
    | ((with_reducible refine z_xf ?zc ?zx ?_); (case zc => decide +kernel); (case zx => decide +kernel))
    | (with_reducible refine z_k (implAreaOf _ _ (by omega) _) ?_)
    | ((with_reducible refine z_o ?zo ?_); (case zo => decide +kernel))
    | ((with_reducible refine z_x ?zx ?_); (case zx => decide +kernel))
    | fail)
          all_goals ((try simp only [Int.toNat_natCast, tn1, tp1, List.length_map, eq_self, true_and, and_true] at *); (try simp (disch := omega) only [wr, Int.toNat_natCast, tn1, tp1, List.length_map, eq_self, true_and, and_true] at *))
          all_goals (try rw [hqg] at *)
          all_goals (first
            | omega
            | (simp only [List.length_map, hql]; omega)
            | (refine z_n (j + 1) ⟨by omega, by omega⟩ ?_; rw [← hqs, ← set_map]; (try rw [wr ⟨by omega, by omega⟩]); simp only [List.length_map, fillTo_zero, Int.toNat_natCast, Option.isSome_some, and_self, fixB, Nat.reduceLeDiff, false_implies, true_implies, forall_const, St.le0, St.swaps, St.ren, mapV, renO, V.ren, Sc.ren, Ob.ren, swp, slsLe, obsLe, vLe, psLe, scLe, scsLe, obLe, Vq.look, Nat.reduceEqDiff, if_true, if_false, reduceCtorEq, ↓reduceIte, true_and, and_true] <;> (and_intros <;> first | rfl | omega | assumption); done)
            | (trace_state; fail))
        · repeat' (first
    | ((with_reducible refine z_run ?_); (conv => whnf))
    | (with_reducible apply z_t)
    | (with_reducible apply z_f)
    | ((with_reducible apply z_b); ((intro h); (try simp only [beq_self_eq_true, eq_self, not_true_eq_false, not_false_eq_true, decide_true, cond_true, cond_false, Bool.not_true, Bool.not_false, Bool.not_eq_true', Bool.not_eq_false', Bool.and_eq_true, Bool.and_eq_false_imp, Bool.or_eq_true, Bool.or_eq_false_iff, decide_eq_true_eq, decide_eq_false_iff_not, Bool.false_eq_true, reduceCtorEq, Int.not_le, Int.not_lt, Decidable.not_not] at h)); rotate_left; ((intro h); (try simp only [beq_self_eq_true, eq_self, not_true_eq_false, not_false_eq_true, decide_true, cond_true, cond_false, Bool.not_true, Bool.not_false, Bool.not_eq_true', Bool.not_eq_false', Bool.and_eq_true, Bool.and_eq_false_imp, Bool.or_eq_true, Bool.or_eq_false_iff, decide_eq_true_eq, decide_eq_false_iff_not, Bool.false_eq_true, reduceCtorEq, Int.not_le, Int.not_lt, Decidable.not_not] at h)))
    | (with_reducible refine z_r ?_ ?_)
    | (with_reducible refine z_wg ?_ ?_)
    | (with_reducible refine z_w ?_ ?_)
    | ((with_reducible apply sh_nil); (intro _))
    | ((with_reducible apply sh_int); (intro _))
    | ((with_reducible apply sh_bool); (intro _))
    | ((with_reducible apply sh_sl); (intro _))
    | ((with_reducible refine z_xf ?zc ?zx ?_); (case zc => decide +kernel); (case zx => decide +kernel))
    | ((with_reducible refine z_o ?zo ?_); (case zo => decide +kernel))
    | ((with_reducible refine z_x ?zx ?_); (case zx => decide +kernel))
    | fail)
          all_goals ((try simp only [Int.toNat_natCast, tn1, tp1, List.length_map, eq_self, true_and, and_true] at *); (try simp (disch := omega) only [wr, Int.toNat_natCast, tn1, tp1, List.length_map, eq_self, true_and, and_true] at *))
          all_goals (first
            | omega
            | (have e : saL sp bs (k + 1) 0 = saL sp bs k j := (by rw [← saL_next, show j = 6 by omega])
               refine z_n (k + 1) ⟨by omega, by omega⟩ ?_; rw [e]; simp only [List.length_map, fillTo_zero, Int.toNat_natCast, Option.isSome_some, and_self, fixB, Nat.reduceLeDiff, false_implies, true_implies, forall_const, St.le0, St.swaps, St.ren, mapV, renO, V.ren, Sc.ren, Ob.ren, swp, slsLe, obsLe, vLe, psLe, scLe, scsLe, obLe, Vq.look, Nat.reduceEqDiff, if_true, if_false, reduceCtorEq, ↓reduceIte, true_and, and_true] <;> (and_intros <;> first | rfl | omega | assumption); done)
            | (trace_state; fail))
    · repeat' (first
    | ((with_reducible refine z_run ?_); (conv => whnf))
    | (with_reducible apply z_t)
    | (with_reducible apply z_f)
    | ((with_reducible apply z_b); ((intro h); (try simp only [beq_self_eq_true, eq_self, not_true_eq_false, not_false_eq_true, decide_true, cond_true, cond_false, Bool.not_true, Bool.not_false, Bool.not_eq_true', Bool.not_eq_false', Bool.and_eq_true, Bool.and_eq_false_imp, Bool.or_eq_true, Bool.or_eq_false_iff, decide_eq_true_eq, decide_eq_false_iff_not, Bool.false_eq_true, reduceCtorEq, Int.not_le, Int.not_lt, Decidable.not_not] at h)); rotate_left; ((intro h); (try simp only [beq_self_eq_true, eq_self, not_true_eq_false, not_false_eq_true, decide_true, cond_true, cond_false, Bool.not_true, Bool.not_false, Bool.not_eq_true', Bool.not_eq_false', Bool.and_eq_true, Bool.and_eq_false_imp, Bool.or_eq_true, Bool.or_eq_false_iff, decide_eq_true_eq, decide_eq_false_iff_not, Bool.false_eq_true, reduceCtorEq, Int.not_le, Int.not_lt, Decidable.not_not] at h)))
    | (with_reducible refine z_r ?_ ?_)
    | (with_reducible refine z_wg ?_ ?_)
    | (with_reducible refine z_w ?_ ?_)
    | ((with_reducible apply sh_nil); (intro _))
    | ((with_reducible apply sh_int); (intro _))
    | ((with_reducible apply sh_bool); (intro _))
    | ((with_reducible apply sh_sl); (intro _))
    | ((with_reducible refine z_xf ?zc ?zx ?_); (case zc => decide +kernel); (case zx => decide +kernel))
    | ((with_reducible refine z_o ?zo ?_); (case zo => decide +kernel))
    | ((with_reducible refine z_x ?zx ?_); (case zx => decide +kernel))
    | fail)
      all_goals ((try simp only [Int.toNat_natCast, tn1, tp1, List.length_map, eq_self, true_and, and_true] at *); (try simp (disch := omega) only [wr, Int.toNat_natCast, tn1, tp1, List.length_map, eq_self, true_and, and_true] at *))
      all_goals (first
        | omega
        | (refine z_e rfl ?_; simp only [fin, finP, finM, ids, nodupB, tupP, tupM, memN, List.length_cons, List.length_nil, List.nil_append, List.append_nil, List.cons_append, Nat.zero_add, Nat.reduceAdd, ne_eq, not_false_eq_true, eq_self, ev, Vq.look, List.map_cons, List.map_nil, and_true, true_and, Nat.reduceEqDiff, if_true, if_false, reduceCtorEq, ↓reduceIte]; rw [← saL_all hq, show sp.length = k by omega]; done)
        | (trace_state; fail))
theorem implShownAt (w g : Nat) (sp : List TSpot) (bs : List TBlk) (hl : sp.length + bs.length + cellsN bs ≤ 1048576) (hq : qOk w g sp bs) (X Y : Nat) (hX : X < w) (hY : Y < g) : FnC Try.prog 51 [aQ w g sp, aBs bs, (false, [.int .i64 X]), (false, [.int .i64 Y])] (.agg [.int .i64 (shAt w sp bs X Y).1, .fz dCell ((shAt w sp bs X Y).2.map eCell)]) := by
  have hsl := qOk_len hq
  have hk := (shAt_ok hq (n := (bs.getD 0 default).1.toNat) (by have h0 := (hq.2.2 _ (getD_mem (l := bs) (k := 0) (by have := hq.2.1; omega))).1.1; omega) hX hY).2.2
  have hshl := shL_len sp bs (Nat.le_refl sp.length)
  have hge := shL_get bs hk
  obtain ⟨hwg, _⟩ := qOk_wg hq
  have w1 := hwg.w1
  have w6 := hwg.w6
  have g1 := hwg.g1
  have g6 := hwg.g6
  have e1 : IntKind.i64.wrap ((Y : Int) * w) = ((Y * w : Nat) : Int) := by rw [wr ⟨by rw [← Int.natCast_mul]; omega, by rw [← Int.natCast_mul]; omega⟩]; simp
  have e2 : IntKind.i64.wrap (((Y * w : Nat) : Int) + X) = ((Y * w + X : Nat) : Int) := by rw [wr ⟨by omega, by omega⟩]; simp
  have e3 : IntKind.i64.wrap ((w : Int) - 1) = w - 1 := wr ⟨by omega, by omega⟩
  have e4 : IntKind.i64.wrap ((g : Int) - 1) = g - 1 := wr ⟨by omega, by omega⟩
  refine fn_z (ty := ty) (ts := [.cell 8 63 2]) [0, 1, 2, 3, 4, 8, 28, 8] mixed ty_ok Try.func51 (by kernel_rfl) rfl (by kernel_rfl) (by kernel_rfl) rfl (.inl rfl) (Nat.le_of_ble_eq_true rfl) (by simp only [entry, entryV, C.toS, Nat.zero_add, Nat.reduceAdd, List.map_cons, List.map_nil]; exact rfl) ?_
  repeat' (first
    | ((with_reducible refine z_run ?_); (conv => whnf))
    | (with_reducible apply z_t)
    | (with_reducible apply z_f)
    | ((with_reducible apply z_b); ((intro h); (try simp only [beq_self_eq_true, eq_self, not_true_eq_false, not_false_eq_true, decide_true, cond_true, cond_false, Bool.not_true, Bool.not_false, Bool.not_eq_true', Bool.not_eq_false', Bool.and_eq_true, Bool.and_eq_false_imp, Bool.or_eq_true, Bool.or_eq_false_iff, decide_eq_true_eq, decide_eq_false_iff_not, Bool.false_eq_true, reduceCtorEq, Int.not_le, Int.not_lt, Decidable.not_not] at h)); rotate_left; ((intro h); (try simp only [beq_self_eq_true, eq_self, not_true_eq_false, not_false_eq_true, decide_true, cond_true, cond_false, Bool.not_true, Bool.not_false, Bool.not_eq_true', Bool.not_eq_false', Bool.and_eq_true, Bool.and_eq_false_imp, Bool.or_eq_true, Bool.or_eq_false_iff, decide_eq_true_eq, decide_eq_false_iff_not, Bool.false_eq_true, reduceCtorEq, Int.not_le, Int.not_lt, Decidable.not_not] at h)))
    | (with_reducible refine z_r ?_ ?_)
    | (with_reducible refine z_wg ?_ ?_)
    | (with_reducible refine z_w ?_ ?_)
    | ((with_reducible apply sh_nil); (intro _))
    | ((with_reducible apply sh_int); (intro _))
    | ((with_reducible apply sh_bool); (intro _))
    | ((with_reducible apply sh_sl); (intro _))
    | ((with_reducible refine z_xf ?zc ?zx ?_); (case zc => decide +kernel); (case zx => decide +kernel))
    | (with_reducible refine z_k (implQuiltOk _ _ _ _ hl) ?_)
    | (with_reducible refine z_k (within_fn _ _ _) ?_)
    | (with_reducible refine z_k (shown_fz _ _ _ _ hl hq) ?_)
    | ((with_reducible refine z_o ?zo ?_); (case zo => decide +kernel))
    | ((with_reducible refine z_x ?zx ?_); (case zx => decide +kernel))
    | fail)
  all_goals (try rw [e1] at *)
  all_goals (try rw [e2] at *)
  all_goals (try rw [e3] at *)
  all_goals (try rw [e4] at *)
  all_goals (try simp only [Int.toNat_natCast, List.length_map] at *)
  all_goals (first
    | contradiction
    | omega
    | (exfalso; omega)
    | (refine z_e rfl ?_; simp only [fin, finP, finM, ids, nodupB, tupP, tupM, memN, List.length_cons, List.length_nil, List.nil_append, List.append_nil, List.cons_append, Nat.zero_add, Nat.reduceAdd, ne_eq, not_false_eq_true, eq_self, ev, Vq.look, List.map_cons, List.map_nil, and_true, true_and, Nat.reduceEqDiff, if_true, if_false, reduceCtorEq, ↓reduceIte]; unfold shAt; rw [← hge]; first | done | rfl | (and_intros <;> rfl))
    | (trace_state; fail))
theorem implWholeAt (w g : Nat) (sp : List TSpot) (bs : List TBlk) (hl : sp.length + bs.length + cellsN bs ≤ 1048576) (hq : qOk w g sp bs) (n : Nat) (hn : (bs.getD 0 default).1 = n) (x y : Nat) (hx : x < w * n) (hy : y < g * n) : FnC Try.prog 48 [aQ w g sp, aBs bs, (false, [.int .i64 x]), (false, [.int .i64 y])] (.agg (rC (whAt n w sp bs x y))) := by
  have hsl := qOk_len hq
  have hbl := hq.2.1
  have hn4 := (hq.2.2 _ (getD_mem (l := bs) (k := 0) (by omega))).1.1
  rw [hn] at hn4
  obtain ⟨hwg, _⟩ := qOk_wg hq
  have w1 := hwg.w1
  have w6 := hwg.w6
  have g1 := hwg.g1
  have g6 := hwg.g6
  have hxn : x / n < w := Nat.div_lt_of_lt_mul (by rw [Nat.mul_comm]; exact hx)
  have hyn : y / n < g := Nat.div_lt_of_lt_mul (by rw [Nat.mul_comm]; exact hy)
  have hwn : w * n ≤ 6 * 4 := Nat.mul_le_mul w6 (by omega)
  have hgn : g * n ≤ 6 * 4 := Nat.mul_le_mul g6 (by omega)
  have z0 : (bs.getD (Int.toNat 0) default).1 = (n : Int) := hn
  have q1 : IntKind.i64.wrap ((w : Int) * (bs.getD (Int.toNat 0) default).1) = ((w * n : Nat) : Int) := by rw [z0, ← Int.natCast_mul]; exact wr ⟨by omega, by omega⟩
  have q2 : IntKind.i64.wrap ((g : Int) * (bs.getD (Int.toNat 0) default).1) = ((g * n : Nat) : Int) := by rw [z0, ← Int.natCast_mul]; exact wr ⟨by omega, by omega⟩
  have q3 : IntKind.i64.wrap (((w * n : Nat) : Int) - 1) = ((w * n : Nat) : Int) - 1 := wr ⟨by omega, by omega⟩
  have q4 : IntKind.i64.wrap (((g * n : Nat) : Int) - 1) = ((g * n : Nat) : Int) - 1 := wr ⟨by omega, by omega⟩
  have dv : ∀ a : Nat, IntKind.i64.wrap ((a : Int).tdiv (bs.getD (Int.toNat 0) default).1) = ((a / n : Nat) : Int) ∨ ¬ a < 100 := fun a => by
    by_cases ha : a < 100
    · left
      have gen : ∀ q : Nat, q ≤ a → IntKind.i64.wrap (q : Int) = q := fun q hq => wr ⟨by omega, by omega⟩
      rw [z0, Int.tdiv_eq_ediv_of_nonneg (by omega), ← Int.natCast_ediv]
      exact gen _ (Nat.div_le_self a n)
    · exact .inr ha
  have mv : ∀ a : Nat, (a : Int).tmod (bs.getD (Int.toNat 0) default).1 = ((a % n : Nat) : Int) := fun a => by
    rw [z0, Int.tmod_eq_emod_of_nonneg (by omega), ← Int.natCast_emod]
  have hok := shAt_ok hq hn hxn hyn
  have hbl16 := blk_len hok.1
  have cS : ∀ v1 v2 : Int, v1 = ((x / n : Nat) : Int) → v2 = ((y / n : Nat) : Int) → FnC Try.prog 51 [aQ w g sp, aBs bs, (false, [.int .i64 v1]), (false, [.int .i64 v2])] (.agg [.int .i64 (shAt w sp bs (x / n) (y / n)).1, .fz dCell ((shAt w sp bs (x / n) (y / n)).2.map eCell)]) := by rintro _ _ rfl rfl; exact implShownAt w g sp bs hl hq _ _ hxn hyn
  have cC : ∀ v1 v2 : Int, v1 = ((x % n : Nat) : Int) → v2 = ((y % n : Nat) : Int) → FnC Try.prog 102 [aB (shAt w sp bs (x / n) (y / n)).1 (shAt w sp bs (x / n) (y / n)).2, (false, [.int .i64 v1]), (false, [.int .i64 v2])] (.agg (rC (whAt n w sp bs x y))) := by rintro _ _ rfl rfl; exact implCellAt _ _ (by omega) _ _
  refine fn_z (ty := ty) (ts := [.cell 8 76 3]) [0, 1, 2, 3, 4, 8, 9, 13, 36, 8] mixed ty_ok Try.func48 (by kernel_rfl) rfl (by kernel_rfl) (by kernel_rfl) rfl (.inl rfl) (Nat.le_of_ble_eq_true rfl) (by simp only [entry, entryV, C.toS, Nat.zero_add, Nat.reduceAdd, List.map_cons, List.map_nil]; exact rfl) ?_
  repeat' (first
    | ((with_reducible refine z_run ?_); (conv => whnf))
    | (with_reducible apply z_t)
    | (with_reducible apply z_f)
    | ((with_reducible apply z_b); ((intro h); (try simp only [beq_self_eq_true, eq_self, not_true_eq_false, not_false_eq_true, decide_true, cond_true, cond_false, Bool.not_true, Bool.not_false, Bool.not_eq_true', Bool.not_eq_false', Bool.and_eq_true, Bool.and_eq_false_imp, Bool.or_eq_true, Bool.or_eq_false_iff, decide_eq_true_eq, decide_eq_false_iff_not, Bool.false_eq_true, reduceCtorEq, Int.not_le, Int.not_lt, Decidable.not_not] at h)); rotate_left; ((intro h); (try simp only [beq_self_eq_true, eq_self, not_true_eq_false, not_false_eq_true, decide_true, cond_true, cond_false, Bool.not_true, Bool.not_false, Bool.not_eq_true', Bool.not_eq_false', Bool.and_eq_true, Bool.and_eq_false_imp, Bool.or_eq_true, Bool.or_eq_false_iff, decide_eq_true_eq, decide_eq_false_iff_not, Bool.false_eq_true, reduceCtorEq, Int.not_le, Int.not_lt, Decidable.not_not] at h)))
    | (with_reducible refine z_r ?_ ?_)
    | (with_reducible refine z_wg ?_ ?_)
    | (with_reducible refine z_w ?_ ?_)
    | ((with_reducible apply sh_nil); (intro _))
    | ((with_reducible apply sh_int); (intro _))
    | ((with_reducible apply sh_bool); (intro _))
    | ((with_reducible apply sh_sl); (intro _))
    | ((with_reducible refine z_xf ?zc ?zx ?_); (case zc => decide +kernel); (case zx => decide +kernel))
    | (with_reducible refine z_k (implQuiltOk _ _ _ _ hl) ?_)
    | (with_reducible refine z_k (within_fn _ _ _) ?_)
    | (with_reducible refine z_k (cS _ _ ((dv x).resolve_right (by omega)) ((dv y).resolve_right (by omega))) ?_)
    | (with_reducible refine z_k (cC _ _ (mv x) (mv y)) ?_)
    | ((with_reducible refine z_o ?zo ?_); (case zo => decide +kernel))
    | ((with_reducible refine z_x ?zx ?_); (case zx => decide +kernel))
    | fail)
  all_goals (try rw [q1] at *)
  all_goals (try rw [q2] at *)
  all_goals (try rw [q3] at *)
  all_goals (try rw [q4] at *)
  all_goals (try simp only [List.length_map] at *)
  all_goals (first
    | contradiction
    | omega
    | (exfalso; omega)
    | (refine z_e rfl ?_; simp only [fin, finP, finM, ids, nodupB, tupP, tupM, memN, List.length_cons, List.length_nil, List.nil_append, List.append_nil, List.cons_append, Nat.zero_add, Nat.reduceAdd, ne_eq, not_false_eq_true, eq_self, ev, Vq.look, List.map_cons, List.map_nil, and_true, true_and, Nat.reduceEqDiff, if_true, if_false, reduceCtorEq, ↓reduceIte]; first | done | rfl | (and_intros <;> rfl))
    | (trace_state; fail))
theorem specCellAt (n : Int) (c : List TCell) (hl : c.length ≤ 2097152) (x y : Int) : FnC Try.prog 50 [aB n c, (false, [.int .i64 x]), (false, [.int .i64 y])] (.agg (rC (cellAt n c x y))) := by
  by_cases hp : isPl n c x y
  · obtain ⟨e1, e2, e3, e4⟩ := idx_bd hp.1.1 hp.2.1 hp.2.2
    have hlen := hp.1.2.1
    have hn := hp.1.1
    have hx := hp.2.1
    have hy := hp.2.2
    refine fn_z (ty := ty) (ts := [.cell 6 76 3]) [0, 1, 2, 3, 6, 25, 6] mixed ty_ok Try.func50 (by kernel_rfl) rfl (by kernel_rfl) (by kernel_rfl) rfl (.inl rfl) (Nat.le_of_ble_eq_true rfl) (by simp only [entry, entryV, C.toS, Nat.zero_add, Nat.reduceAdd, List.map_cons, List.map_nil]; exact rfl) ?_
    repeat' (first
    | ((with_reducible refine z_run ?_); (conv => whnf))
    | (with_reducible apply z_t)
    | (with_reducible apply z_f)
    | ((with_reducible apply z_b); ((intro h); (try simp only [beq_self_eq_true, eq_self, not_true_eq_false, not_false_eq_true, decide_true, cond_true, cond_false, Bool.not_true, Bool.not_false, Bool.not_eq_true', Bool.not_eq_false', Bool.and_eq_true, Bool.and_eq_false_imp, Bool.or_eq_true, Bool.or_eq_false_iff, decide_eq_true_eq, decide_eq_false_iff_not, Bool.false_eq_true, reduceCtorEq, Int.not_le, Int.not_lt, Decidable.not_not] at h)); rotate_left; ((intro h); (try simp only [beq_self_eq_true, eq_self, not_true_eq_false, not_false_eq_true, decide_true, cond_true, cond_false, Bool.not_true, Bool.not_false, Bool.not_eq_true', Bool.not_eq_false', Bool.and_eq_true, Bool.and_eq_false_imp, Bool.or_eq_true, Bool.or_eq_false_iff, decide_eq_true_eq, decide_eq_false_iff_not, Bool.false_eq_true, reduceCtorEq, Int.not_le, Int.not_lt, Decidable.not_not] at h)))
    | (with_reducible refine z_r ?_ ?_)
    | (with_reducible refine z_wg ?_ ?_)
    | (with_reducible refine z_w ?_ ?_)
    | ((with_reducible apply sh_nil); (intro _))
    | ((with_reducible apply sh_int); (intro _))
    | ((with_reducible apply sh_bool); (intro _))
    | ((with_reducible apply sh_sl); (intro _))
    | ((with_reducible refine z_xf ?zc ?zx ?_); (case zc => decide +kernel); (case zx => decide +kernel))
    | (with_reducible refine z_k (specBlockOk _ _ hl) ?_)
    | (with_reducible refine z_k (in_fn _ _ _) ?_)
    | ((with_reducible refine z_o ?zo ?_); (case zo => decide +kernel))
    | ((with_reducible refine z_x ?zx ?_); (case zx => decide +kernel))
    | fail)
    all_goals ((try simp only [Int.toNat_natCast, tn1, tp1, List.length_map, eq_self, true_and, and_true] at *); (try simp (disch := omega) only [wr, Int.toNat_natCast, tn1, tp1, List.length_map, eq_self, true_and, and_true] at *))
    all_goals (try rw [e1] at *)
    all_goals (try rw [e2] at *)
    all_goals (first | omega | (refine z_e rfl ?_; simp only [fin, finP, finM, ids, nodupB, tupP, tupM, memN, List.length_cons, List.length_nil, List.nil_append, List.append_nil, List.cons_append, Nat.zero_add, Nat.reduceAdd, ne_eq, not_false_eq_true, eq_self, ev, Vq.look, List.map_cons, List.map_nil, and_true, true_and, Nat.reduceEqDiff, if_true, if_false, reduceCtorEq, ↓reduceIte]; rw [cellAt, if_pos hp]; and_intros <;> rfl) | exact absurd hp.1 (by assumption) | (exfalso; omega) | (trace_state; fail))
  · refine fn_z (ty := ty) (ts := [.cell 6 76 3]) [0, 1, 2, 3, 6, 25, 6] mixed ty_ok Try.func50 (by kernel_rfl) rfl (by kernel_rfl) (by kernel_rfl) rfl (.inl rfl) (Nat.le_of_ble_eq_true rfl) (by simp only [entry, entryV, C.toS, Nat.zero_add, Nat.reduceAdd, List.map_cons, List.map_nil]; exact rfl) ?_
    repeat' (first
    | ((with_reducible refine z_run ?_); (conv => whnf))
    | (with_reducible apply z_t)
    | (with_reducible apply z_f)
    | ((with_reducible apply z_b); ((intro h); (try simp only [beq_self_eq_true, eq_self, not_true_eq_false, not_false_eq_true, decide_true, cond_true, cond_false, Bool.not_true, Bool.not_false, Bool.not_eq_true', Bool.not_eq_false', Bool.and_eq_true, Bool.and_eq_false_imp, Bool.or_eq_true, Bool.or_eq_false_iff, decide_eq_true_eq, decide_eq_false_iff_not, Bool.false_eq_true, reduceCtorEq, Int.not_le, Int.not_lt, Decidable.not_not] at h)); rotate_left; ((intro h); (try simp only [beq_self_eq_true, eq_self, not_true_eq_false, not_false_eq_true, decide_true, cond_true, cond_false, Bool.not_true, Bool.not_false, Bool.not_eq_true', Bool.not_eq_false', Bool.and_eq_true, Bool.and_eq_false_imp, Bool.or_eq_true, Bool.or_eq_false_iff, decide_eq_true_eq, decide_eq_false_iff_not, Bool.false_eq_true, reduceCtorEq, Int.not_le, Int.not_lt, Decidable.not_not] at h)))
    | (with_reducible refine z_r ?_ ?_)
    | (with_reducible refine z_wg ?_ ?_)
    | (with_reducible refine z_w ?_ ?_)
    | ((with_reducible apply sh_nil); (intro _))
    | ((with_reducible apply sh_int); (intro _))
    | ((with_reducible apply sh_bool); (intro _))
    | ((with_reducible apply sh_sl); (intro _))
    | ((with_reducible refine z_xf ?zc ?zx ?_); (case zc => decide +kernel); (case zx => decide +kernel))
    | (with_reducible refine z_k (specBlockOk _ _ hl) ?_)
    | (with_reducible refine z_k (in_fn _ _ _) ?_)
    | ((with_reducible refine z_o ?zo ?_); (case zo => decide +kernel))
    | ((with_reducible refine z_x ?zx ?_); (case zx => decide +kernel))
    | fail)
    all_goals ((try simp only [Int.toNat_natCast, tn1, tp1, List.length_map, eq_self, true_and, and_true] at *); (try simp (disch := omega) only [wr, Int.toNat_natCast, tn1, tp1, List.length_map, eq_self, true_and, and_true] at *))
    all_goals (try (have hb : blkOk n c := by assumption))
    all_goals (try (have hn := hb.1; rw [wr (x := n - 1) ⟨by omega, by omega⟩] at *))
    all_goals (first | (refine z_e rfl ?_; simp only [fin, finP, finM, ids, nodupB, tupP, tupM, memN, List.length_cons, List.length_nil, List.nil_append, List.append_nil, List.cons_append, Nat.zero_add, Nat.reduceAdd, ne_eq, not_false_eq_true, eq_self, ev, Vq.look, List.map_cons, List.map_nil, and_true, true_and, Nat.reduceEqDiff, if_true, if_false, reduceCtorEq, ↓reduceIte]; rw [cellAt, if_neg hp]; and_intros <;> rfl) | (exfalso; exact hp ⟨by assumption, by assumption, by assumption⟩) | (trace_state; fail))
theorem implTurnFz (w g : Nat) (sp : List TSpot) (bs : List TBlk) (hl : sp.length + bs.length + cellsN bs ≤ 1048576) (hq : qOk w g sp bs) : FnC Try.prog 25 [aQ w g sp, aBs bs] (.tup [(true, [.int .i64 g, .int .i64 w, .fz dSpot ((tqL w g sp).map eSpot)]), (false, [.bool true])]) := by
  have h := implTurnQuilt w g sp bs hl hq
  refine ⟨h.cal, h.fn.weak ?_⟩
  simp only [List.length_map, fillTo_zero, Int.toNat_natCast, Option.isSome_some, and_self, fixB, Nat.reduceLeDiff, false_implies, true_implies, forall_const, St.le0, St.swaps, St.ren, mapV, renO, V.ren, Sc.ren, Ob.ren, swp, slsLe, obsLe, vLe, psLe, scLe, scsLe, obLe, Vq.look, Nat.reduceEqDiff, if_true, if_false, reduceCtorEq, ↓reduceIte, true_and, and_true, Rs.V, Rs.O, scsOf, obsOf, tupO, tupS, nxt, List.nil_append, List.append_nil, List.cons_append, Nat.zero_add]
theorem drawQuiltFz (l : List Int) (hl : l.length ≤ 1048576) : ∃ (w g : Nat) (sp : List TSpot) (bs : List TBlk), DrawnQ w g sp bs ∧ FnC Try.prog 43 [(false, [.sq dU (l.map eU)])] (.tup [(true, [.int .i64 w, .int .i64 g, .fz dSpot (sp.map eSpot)]), (false, [.fz dBlk (bs.map eBlk)])]) := by
  obtain ⟨w, g, sp, bs, h1, h⟩ := drawQuilt_fn l hl
  refine ⟨w, g, sp, bs, h1, h.cal, h.fn.weak ?_⟩
  simp only [List.length_map, fillTo_zero, Int.toNat_natCast, Option.isSome_some, and_self, fixB, Nat.reduceLeDiff, false_implies, true_implies, forall_const, St.le0, St.swaps, St.ren, mapV, renO, V.ren, Sc.ren, Ob.ren, swp, slsLe, obsLe, vLe, psLe, scLe, scsLe, obLe, Vq.look, Nat.reduceEqDiff, if_true, if_false, reduceCtorEq, ↓reduceIte, true_and, and_true, Rs.V, Rs.O, scsOf, obsOf, tupO, tupS, nxt, List.nil_append, List.append_nil, List.cons_append, Nat.zero_add]
/-- a quilt that is turned several times -/
def tqN (w g : Nat) (sp : List TSpot) : Nat → Nat × Nat × List TSpot
  | 0 => (w, g, sp)
  | k + 1 => ((tqN w g sp k).2.1, (tqN w g sp k).1, tqL (tqN w g sp k).1 (tqN w g sp k).2.1 (tqN w g sp k).2.2)
theorem tqN_ok {w g : Nat} {sp : List TSpot} {bs : List TBlk} (h : qOk w g sp bs) : ∀ k, qOk (tqN w g sp k).1 (tqN w g sp k).2.1 (tqN w g sp k).2.2 bs
  | 0 => h
  | k + 1 => tq_ok (tqN_ok h k)
theorem tqN4 {w g : Nat} {sp : List TSpot} {bs : List TBlk} (h : qOk w g sp bs) : tqN w g sp 4 = (w, g, sp) := by
  simp only [tqN]; rw [tq4 h]
end Go.Proofs.Ytcibheinilkcoaa
