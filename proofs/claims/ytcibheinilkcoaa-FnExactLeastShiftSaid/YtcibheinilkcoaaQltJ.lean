/- Contracts of the functions that look for the least shift. No conditions. -/
import Derived.Test.YtcibheinilkcoaaQltI
namespace Go.Proofs.Ytcibheinilkcoaa
open Go.Vq
set_option linter.unusedSimpArgs false
set_option linter.unusedVariables false
set_option maxHeartbeats 1000000
theorem implLeastNo (w g : Int) (sp : List TSpot) (bs : List TBlk) (hl : sp.length + bs.length + cellsN bs ≤ 1048576) (hq : ¬ qOk w g sp bs) : FnC Try.prog 34 [aQ w g sp, aBs bs] (.agg (rQ w g sp)) := by
  refine fn_z (ty := ty) (ts := [.cell 4 32 3]) [0, 1, 2, 4, 5, 6, 7, 8, 15, 18, 19, 20, 23, 24, 25, 39, 4] mixed ty_ok Try.func34 (by kernel_rfl) rfl (by kernel_rfl) (by kernel_rfl) rfl (.inl rfl) (Nat.le_of_ble_eq_true rfl) (by simp only [entry, entryV, C.toS, Nat.zero_add, Nat.reduceAdd, List.map_cons, List.map_nil]; exact rfl) ?_
  repeat' (first
    | ((with_reducible refine z_run ?_); (conv => whnf))
    | (with_reducible apply z_t)
    | (with_reducible apply z_f)
    | ((with_reducible apply z_b); ((intro h); (try simp only [beq_self_eq_true, eq_self, not_true_eq_false, not_false_eq_true, decide_true, cond_true, cond_false, Bool.not_true, Bool.not_false, Bool.not_eq_true', Bool.not_eq_false', Bool.and_eq_true, Bool.and_eq_false_imp, Bool.or_eq_true, Bool.or_eq_false_iff, decide_eq_true_eq, decide_eq_false_iff_not, Bool.false_eq_true, reduceCtorEq, Int.not_le, Int.not_lt, Decidable.not_not] at h)); rotate_left; ((intro h); (try simp only [beq_self_eq_true, eq_self, not_true_eq_false, not_false_eq_true, decide_true, cond_true, cond_false, Bool.not_true, Bool.not_false, Bool.not_eq_true', Bool.not_eq_false', Bool.and_eq_true, Bool.and_eq_false_imp, Bool.or_eq_true, Bool.or_eq_false_iff, decide_eq_true_eq, decide_eq_false_iff_not, Bool.false_eq_true, reduceCtorEq, Int.not_le, Int.not_lt, Decidable.not_not] at h)))
    | (with_reducible refine z_r ?_ ?_)
    | (with_reducible refine z_wg ?_ ?_)
    | (with_reducible refine z_w ?_ ?_)
    | ((with_reducible apply sh_nil); (intro _))
    | ((with_reducible apply sh_int); (intro _))
    | ((with_reducible apply sh_bool); (intro _))
    | ((with_reducible apply sh_sl); (intro _))
    | ((with_reducible refine z_xf ?zc ?zx ?_); (case zc => decide +kernel); (case zx => decide +kernel))
    | (with_reducible refine z_k (qCopied_fn _ _ _ (by omega)) ?_)
    | (with_reducible refine z_k (implQuiltOk _ _ _ _ hl) ?_)
    | ((with_reducible refine z_o ?zo ?_); (case zo => decide +kernel))
    | ((with_reducible refine z_x ?zx ?_); (case zx => decide +kernel))
    | fail)
  all_goals (first | contradiction | (refine z_e rfl ?_; simp only [fin, finP, finM, ids, nodupB, tupP, tupM, memN, List.length_cons, List.length_nil, List.nil_append, List.append_nil, List.cons_append, Nat.zero_add, Nat.reduceAdd, ne_eq, not_false_eq_true, eq_self, ev, Vq.look, List.map_cons, List.map_nil, and_true, true_and, Nat.reduceEqDiff, if_true, if_false, reduceCtorEq, ↓reduceIte]; done) | (refine z_e rfl ?_; simp only [fin, finP, finM, ids, nodupB, tupP, tupM, memN, List.length_cons, List.length_nil, List.nil_append, List.append_nil, List.cons_append, Nat.zero_add, Nat.reduceAdd, ne_eq, not_false_eq_true, eq_self, ev, Vq.look, List.map_cons, List.map_nil, and_true, true_and, Nat.reduceEqDiff, if_true, if_false, reduceCtorEq, ↓reduceIte]; and_intros <;> rfl) | (trace_state; fail))
theorem specLeastNo (w g : Int) (sp : List TSpot) (bs : List TBlk) (hl : sp.length + bs.length + cellsN bs ≤ 1048576) (hq : ¬ qOk w g sp bs) : FnC Try.prog 33 [aQ w g sp, aBs bs] (.agg (rQ w g sp)) := by
  refine fn_z (ty := ty) (ts := [.cell 4 32 3]) [0, 1, 2, 4, 5, 6, 7, 13, 21, 38, 4] mixed ty_ok Try.func33 (by kernel_rfl) rfl (by kernel_rfl) (by kernel_rfl) rfl (.inl rfl) (Nat.le_of_ble_eq_true rfl) (by simp only [entry, entryV, C.toS, Nat.zero_add, Nat.reduceAdd, List.map_cons, List.map_nil]; exact rfl) ?_
  repeat' (first
    | ((with_reducible refine z_run ?_); (conv => whnf))
    | (with_reducible apply z_t)
    | (with_reducible apply z_f)
    | ((with_reducible apply z_b); ((intro h); (try simp only [beq_self_eq_true, eq_self, not_true_eq_false, not_false_eq_true, decide_true, cond_true, cond_false, Bool.not_true, Bool.not_false, Bool.not_eq_true', Bool.not_eq_false', Bool.and_eq_true, Bool.and_eq_false_imp, Bool.or_eq_true, Bool.or_eq_false_iff, decide_eq_true_eq, decide_eq_false_iff_not, Bool.false_eq_true, reduceCtorEq, Int.not_le, Int.not_lt, Decidable.not_not] at h)); rotate_left; ((intro h); (try simp only [beq_self_eq_true, eq_self, not_true_eq_false, not_false_eq_true, decide_true, cond_true, cond_false, Bool.not_true, Bool.not_false, Bool.not_eq_true', Bool.not_eq_false', Bool.and_eq_true, Bool.and_eq_false_imp, Bool.or_eq_true, Bool.or_eq_false_iff, decide_eq_true_eq, decide_eq_false_iff_not, Bool.false_eq_true, reduceCtorEq, Int.not_le, Int.not_lt, Decidable.not_not] at h)))
    | (with_reducible refine z_r ?_ ?_)
    | (with_reducible refine z_wg ?_ ?_)
    | (with_reducible refine z_w ?_ ?_)
    | ((with_reducible apply sh_nil); (intro _))
    | ((with_reducible apply sh_int); (intro _))
    | ((with_reducible apply sh_bool); (intro _))
    | ((with_reducible apply sh_sl); (intro _))
    | ((with_reducible refine z_xf ?zc ?zx ?_); (case zc => decide +kernel); (case zx => decide +kernel))
    | (with_reducible refine z_k (qCopy_fn _ _ _ (by omega)) ?_)
    | (with_reducible refine z_k (specQuiltOk _ _ _ _ hl) ?_)
    | ((with_reducible refine z_o ?zo ?_); (case zo => decide +kernel))
    | ((with_reducible refine z_x ?zx ?_); (case zx => decide +kernel))
    | fail)
  all_goals (first | contradiction | (refine z_e rfl ?_; simp only [fin, finP, finM, ids, nodupB, tupP, tupM, memN, List.length_cons, List.length_nil, List.nil_append, List.append_nil, List.cons_append, Nat.zero_add, Nat.reduceAdd, ne_eq, not_false_eq_true, eq_self, ev, Vq.look, List.map_cons, List.map_nil, and_true, true_and, Nat.reduceEqDiff, if_true, if_false, reduceCtorEq, ↓reduceIte]; done) | (refine z_e rfl ?_; simp only [fin, finP, finM, ids, nodupB, tupP, tupM, memN, List.length_cons, List.length_nil, List.nil_append, List.append_nil, List.cons_append, Nat.zero_add, Nat.reduceAdd, ne_eq, not_false_eq_true, eq_self, ev, Vq.look, List.map_cons, List.map_nil, and_true, true_and, Nat.reduceEqDiff, if_true, if_false, reduceCtorEq, ↓reduceIte]; and_intros <;> rfl) | (trace_state; fail))
theorem bestK_next {w g : Nat} {sp : List TSpot} {y x : Nat} (hx : x < w) : bestK w g sp (y * w + x + 1) = if lessP (shQ w g x y sp) (bestK w g sp (y * w + x)) then shQ w g x y sp else bestK w g sp (y * w + x) := by
  have h1 : (y * w + x) % w = x := by rw [Nat.mul_comm, Nat.mul_add_mod]; exact Nat.mod_eq_of_lt hx
  have h2 : (y * w + x) / w = y := by rw [Nat.mul_comm, Nat.mul_add_div (by omega), Nat.div_eq_of_lt hx, Nat.add_zero]
  conv => lhs; unfold bestK
  rw [h1, h2]
theorem implLeastShift (w g : Nat) (sp : List TSpot) (bs : List TBlk) (hl : sp.length + bs.length + cellsN bs ≤ 1048576) (hq : qOk w g sp bs) : FnC Try.prog 34 [aQ w g sp, aBs bs] (.agg (rQ w g (bestK w g sp (g * w)))) := by
  obtain ⟨hwg, hsl⟩ := qOk_wg hq
  have w1 := hwg.w1
  have g1 := hwg.g1
  have w6 := hwg.w6
  have g6 := hwg.g6
  have h36 : w * g ≤ 6 * 6 := Nat.mul_le_mul hwg.w6 hwg.g6
  have hwg' : w * g = g * w := Nat.mul_comm w g
  refine fn_z (ty := ty) (ts := [.cell 4 32 3]) [0, 1, 2, 4, 5, 6, 7, 8, 15, 18, 19, 20, 23, 24, 25, 39, 4] mixed ty_ok Try.func34 (by kernel_rfl) rfl (by kernel_rfl) (by kernel_rfl) rfl (.inl rfl) (Nat.le_of_ble_eq_true rfl) (by simp only [entry, entryV, C.toS, Nat.zero_add, Nat.reduceAdd, List.map_cons, List.map_nil]; exact rfl) ?_
  repeat' (first
    | ((with_reducible refine z_run ?_); (conv => whnf))
    | (with_reducible apply z_t)
    | (with_reducible apply z_f)
    | ((with_reducible apply z_b); ((intro h); (try simp only [beq_self_eq_true, eq_self, not_true_eq_false, not_false_eq_true, decide_true, cond_true, cond_false, Bool.not_true, Bool.not_false, Bool.not_eq_true', Bool.not_eq_false', Bool.and_eq_true, Bool.and_eq_false_imp, Bool.or_eq_true, Bool.or_eq_false_iff, decide_eq_true_eq, decide_eq_false_iff_not, Bool.false_eq_true, reduceCtorEq, Int.not_le, Int.not_lt, Decidable.not_not] at h)); rotate_left; ((intro h); (try simp only [beq_self_eq_true, eq_self, not_true_eq_false, not_false_eq_true, decide_true, cond_true, cond_false, Bool.not_true, Bool.not_false, Bool.not_eq_true', Bool.not_eq_false', Bool.and_eq_true, Bool.and_eq_false_imp, Bool.or_eq_true, Bool.or_eq_false_iff, decide_eq_true_eq, decide_eq_false_iff_not, Bool.false_eq_true, reduceCtorEq, Int.not_le, Int.not_lt, Decidable.not_not] at h)))
    | (with_reducible refine z_r ?_ ?_)
    | (with_reducible refine z_wg ?_ ?_)
    | (with_reducible refine z_w ?_ ?_)
    | ((with_reducible apply sh_nil); (intro _))
    | ((with_reducible apply sh_int); (intro _))
    | ((with_reducible apply sh_bool); (intro _))
    | ((with_reducible apply sh_sl); (intro _))
    | ((with_reducible refine z_xf ?zc ?zx ?_); (case zc => decide +kernel); (case zx => decide +kernel))
    | (with_reducible refine z_k (qCopied_fn _ _ _ (by omega)) ?_)
    | (with_reducible refine z_k (implQuiltOk _ _ _ _ hl) ?_)
    | ((with_reducible refine z_o ?zo ?_); (case zo => decide +kernel))
    | ((with_reducible refine z_x ?zx ?_); (case zx => decide +kernel))
    | fail)
  all_goals (first | contradiction | skip)
  refine z_li (fun y : Nat => y ≤ g) (0 : Nat) (fun y => g - y) (fun y => ⟨[(1, .one (.ro dBlk (bs.map eBlk))), (2, .one (.bx 2 0)), (4, .one (.bx 4 0)), (5, .one (.bx 5 0)), (18, .one (.int .i64 g)), (19, .one (.int .i64 y))], [(5, .box [.int .i64 w, .int .i64 g, .root 11]), (11, .row 82 dSpot ((bestK w g sp (y * w)).map eSpot)), (4, .box [.int .i64 0, .int .i64 0, .nil]), (2, .box [.int .i64 w, .int .i64 g, .ro dSpot (sp.map eSpot)])]⟩) (by omega) ?_ ?_
  · simp only [Nat.zero_mul, bestK]; simp only [List.length_map, fillTo_zero, Int.toNat_natCast, Option.isSome_some, and_self, fixB, Nat.reduceLeDiff, false_implies, true_implies, forall_const, St.le0, St.swaps, St.ren, mapV, renO, V.ren, Sc.ren, Ob.ren, swp, slsLe, obsLe, vLe, psLe, scLe, scsLe, obLe, Vq.look, Nat.reduceEqDiff, if_true, if_false, reduceCtorEq, ↓reduceIte, true_and, and_true] <;> (and_intros <;> first | rfl | omega | assumption)
  · intro y hy
    repeat' (first
    | ((with_reducible refine z_run ?_); (conv => whnf))
    | (with_reducible apply z_t)
    | (with_reducible apply z_f)
    | ((with_reducible apply z_b); ((intro h); (try simp only [beq_self_eq_true, eq_self, not_true_eq_false, not_false_eq_true, decide_true, cond_true, cond_false, Bool.not_true, Bool.not_false, Bool.not_eq_true', Bool.not_eq_false', Bool.and_eq_true, Bool.and_eq_false_imp, Bool.or_eq_true, Bool.or_eq_false_iff, decide_eq_true_eq, decide_eq_false_iff_not, Bool.false_eq_true, reduceCtorEq, Int.not_le, Int.not_lt, Decidable.not_not] at h)); rotate_left; ((intro h); (try simp only [beq_self_eq_true, eq_self, not_true_eq_false, not_false_eq_true, decide_true, cond_true, cond_false, Bool.not_true, Bool.not_false, Bool.not_eq_true', Bool.not_eq_false', Bool.and_eq_true, Bool.and_eq_false_imp, Bool.or_eq_true, Bool.or_eq_false_iff, decide_eq_true_eq, decide_eq_false_iff_not, Bool.false_eq_true, reduceCtorEq, Int.not_le, Int.not_lt, Decidable.not_not] at h)))
    | (with_reducible refine z_r ?_ ?_)
    | (with_reducible refine z_wg ?_ ?_)
    | (with_reducible refine z_w ?_ ?_)
    | ((with_reducible apply sh_nil); (intro _))
    | ((with_reducible apply sh_int); (intro _))
    | ((with_reducible apply sh_bool); (intro _))
    | ((with_reducible apply sh_sl); (intro _))
    | ((with_reducible refine z_xf ?zc ?zx ?_); (case zc => decide +kernel); (case zx => decide +kernel))
    | ((with_reducible refine z_o ?zo ?_); (case zo => decide +kernel))
    | ((with_reducible refine z_x ?zx ?_); (case zx => decide +kernel))
    | fail)
    all_goals ((try simp only [Int.toNat_natCast, tn1, tp1, List.length_map, eq_self, true_and, and_true] at *); (try simp (disch := omega) only [wr, Int.toNat_natCast, tn1, tp1, List.length_map, eq_self, true_and, and_true] at *))
    all_goals (first
      | omega
      | (refine z_e rfl ?_; simp only [fin, finP, finM, ids, nodupB, tupP, tupM, memN, List.length_cons, List.length_nil, List.nil_append, List.append_nil, List.cons_append, Nat.zero_add, Nat.reduceAdd, ne_eq, not_false_eq_true, eq_self, ev, Vq.look, List.map_cons, List.map_nil, and_true, true_and, Nat.reduceEqDiff, if_true, if_false, reduceCtorEq, ↓reduceIte]; rw [show y = g by omega]; first | done | rfl | (and_intros <;> rfl))
      | skip)
    refine z_li (fun x : Nat => x ≤ w) (0 : Nat) (fun x => w - x) (fun x => ⟨[(1, .one (.ro dBlk (bs.map eBlk))), (2, .one (.bx 2 0)), (4, .one (.bx 4 0)), (5, .one (.bx 5 0)), (6, .one (.int .i64 y)), (18, .one (.int .i64 g)), (19, .one (.int .i64 y)), (23, .one (.int .i64 w)), (24, .one (.int .i64 x))], [(5, .box [.int .i64 w, .int .i64 g, .root 11]), (11, .row 82 dSpot ((bestK w g sp (y * w + x)).map eSpot)), (4, .box [.int .i64 0, .int .i64 0, .nil]), (2, .box [.int .i64 w, .int .i64 g, .ro dSpot (sp.map eSpot)])]⟩) (by omega) ?_ ?_
    · simp only [List.length_map, fillTo_zero, Int.toNat_natCast, Option.isSome_some, and_self, fixB, Nat.reduceLeDiff, false_implies, true_implies, forall_const, St.le0, St.swaps, St.ren, mapV, renO, V.ren, Sc.ren, Ob.ren, swp, slsLe, obsLe, vLe, psLe, scLe, scsLe, obLe, Vq.look, Nat.reduceEqDiff, if_true, if_false, reduceCtorEq, ↓reduceIte, true_and, and_true] <;> (and_intros <;> first | rfl | omega | assumption)
    · intro x hx
      have hbl := bestK_len (w := w) (g := g) (sp := sp) (by omega) (y * w + x)
      have hql := shQ_len w g x y sp
      by_cases hxw : x < w
      · have hn := bestK_next (g := g) (sp := sp) (y := y) hxw
        repeat' (first
    | ((with_reducible refine z_run ?_); (conv => whnf))
    | (with_reducible apply z_t)
    | (with_reducible apply z_f)
    | ((with_reducible apply z_b); ((intro h); (try simp only [beq_self_eq_true, eq_self, not_true_eq_false, not_false_eq_true, decide_true, cond_true, cond_false, Bool.not_true, Bool.not_false, Bool.not_eq_true', Bool.not_eq_false', Bool.and_eq_true, Bool.and_eq_false_imp, Bool.or_eq_true, Bool.or_eq_false_iff, decide_eq_true_eq, decide_eq_false_iff_not, Bool.false_eq_true, reduceCtorEq, Int.not_le, Int.not_lt, Decidable.not_not] at h)); rotate_left; ((intro h); (try simp only [beq_self_eq_true, eq_self, not_true_eq_false, not_false_eq_true, decide_true, cond_true, cond_false, Bool.not_true, Bool.not_false, Bool.not_eq_true', Bool.not_eq_false', Bool.and_eq_true, Bool.and_eq_false_imp, Bool.or_eq_true, Bool.or_eq_false_iff, decide_eq_true_eq, decide_eq_false_iff_not, Bool.false_eq_true, reduceCtorEq, Int.not_le, Int.not_lt, Decidable.not_not] at h)))
    | (with_reducible refine z_r ?_ ?_)
    | (with_reducible refine z_wg ?_ ?_)
    | (with_reducible refine z_w ?_ ?_)
    | ((with_reducible apply sh_nil); (intro _))
    | ((with_reducible apply sh_int); (intro _))
    | ((with_reducible apply sh_bool); (intro _))
    | ((with_reducible apply sh_sl); (intro _))
    | ((with_reducible refine z_xf ?zc ?zx ?_); (case zc => decide +kernel); (case zx => decide +kernel))
    | (with_reducible refine z_k (implShiftQuilt _ _ _ _ hl hq x y hxw (by omega)) ?_)
    | (with_reducible refine z_k (isLess_fn _ _ (by omega) (by omega)) ?_)
    | ((with_reducible refine z_o ?zo ?_); (case zo => decide +kernel))
    | ((with_reducible refine z_x ?zx ?_); (case zx => decide +kernel))
    | fail)
        all_goals ((try simp only [Int.toNat_natCast, tn1, tp1, List.length_map, eq_self, true_and, and_true] at *); (try simp (disch := omega) only [wr, Int.toNat_natCast, tn1, tp1, List.length_map, eq_self, true_and, and_true] at *))
        all_goals (first
          | omega
          | (refine z_n (x + 1) ⟨by omega, by omega⟩ ?_; rw [show y * w + (x + 1) = y * w + x + 1 from rfl, hn, if_neg (by assumption)]; simp only [List.length_map, fillTo_zero, Int.toNat_natCast, Option.isSome_some, and_self, fixB, Nat.reduceLeDiff, false_implies, true_implies, forall_const, St.le0, St.swaps, St.ren, mapV, renO, V.ren, Sc.ren, Ob.ren, swp, slsLe, obsLe, vLe, psLe, scLe, scsLe, obLe, Vq.look, Nat.reduceEqDiff, if_true, if_false, reduceCtorEq, ↓reduceIte, true_and, and_true] <;> (and_intros <;> first | rfl | omega | assumption); done)
          | (refine z_nr [(32, 11)] rfl (x + 1) ⟨by omega, by omega⟩ ?_; rw [show y * w + (x + 1) = y * w + x + 1 from rfl, hn, if_pos (by assumption)]; simp only [List.length_map, fillTo_zero, Int.toNat_natCast, Option.isSome_some, and_self, fixB, Nat.reduceLeDiff, false_implies, true_implies, forall_const, St.le0, St.swaps, St.ren, mapV, renO, V.ren, Sc.ren, Ob.ren, swp, slsLe, obsLe, vLe, psLe, scLe, scsLe, obLe, Vq.look, Nat.reduceEqDiff, if_true, if_false, reduceCtorEq, ↓reduceIte, true_and, and_true, List.map_cons, List.map_nil]; (and_intros <;> first | rfl | omega | assumption); done)
          | (trace_state; fail))
      · repeat' (first
    | ((with_reducible refine z_run ?_); (conv => whnf))
    | (with_reducible apply z_t)
    | (with_reducible apply z_f)
    | ((with_reducible apply z_b); ((intro h); (try simp only [beq_self_eq_true, eq_self, not_true_eq_false, not_false_eq_true, decide_true, cond_true, cond_false, Bool.not_true, Bool.not_false, Bool.not_eq_true', Bool.not_eq_false', Bool.and_eq_true, Bool.and_eq_false_imp, Bool.or_eq_true, Bool.or_eq_false_iff, decide_eq_true_eq, decide_eq_false_iff_not, Bool.false_eq_true, reduceCtorEq, Int.not_le, Int.not_lt, Decidable.not_not] at h)); rotate_left; ((intro h); (try simp only [beq_self_eq_true, eq_self, not_true_eq_false, not_false_eq_true, decide_true, cond_true, cond_false, Bool.not_true, Bool.not_false, Bool.not_eq_true', Bool.not_eq_false', Bool.and_eq_true, Bool.and_eq_false_imp, Bool.or_eq_true, Bool.or_eq_false_iff, decide_eq_true_eq, decide_eq_false_iff_not, Bool.false_eq_true, reduceCtorEq, Int.not_le, Int.not_lt, Decidable.not_not] at h)))
    | (with_reducible refine z_r ?_ ?_)
    | (with_reducible refine z_wg ?_ ?_)
    | (with_reducible refine z_w ?_ ?_)
    | ((with_reducible apply sh_nil); (intro _))
    | ((with_reducible apply sh_int); (intro _))
    | ((with_reducible apply sh_bool); (intro _))
    | ((with_reducible apply sh_sl); (intro _))
    | ((with_reducible refine z_xf ?zc ?zx ?_); (case zc => decide +kernel); (case zx => decide +kernel))
    | ((with_reducible refine z_o ?zo ?_); (case zo => decide +kernel))
    | ((with_reducible refine z_x ?zx ?_); (case zx => decide +kernel))
    | fail)
        all_goals ((try simp only [Int.toNat_natCast, tn1, tp1, List.length_map, eq_self, true_and, and_true] at *); (try simp (disch := omega) only [wr, Int.toNat_natCast, tn1, tp1, List.length_map, eq_self, true_and, and_true] at *))
        all_goals (first
          | omega
          | (refine z_n (y + 1) ⟨by omega, by omega⟩ ?_; rw [Nat.succ_mul, show x = w by omega]; simp only [List.length_map, fillTo_zero, Int.toNat_natCast, Option.isSome_some, and_self, fixB, Nat.reduceLeDiff, false_implies, true_implies, forall_const, St.le0, St.swaps, St.ren, mapV, renO, V.ren, Sc.ren, Ob.ren, swp, slsLe, obsLe, vLe, psLe, scLe, scsLe, obLe, Vq.look, Nat.reduceEqDiff, if_true, if_false, reduceCtorEq, ↓reduceIte, true_and, and_true] <;> (and_intros <;> first | rfl | omega | assumption); done)
          | (trace_state; fail))
theorem specLeastShift (w g : Nat) (sp : List TSpot) (bs : List TBlk) (hl : sp.length + bs.length + cellsN bs ≤ 1048576) (hq : qOk w g sp bs) : FnC Try.prog 33 [aQ w g sp, aBs bs] (.agg (rQ w g (bestK w g sp (g * w)))) := by
  obtain ⟨hwg, hsl⟩ := qOk_wg hq
  have w1 := hwg.w1
  have g1 := hwg.g1
  have w6 := hwg.w6
  have g6 := hwg.g6
  have h36 : w * g ≤ 6 * 6 := Nat.mul_le_mul hwg.w6 hwg.g6
  have hwg' : w * g = g * w := Nat.mul_comm w g
  have eM : IntKind.i64.wrap ((w : Int) * g) = ((w * g : Nat) : Int) := wrM _ _ (by omega)
  refine fn_z (ty := ty) (ts := [.cell 4 32 3]) [0, 1, 2, 4, 5, 6, 7, 13, 21, 38, 4] mixed ty_ok Try.func33 (by kernel_rfl) rfl (by kernel_rfl) (by kernel_rfl) rfl (.inl rfl) (Nat.le_of_ble_eq_true rfl) (by simp only [entry, entryV, C.toS, Nat.zero_add, Nat.reduceAdd, List.map_cons, List.map_nil]; exact rfl) ?_
  repeat' (first
    | ((with_reducible refine z_run ?_); (conv => whnf))
    | (with_reducible apply z_t)
    | (with_reducible apply z_f)
    | ((with_reducible apply z_b); ((intro h); (try simp only [beq_self_eq_true, eq_self, not_true_eq_false, not_false_eq_true, decide_true, cond_true, cond_false, Bool.not_true, Bool.not_false, Bool.not_eq_true', Bool.not_eq_false', Bool.and_eq_true, Bool.and_eq_false_imp, Bool.or_eq_true, Bool.or_eq_false_iff, decide_eq_true_eq, decide_eq_false_iff_not, Bool.false_eq_true, reduceCtorEq, Int.not_le, Int.not_lt, Decidable.not_not] at h)); rotate_left; ((intro h); (try simp only [beq_self_eq_true, eq_self, not_true_eq_false, not_false_eq_true, decide_true, cond_true, cond_false, Bool.not_true, Bool.not_false, Bool.not_eq_true', Bool.not_eq_false', Bool.and_eq_true, Bool.and_eq_false_imp, Bool.or_eq_true, Bool.or_eq_false_iff, decide_eq_true_eq, decide_eq_false_iff_not, Bool.false_eq_true, reduceCtorEq, Int.not_le, Int.not_lt, Decidable.not_not] at h)))
    | (with_reducible refine z_r ?_ ?_)
    | (with_reducible refine z_wg ?_ ?_)
    | (with_reducible refine z_w ?_ ?_)
    | ((with_reducible apply sh_nil); (intro _))
    | ((with_reducible apply sh_int); (intro _))
    | ((with_reducible apply sh_bool); (intro _))
    | ((with_reducible apply sh_sl); (intro _))
    | ((with_reducible refine z_xf ?zc ?zx ?_); (case zc => decide +kernel); (case zx => decide +kernel))
    | (with_reducible refine z_k (qCopy_fn _ _ _ (by omega)) ?_)
    | (with_reducible refine z_k (specQuiltOk _ _ _ _ hl) ?_)
    | ((with_reducible refine z_o ?zo ?_); (case zo => decide +kernel))
    | ((with_reducible refine z_x ?zx ?_); (case zx => decide +kernel))
    | fail)
  all_goals (first | contradiction | skip)
  refine z_li (fun k : Nat => k ≤ w * g) (0 : Nat) (fun k => w * g - k) (fun k => ⟨[(1, .one (.ro dBlk (bs.map eBlk))), (2, .one (.bx 2 0)), (4, .one (.bx 4 0)), (5, .one (.bx 5 0)), (6, .one (.int .i64 k))], [(5, .box [.int .i64 w, .int .i64 g, .root 9]), (9, .row 82 dSpot ((bestK w g sp k).map eSpot)), (4, .box [.int .i64 0, .int .i64 0, .nil]), (2, .box [.int .i64 w, .int .i64 g, .ro dSpot (sp.map eSpot)])]⟩) (by omega) ?_ ?_
  · simp only [bestK]; simp only [List.length_map, fillTo_zero, Int.toNat_natCast, Option.isSome_some, and_self, fixB, Nat.reduceLeDiff, false_implies, true_implies, forall_const, St.le0, St.swaps, St.ren, mapV, renO, V.ren, Sc.ren, Ob.ren, swp, slsLe, obsLe, vLe, psLe, scLe, scsLe, obLe, Vq.look, Nat.reduceEqDiff, if_true, if_false, reduceCtorEq, ↓reduceIte, true_and, and_true] <;> (and_intros <;> first | rfl | omega | assumption)
  · intro k hk
    have hbl := bestK_len (w := w) (g := g) (sp := sp) (by omega) k
    have hql := shQ_len w g (k % w) (k / w) sp
    have b1 : k / w ≤ k := Nat.div_le_self _ _
    have b2 : k % w < w := Nat.mod_lt _ (by omega)
    have e1 : (k : Int).tdiv w = ((k / w : Nat) : Int) := (Int.ofNat_tdiv k w).symm
    have e2 : (k : Int).tmod w = ((k % w : Nat) : Int) := (Int.ofNat_tmod k w).symm
    have e3 : IntKind.i64.wrap ((k / w : Nat) : Int) = ((k / w : Nat) : Int) := wrN _ (by omega)
    by_cases hkg : k < w * g
    · have hy : k / w < g := (Nat.div_lt_iff_lt_mul (by omega)).2 (by omega)
      have hn : bestK w g sp (k + 1) = if lessP (shQ w g (k % w) (k / w) sp) (bestK w g sp k) then shQ w g (k % w) (k / w) sp else bestK w g sp k := rfl
      have cM : ∀ v1 v2 : Int, v1 = ((k % w : Nat) : Int) → v2 = ((k / w : Nat) : Int) → FnC Try.prog 76 [aQ w g sp, (false, [.int .i64 v1]), (false, [.int .i64 v2])] (.agg (rQ w g (shQ w g (k % w) (k / w) sp))) := by
        rintro _ _ rfl rfl; exact l18Moved_fn _ _ _ (by omega) hwg hsl _ _ b2 hy
      repeat' (first
    | ((with_reducible refine z_run ?_); (conv => whnf))
    | (with_reducible apply z_t)
    | (with_reducible apply z_f)
    | ((with_reducible apply z_b); ((intro h); (try simp only [beq_self_eq_true, eq_self, not_true_eq_false, not_false_eq_true, decide_true, cond_true, cond_false, Bool.not_true, Bool.not_false, Bool.not_eq_true', Bool.not_eq_false', Bool.and_eq_true, Bool.and_eq_false_imp, Bool.or_eq_true, Bool.or_eq_false_iff, decide_eq_true_eq, decide_eq_false_iff_not, Bool.false_eq_true, reduceCtorEq, Int.not_le, Int.not_lt, Decidable.not_not] at h)); rotate_left; ((intro h); (try simp only [beq_self_eq_true, eq_self, not_true_eq_false, not_false_eq_true, decide_true, cond_true, cond_false, Bool.not_true, Bool.not_false, Bool.not_eq_true', Bool.not_eq_false', Bool.and_eq_true, Bool.and_eq_false_imp, Bool.or_eq_true, Bool.or_eq_false_iff, decide_eq_true_eq, decide_eq_false_iff_not, Bool.false_eq_true, reduceCtorEq, Int.not_le, Int.not_lt, Decidable.not_not] at h)))
    | (with_reducible refine z_r ?_ ?_)
    | (with_reducible refine z_wg ?_ ?_)
    | (with_reducible refine z_w ?_ ?_)
    | ((with_reducible apply sh_nil); (intro _))
    | ((with_reducible apply sh_int); (intro _))
    | ((with_reducible apply sh_bool); (intro _))
    | ((with_reducible apply sh_sl); (intro _))
    | ((with_reducible refine z_xf ?zc ?zx ?_); (case zc => decide +kernel); (case zx => decide +kernel))
    | (with_reducible refine z_k (cM _ _ (by simp only [e2]) (by simp only [e1, e3])) ?_)
    | (with_reducible refine z_k (l18Less_fn _ _ (by omega) (by omega)) ?_)
    | (refine z_dp [[1, 2, 5, 6, 0, 3, 4, 7, 8, 9, 10, 11], [1, 2, 5, 6, 0, 3, 4, 7, 8, 10, 9, 11], [1, 2, 5, 6, 0, 3, 4, 10, 7, 8, 9, 11], [1, 2, 5, 6, 0, 7, 8, 3, 4, 9, 10, 11], [1, 2, 5, 6, 0, 7, 8, 3, 4, 10, 9, 11], [1, 2, 5, 6, 0, 7, 8, 10, 3, 4, 9, 11], [1, 2, 5, 6, 0, 10, 3, 4, 7, 8, 9, 11], [1, 2, 5, 6, 0, 10, 7, 8, 3, 4, 9, 11], [1, 2, 5, 6, 3, 4, 0, 7, 8, 9, 10, 11], [1, 2, 5, 6, 3, 4, 0, 7, 8, 10, 9, 11], [1, 2, 5, 6, 3, 4, 0, 10, 7, 8, 9, 11], [1, 2, 5, 6, 3, 4, 7, 8, 0, 9, 10, 11], [1, 2, 5, 6, 3, 4, 7, 8, 0, 10, 9, 11], [1, 2, 5, 6, 3, 4, 7, 8, 10, 0, 9, 11], [1, 2, 5, 6, 3, 4, 10, 0, 7, 8, 9, 11], [1, 2, 5, 6, 3, 4, 10, 7, 8, 0, 9, 11], [1, 2, 5, 6, 7, 8, 0, 3, 4, 9, 10, 11], [1, 2, 5, 6, 7, 8, 0, 3, 4, 10, 9, 11], [1, 2, 5, 6, 7, 8, 0, 10, 3, 4, 9, 11], [1, 2, 5, 6, 7, 8, 3, 4, 0, 9, 10, 11], [1, 2, 5, 6, 7, 8, 3, 4, 0, 10, 9, 11], [1, 2, 5, 6, 7, 8, 3, 4, 10, 0, 9, 11], [1, 2, 5, 6, 7, 8, 10, 0, 3, 4, 9, 11], [1, 2, 5, 6, 7, 8, 10, 3, 4, 0, 9, 11], [1, 2, 5, 6, 10, 0, 3, 4, 7, 8, 9, 11], [1, 2, 5, 6, 10, 0, 7, 8, 3, 4, 9, 11], [1, 2, 5, 6, 10, 3, 4, 0, 7, 8, 9, 11], [1, 2, 5, 6, 10, 3, 4, 7, 8, 0, 9, 11], [1, 2, 5, 6, 10, 7, 8, 0, 3, 4, 9, 11], [1, 2, 5, 6, 10, 7, 8, 3, 4, 0, 9, 11]] (by decide +kernel) ?_ ?_ ?_)
    | exact allP_n
    | (refine allP_c ?_ ?_)
    | ((refine z_sn0 ?_); (simp only [List.length_map, fillTo_zero, Int.toNat_natCast, Option.isSome_some, and_self, fixB, Nat.reduceLeDiff, false_implies, true_implies, forall_const, St.le0, St.swaps, St.ren, mapV, renO, V.ren, Sc.ren, Ob.ren, swp, slsLe, obsLe, vLe, psLe, scLe, scsLe, obLe, Vq.look, Nat.reduceEqDiff, if_true, if_false, reduceCtorEq, ↓reduceIte, true_and, and_true] <;> (and_intros <;> first | rfl | omega | assumption); done))
    | ((refine z_sn ?_); (simp only [List.length_map, fillTo_zero, Int.toNat_natCast, Option.isSome_some, and_self, fixB, Nat.reduceLeDiff, false_implies, true_implies, forall_const, St.le0, St.swaps, St.ren, mapV, renO, V.ren, Sc.ren, Ob.ren, swp, slsLe, obsLe, vLe, psLe, scLe, scsLe, obLe, Vq.look, Nat.reduceEqDiff, if_true, if_false, reduceCtorEq, ↓reduceIte, true_and, and_true] <;> (and_intros <;> first | rfl | omega | assumption); done))
    | ((with_reducible refine z_o ?zo ?_); (case zo => decide +kernel))
    | ((with_reducible refine z_x ?zx ?_); (case zx => decide +kernel))
    | fail)
      all_goals (try rw [eM] at *)
      all_goals ((try simp only [Int.toNat_natCast, tn1, tp1, List.length_map, eq_self, true_and, and_true] at *); (try simp (disch := omega) only [wr, Int.toNat_natCast, tn1, tp1, List.length_map, eq_self, true_and, and_true] at *))
      all_goals (first
        | omega
        | (refine z_n (k + 1) ⟨by omega, by omega⟩ ?_; rw [hn, if_neg (by assumption)]; simp only [List.length_map, fillTo_zero, Int.toNat_natCast, Option.isSome_some, and_self, fixB, Nat.reduceLeDiff, false_implies, true_implies, forall_const, St.le0, St.swaps, St.ren, mapV, renO, V.ren, Sc.ren, Ob.ren, swp, slsLe, obsLe, vLe, psLe, scLe, scsLe, obLe, Vq.look, Nat.reduceEqDiff, if_true, if_false, reduceCtorEq, ↓reduceIte, true_and, and_true] <;> (and_intros <;> first | rfl | omega | assumption); done)
        | (refine z_nr [(33, 9)] rfl (k + 1) ⟨by omega, by omega⟩ ?_; rw [hn, if_pos (by assumption)]; simp only [List.length_map, fillTo_zero, Int.toNat_natCast, Option.isSome_some, and_self, fixB, Nat.reduceLeDiff, false_implies, true_implies, forall_const, St.le0, St.swaps, St.ren, mapV, renO, V.ren, Sc.ren, Ob.ren, swp, slsLe, obsLe, vLe, psLe, scLe, scsLe, obLe, Vq.look, Nat.reduceEqDiff, if_true, if_false, reduceCtorEq, ↓reduceIte, true_and, and_true, List.map_cons, List.map_nil]; (and_intros <;> first | rfl | omega | assumption); done)
        | (trace_state; fail))
    · repeat' (first
    | ((with_reducible refine z_run ?_); (conv => whnf))
    | (with_reducible apply z_t)
    | (with_reducible apply z_f)
    | ((with_reducible apply z_b); ((intro h); (try simp only [beq_self_eq_true, eq_self, not_true_eq_false, not_false_eq_true, decide_true, cond_true, cond_false, Bool.not_true, Bool.not_false, Bool.not_eq_true', Bool.not_eq_false', Bool.and_eq_true, Bool.and_eq_false_imp, Bool.or_eq_true, Bool.or_eq_false_iff, decide_eq_true_eq, decide_eq_false_iff_not, Bool.false_eq_true, reduceCtorEq, Int.not_le, Int.not_lt, Decidable.not_not] at h)); rotate_left; ((intro h); (try simp only [beq_self_eq_true, eq_self, not_true_eq_false, not_false_eq_true, decide_true, cond_true, cond_false, Bool.not_true, Bool.not_false, Bool.not_eq_true', Bool.not_eq_false', Bool.and_eq_true, Bool.and_eq_false_imp, Bool.or_eq_true, Bool.or_eq_false_iff, decide_eq_true_eq, decide_eq_false_iff_not, Bool.false_eq_true, reduceCtorEq, Int.not_le, Int.not_lt, Decidable.not_not] at h)))
    | (with_reducible refine z_r ?_ ?_)
    | (with_reducible refine z_wg ?_ ?_)
    | (with_reducible refine z_w ?_ ?_)
    | ((with_reducible apply sh_nil); (intro _))
    | ((with_reducible apply sh_int); (intro _))
    | ((with_reducible apply sh_bool); (intro _))
    | ((with_reducible apply sh_sl); (intro _))
    | ((with_reducible refine z_xf ?zc ?zx ?_); (case zc => decide +kernel); (case zx => decide +kernel))
    | ((with_reducible refine z_o ?zo ?_); (case zo => decide +kernel))
    | ((with_reducible refine z_x ?zx ?_); (case zx => decide +kernel))
    | fail)
      all_goals (try rw [eM] at *)
      all_goals ((try simp only [Int.toNat_natCast, tn1, tp1, List.length_map, eq_self, true_and, and_true] at *); (try simp (disch := omega) only [wr, Int.toNat_natCast, tn1, tp1, List.length_map, eq_self, true_and, and_true] at *))
      all_goals (first
        | omega
        | (refine z_e rfl ?_; simp only [fin, finP, finM, ids, nodupB, tupP, tupM, memN, List.length_cons, List.length_nil, List.nil_append, List.append_nil, List.cons_append, Nat.zero_add, Nat.reduceAdd, ne_eq, not_false_eq_true, eq_self, ev, Vq.look, List.map_cons, List.map_nil, and_true, true_and, Nat.reduceEqDiff, if_true, if_false, reduceCtorEq, ↓reduceIte]; rw [show k = g * w by omega]; first | done | rfl | (and_intros <;> rfl))
        | (trace_state; fail))
end Go.Proofs.Ytcibheinilkcoaa
