/- Copied quilts, marks of quilts; lists by rows and columns. No conditions. -/
import Derived.Test.YtcibheinilkcoaaQltS
namespace Go.Proofs.Ytcibheinilkcoaa
open Go.Vq
set_option linter.unusedSimpArgs false
set_option linter.unusedVariables false
set_option maxHeartbeats 1000000
def madeP {α : Type} (n : Nat) (g : Nat → Nat → α) (y x : Nat) : List α := ((List.range y).flatMap fun j => (List.range n).map (g j)) ++ (List.range x).map (g y)
theorem madeP_len {α : Type} (n : Nat) (g : Nat → Nat → α) (y x : Nat) : (madeP n g y x).length = y * n + x := by
  unfold madeP
  rw [List.length_append, List.length_flatMap]
  simp only [List.length_map, List.length_range]
  rw [show (List.range y).map (fun _ => n) = List.replicate y n by rw [List.map_const', List.length_range]]
  simp
theorem madeP_succ {α : Type} (n : Nat) (g : Nat → Nat → α) (y x : Nat) : madeP n g y (x + 1) = madeP n g y x ++ [g y x] := by
  simp [madeP, List.range_succ]
theorem madeP_next {α : Type} (n : Nat) (g : Nat → Nat → α) (y : Nat) : madeP n g (y + 1) 0 = madeP n g y n := by
  simp [madeP, List.range_succ]
theorem madeP_get {α : Type} (n : Nat) (g : Nat → Nat → α) : ∀ (y x : Nat), x ≤ n → madeP n g y x = (List.range (y * n + x)).map fun k => g (k / n) (k % n) := by
  have one : ∀ y x, x ≤ n → (madeP n g y 0 = (List.range (y * n)).map fun k => g (k / n) (k % n)) → madeP n g y x = (List.range (y * n + x)).map fun k => g (k / n) (k % n) := by
    intro y x hx h0
    induction x with
    | zero => exact h0
    | succ x ih =>
      rw [madeP_succ, ih (by omega), show y * n + (x + 1) = (y * n + x) + 1 by omega, List.range_succ, List.map_append]
      congr 1
      simp only [List.map_cons, List.map_nil]
      rw [Nat.mul_comm y n, Nat.mul_add_div (by omega), Nat.div_eq_of_lt (by omega), Nat.mul_add_mod, Nat.mod_eq_of_lt (by omega)]
      simp
  intro y
  induction y with
  | zero => intro x hx; exact one 0 x hx (by simp [madeP])
  | succ y ih =>
    intro x hx
    refine one (y + 1) x hx ?_
    rw [madeP_next, ih n (Nat.le_refl _)]
    congr 2
    rw [Nat.succ_mul]
structure WG (w g : Nat) : Prop where
  w1 : 1 ≤ w
  w6 : w ≤ 6
  g1 : 1 ≤ g
  g6 : g ≤ 6
theorem qOk_wg {w g : Nat} {sp : List TSpot} {bs : List TBlk} (h : qOk w g sp bs) : WG w g ∧ sp.length = w * g := by
  have h1 := h.1.1
  have h2 := h.1.2.1
  have h3 := h.1.2.2.1
  exact ⟨⟨by omega, by omega, by omega, by omega⟩, by exact_mod_cast h3⟩
theorem qCopied_fn (w g : Int) (sp : List TSpot) (hl : sp.length ≤ 1048576) : FnC Try.prog 70 [aQ w g sp] (.agg (rQ w g sp)) := by
  refine fn_z (ty := ty) (ts := [.cell 2 32 3]) [0, 1, 2, 2] mixed ty_ok Try.func70 (by kernel_rfl) rfl (by kernel_rfl) (by kernel_rfl) rfl (.inl rfl) (Nat.le_of_ble_eq_true rfl) (by simp only [entry, entryV, C.toS, Nat.zero_add, Nat.reduceAdd, List.map_cons, List.map_nil]; exact rfl) ?_
  repeat' (first
    | ((with_reducible refine z_run ?_); (conv => whnf))
    | (with_reducible apply z_t)
    | (with_reducible apply z_f)
    | ((with_reducible apply z_b); ((intro h); (try simp only [beq_self_eq_true, eq_self, not_true_eq_false, not_false_eq_true, decide_true, cond_true, cond_false, Bool.not_true, Bool.not_false, Bool.not_eq_true', Bool.not_eq_false', Bool.and_eq_true, Bool.and_eq_false_imp, Bool.or_eq_true, Bool.or_eq_false_iff, decide_eq_true_eq, decide_eq_false_iff_not, Bool.false_eq_true, reduceCtorEq, Int.not_le, Int.not_lt, Decidable.not_not] at h)); rotate_left; ((intro h); (try simp only [beq_self_eq_true, eq_self, not_true_eq_false, not_false_eq_true, decide_true, cond_true, cond_false, Bool.not_true, Bool.not_false, Bool.not_eq_true', Bool.not_eq_false', Bool.and_eq_true, Bool.and_eq_false_imp, Bool.or_eq_true, Bool.or_eq_false_iff, decide_eq_true_eq, decide_eq_false_iff_not, Bool.false_eq_true, reduceCtorEq, Int.not_le, Int.not_lt, Decidable.not_not] at h)))
    | (with_reducible refine z_r ?_ ?_)
    | (with_reducible refine z_wg ?_ ?_)
    | (with_reducible refine z_w ?_ ?_)
    | ((with_reducible apply sh_nil); (intro _))
    | ((with_reducible apply sh_int); (intro _))
    | ((with_reducible apply sh_bool); (intro _))
    | ((with_reducible apply sh_sl); (intro _))
    | ((with_reducible refine z_xf ?zc ?zx ?_); (case zc => decide +kernel); (case zx => decide +kernel))
    | ((with_reducible refine z_o ?zo ?_); (case zo => decide +kernel))
    | ((with_reducible refine z_x ?zx ?_); (case zx => decide +kernel))
    | fail)
  refine z_dp [[0, 2, 5, 1, 3, 4, 6, 7, 8, 9], [0, 2, 5, 1, 3, 6, 4, 7, 8, 9], [0, 2, 5, 1, 4, 3, 6, 7, 8, 9], [0, 2, 5, 1, 4, 6, 3, 7, 8, 9], [0, 2, 5, 1, 4, 6, 7, 3, 8, 9], [0, 2, 5, 1, 6, 3, 4, 7, 8, 9], [0, 2, 5, 1, 6, 4, 3, 7, 8, 9], [0, 2, 5, 1, 6, 4, 7, 3, 8, 9], [0, 2, 5, 3, 1, 4, 6, 7, 8, 9], [0, 2, 5, 3, 1, 6, 4, 7, 8, 9], [0, 2, 5, 3, 4, 1, 6, 7, 8, 9], [0, 2, 5, 3, 4, 6, 1, 7, 8, 9], [0, 2, 5, 3, 4, 6, 7, 1, 8, 9], [0, 2, 5, 3, 6, 1, 4, 7, 8, 9], [0, 2, 5, 3, 6, 4, 1, 7, 8, 9], [0, 2, 5, 3, 6, 4, 7, 1, 8, 9], [0, 2, 5, 4, 1, 3, 6, 7, 8, 9], [0, 2, 5, 4, 1, 6, 3, 7, 8, 9], [0, 2, 5, 4, 1, 6, 7, 3, 8, 9], [0, 2, 5, 4, 3, 1, 6, 7, 8, 9], [0, 2, 5, 4, 3, 6, 1, 7, 8, 9], [0, 2, 5, 4, 3, 6, 7, 1, 8, 9], [0, 2, 5, 4, 6, 1, 3, 7, 8, 9], [0, 2, 5, 4, 6, 1, 7, 3, 8, 9], [0, 2, 5, 4, 6, 3, 1, 7, 8, 9], [0, 2, 5, 4, 6, 3, 7, 1, 8, 9], [0, 2, 5, 4, 6, 7, 1, 3, 8, 9], [0, 2, 5, 4, 6, 7, 3, 1, 8, 9], [0, 2, 5, 6, 1, 3, 4, 7, 8, 9], [0, 2, 5, 6, 1, 4, 3, 7, 8, 9], [0, 2, 5, 6, 1, 4, 7, 3, 8, 9], [0, 2, 5, 6, 3, 1, 4, 7, 8, 9], [0, 2, 5, 6, 3, 4, 1, 7, 8, 9], [0, 2, 5, 6, 3, 4, 7, 1, 8, 9], [0, 2, 5, 6, 4, 1, 3, 7, 8, 9], [0, 2, 5, 6, 4, 1, 7, 3, 8, 9], [0, 2, 5, 6, 4, 3, 1, 7, 8, 9], [0, 2, 5, 6, 4, 3, 7, 1, 8, 9], [0, 2, 5, 6, 4, 7, 1, 3, 8, 9], [0, 2, 5, 6, 4, 7, 3, 1, 8, 9]] (by decide +kernel) ⟨[(2, .one (.bx 2 0))], [(2, .box [.int .i64 w, .int .i64 g, .root 7]), (7, .row 82 dSpot (sp.map eSpot))]⟩ ?_ ?_
  · repeat' (first | exact allP_n | refine allP_c ?_ ?_)
    repeat' (first
    | ((with_reducible refine z_run ?_); (conv => whnf))
    | (with_reducible apply z_t)
    | (with_reducible apply z_f)
    | ((with_reducible apply z_b); ((intro h); (try simp only [beq_self_eq_true, eq_self, not_true_eq_false, not_false_eq_true, decide_true, cond_true, cond_false, Bool.not_true, Bool.not_false, Bool.not_eq_true', Bool.not_eq_false', Bool.and_eq_true, Bool.and_eq_false_imp, Bool.or_eq_true, Bool.or_eq_false_iff, decide_eq_true_eq, decide_eq_false_iff_not, Bool.false_eq_true, reduceCtorEq, Int.not_le, Int.not_lt, Decidable.not_not] at h)); rotate_left; ((intro h); (try simp only [beq_self_eq_true, eq_self, not_true_eq_false, not_false_eq_true, decide_true, cond_true, cond_false, Bool.not_true, Bool.not_false, Bool.not_eq_true', Bool.not_eq_false', Bool.and_eq_true, Bool.and_eq_false_imp, Bool.or_eq_true, Bool.or_eq_false_iff, decide_eq_true_eq, decide_eq_false_iff_not, Bool.false_eq_true, reduceCtorEq, Int.not_le, Int.not_lt, Decidable.not_not] at h)))
    | (with_reducible refine z_r ?_ ?_)
    | (with_reducible refine z_wg ?_ ?_)
    | (with_reducible refine z_w ?_ ?_)
    | ((with_reducible apply sh_nil); (intro _))
    | ((with_reducible apply sh_int); (intro _))
    | ((with_reducible apply sh_bool); (intro _))
    | ((with_reducible apply sh_sl); (intro _))
    | ((with_reducible refine z_xf ?zc ?zx ?_); (case zc => decide +kernel); (case zx => decide +kernel))
    | ((with_reducible refine z_o ?zo ?_); (case zo => decide +kernel))
    | ((with_reducible refine z_x ?zx ?_); (case zx => decide +kernel))
    | fail)
    all_goals (first | (refine z_sn ?_; simp only [List.length_map, fillTo_zero, Int.toNat_natCast, Option.isSome_some, and_self, fixB, Nat.reduceLeDiff, false_implies, true_implies, forall_const, St.le0, St.swaps, St.ren, mapV, renO, V.ren, Sc.ren, Ob.ren, swp, slsLe, obsLe, vLe, psLe, scLe, scsLe, obLe, Vq.look, Nat.reduceEqDiff, if_true, if_false, reduceCtorEq, ↓reduceIte, true_and, and_true] <;> (and_intros <;> first | rfl | omega | assumption)) | (simp only [List.length_map, List.length_nil]; omega))
  · repeat' (first
    | ((with_reducible refine z_run ?_); (conv => whnf))
    | (with_reducible apply z_t)
    | (with_reducible apply z_f)
    | ((with_reducible apply z_b); ((intro h); (try simp only [beq_self_eq_true, eq_self, not_true_eq_false, not_false_eq_true, decide_true, cond_true, cond_false, Bool.not_true, Bool.not_false, Bool.not_eq_true', Bool.not_eq_false', Bool.and_eq_true, Bool.and_eq_false_imp, Bool.or_eq_true, Bool.or_eq_false_iff, decide_eq_true_eq, decide_eq_false_iff_not, Bool.false_eq_true, reduceCtorEq, Int.not_le, Int.not_lt, Decidable.not_not] at h)); rotate_left; ((intro h); (try simp only [beq_self_eq_true, eq_self, not_true_eq_false, not_false_eq_true, decide_true, cond_true, cond_false, Bool.not_true, Bool.not_false, Bool.not_eq_true', Bool.not_eq_false', Bool.and_eq_true, Bool.and_eq_false_imp, Bool.or_eq_true, Bool.or_eq_false_iff, decide_eq_true_eq, decide_eq_false_iff_not, Bool.false_eq_true, reduceCtorEq, Int.not_le, Int.not_lt, Decidable.not_not] at h)))
    | (with_reducible refine z_r ?_ ?_)
    | (with_reducible refine z_wg ?_ ?_)
    | (with_reducible refine z_w ?_ ?_)
    | ((with_reducible apply sh_nil); (intro _))
    | ((with_reducible apply sh_int); (intro _))
    | ((with_reducible apply sh_bool); (intro _))
    | ((with_reducible apply sh_sl); (intro _))
    | ((with_reducible refine z_xf ?zc ?zx ?_); (case zc => decide +kernel); (case zx => decide +kernel))
    | ((with_reducible refine z_o ?zo ?_); (case zo => decide +kernel))
    | ((with_reducible refine z_x ?zx ?_); (case zx => decide +kernel))
    | fail)
    refine z_e rfl ?_; simp only [fin, finP, finM, ids, nodupB, tupP, tupM, memN, List.length_cons, List.length_nil, List.nil_append, List.append_nil, List.cons_append, Nat.zero_add, Nat.reduceAdd, ne_eq, not_false_eq_true, eq_self, ev, Vq.look, List.map_cons, List.map_nil, and_true, true_and, Nat.reduceEqDiff, if_true, if_false, reduceCtorEq, ↓reduceIte] <;> (and_intros <;> rfl)
theorem qCopy_fn (w g : Int) (sp : List TSpot) (hl : sp.length ≤ 1048576) : FnC Try.prog 67 [aQ w g sp] (.agg (rQ w g sp)) := by
  refine fn_z (ty := ty) (ts := [.cell 2 32 3]) [0, 1, 2, 2] mixed ty_ok Try.func67 (by kernel_rfl) rfl (by kernel_rfl) (by kernel_rfl) rfl (.inl rfl) (Nat.le_of_ble_eq_true rfl) (by simp only [entry, entryV, C.toS, Nat.zero_add, Nat.reduceAdd, List.map_cons, List.map_nil]; exact rfl) ?_
  repeat' (first
    | ((with_reducible refine z_run ?_); (conv => whnf))
    | (with_reducible apply z_t)
    | (with_reducible apply z_f)
    | ((with_reducible apply z_b); ((intro h); (try simp only [beq_self_eq_true, eq_self, not_true_eq_false, not_false_eq_true, decide_true, cond_true, cond_false, Bool.not_true, Bool.not_false, Bool.not_eq_true', Bool.not_eq_false', Bool.and_eq_true, Bool.and_eq_false_imp, Bool.or_eq_true, Bool.or_eq_false_iff, decide_eq_true_eq, decide_eq_false_iff_not, Bool.false_eq_true, reduceCtorEq, Int.not_le, Int.not_lt, Decidable.not_not] at h)); rotate_left; ((intro h); (try simp only [beq_self_eq_true, eq_self, not_true_eq_false, not_false_eq_true, decide_true, cond_true, cond_false, Bool.not_true, Bool.not_false, Bool.not_eq_true', Bool.not_eq_false', Bool.and_eq_true, Bool.and_eq_false_imp, Bool.or_eq_true, Bool.or_eq_false_iff, decide_eq_true_eq, decide_eq_false_iff_not, Bool.false_eq_true, reduceCtorEq, Int.not_le, Int.not_lt, Decidable.not_not] at h)))
    | (with_reducible refine z_r ?_ ?_)
    | (with_reducible refine z_wg ?_ ?_)
    | (with_reducible refine z_w ?_ ?_)
    | ((with_reducible apply sh_nil); (intro _))
    | ((with_reducible apply sh_int); (intro _))
    | ((with_reducible apply sh_bool); (intro _))
    | ((with_reducible apply sh_sl); (intro _))
    | ((with_reducible refine z_xf ?zc ?zx ?_); (case zc => decide +kernel); (case zx => decide +kernel))
    | ((with_reducible refine z_o ?zo ?_); (case zo => decide +kernel))
    | ((with_reducible refine z_x ?zx ?_); (case zx => decide +kernel))
    | fail)
  refine z_dp [[0, 2, 5, 1, 3, 4, 6, 7, 8, 9], [0, 2, 5, 1, 3, 6, 4, 7, 8, 9], [0, 2, 5, 1, 4, 3, 6, 7, 8, 9], [0, 2, 5, 1, 4, 6, 3, 7, 8, 9], [0, 2, 5, 1, 4, 6, 7, 3, 8, 9], [0, 2, 5, 1, 6, 3, 4, 7, 8, 9], [0, 2, 5, 1, 6, 4, 3, 7, 8, 9], [0, 2, 5, 1, 6, 4, 7, 3, 8, 9], [0, 2, 5, 3, 1, 4, 6, 7, 8, 9], [0, 2, 5, 3, 1, 6, 4, 7, 8, 9], [0, 2, 5, 3, 4, 1, 6, 7, 8, 9], [0, 2, 5, 3, 4, 6, 1, 7, 8, 9], [0, 2, 5, 3, 4, 6, 7, 1, 8, 9], [0, 2, 5, 3, 6, 1, 4, 7, 8, 9], [0, 2, 5, 3, 6, 4, 1, 7, 8, 9], [0, 2, 5, 3, 6, 4, 7, 1, 8, 9], [0, 2, 5, 4, 1, 3, 6, 7, 8, 9], [0, 2, 5, 4, 1, 6, 3, 7, 8, 9], [0, 2, 5, 4, 1, 6, 7, 3, 8, 9], [0, 2, 5, 4, 3, 1, 6, 7, 8, 9], [0, 2, 5, 4, 3, 6, 1, 7, 8, 9], [0, 2, 5, 4, 3, 6, 7, 1, 8, 9], [0, 2, 5, 4, 6, 1, 3, 7, 8, 9], [0, 2, 5, 4, 6, 1, 7, 3, 8, 9], [0, 2, 5, 4, 6, 3, 1, 7, 8, 9], [0, 2, 5, 4, 6, 3, 7, 1, 8, 9], [0, 2, 5, 4, 6, 7, 1, 3, 8, 9], [0, 2, 5, 4, 6, 7, 3, 1, 8, 9], [0, 2, 5, 6, 1, 3, 4, 7, 8, 9], [0, 2, 5, 6, 1, 4, 3, 7, 8, 9], [0, 2, 5, 6, 1, 4, 7, 3, 8, 9], [0, 2, 5, 6, 3, 1, 4, 7, 8, 9], [0, 2, 5, 6, 3, 4, 1, 7, 8, 9], [0, 2, 5, 6, 3, 4, 7, 1, 8, 9], [0, 2, 5, 6, 4, 1, 3, 7, 8, 9], [0, 2, 5, 6, 4, 1, 7, 3, 8, 9], [0, 2, 5, 6, 4, 3, 1, 7, 8, 9], [0, 2, 5, 6, 4, 3, 7, 1, 8, 9], [0, 2, 5, 6, 4, 7, 1, 3, 8, 9], [0, 2, 5, 6, 4, 7, 3, 1, 8, 9]] (by decide +kernel) ⟨[(2, .one (.bx 2 0))], [(2, .box [.int .i64 w, .int .i64 g, .root 7]), (7, .row 82 dSpot (sp.map eSpot))]⟩ ?_ ?_
  · repeat' (first | exact allP_n | refine allP_c ?_ ?_)
    repeat' (first
    | ((with_reducible refine z_run ?_); (conv => whnf))
    | (with_reducible apply z_t)
    | (with_reducible apply z_f)
    | ((with_reducible apply z_b); ((intro h); (try simp only [beq_self_eq_true, eq_self, not_true_eq_false, not_false_eq_true, decide_true, cond_true, cond_false, Bool.not_true, Bool.not_false, Bool.not_eq_true', Bool.not_eq_false', Bool.and_eq_true, Bool.and_eq_false_imp, Bool.or_eq_true, Bool.or_eq_false_iff, decide_eq_true_eq, decide_eq_false_iff_not, Bool.false_eq_true, reduceCtorEq, Int.not_le, Int.not_lt, Decidable.not_not] at h)); rotate_left; ((intro h); (try simp only [beq_self_eq_true, eq_self, not_true_eq_false, not_false_eq_true, decide_true, cond_true, cond_false, Bool.not_true, Bool.not_false, Bool.not_eq_true', Bool.not_eq_false', Bool.and_eq_true, Bool.and_eq_false_imp, Bool.or_eq_true, Bool.or_eq_false_iff, decide_eq_true_eq, decide_eq_false_iff_not, Bool.false_eq_true, reduceCtorEq, Int.not_le, Int.not_lt, Decidable.not_not] at h)))
    | (with_reducible refine z_r ?_ ?_)
    | (with_reducible refine z_wg ?_ ?_)
    | (with_reducible refine z_w ?_ ?_)
    | ((with_reducible apply sh_nil); (intro _))
    | ((with_reducible apply sh_int); (intro _))
    | ((with_reducible apply sh_bool); (intro _))
    | ((with_reducible apply sh_sl); (intro _))
    | ((with_reducible refine z_xf ?zc ?zx ?_); (case zc => decide +kernel); (case zx => decide +kernel))
    | ((with_reducible refine z_o ?zo ?_); (case zo => decide +kernel))
    | ((with_reducible refine z_x ?zx ?_); (case zx => decide +kernel))
    | fail)
    all_goals (first | (refine z_sn ?_; simp only [List.length_map, fillTo_zero, Int.toNat_natCast, Option.isSome_some, and_self, fixB, Nat.reduceLeDiff, false_implies, true_implies, forall_const, St.le0, St.swaps, St.ren, mapV, renO, V.ren, Sc.ren, Ob.ren, swp, slsLe, obsLe, vLe, psLe, scLe, scsLe, obLe, Vq.look, Nat.reduceEqDiff, if_true, if_false, reduceCtorEq, ↓reduceIte, true_and, and_true] <;> (and_intros <;> first | rfl | omega | assumption)) | (simp only [List.length_map, List.length_nil]; omega))
  · repeat' (first
    | ((with_reducible refine z_run ?_); (conv => whnf))
    | (with_reducible apply z_t)
    | (with_reducible apply z_f)
    | ((with_reducible apply z_b); ((intro h); (try simp only [beq_self_eq_true, eq_self, not_true_eq_false, not_false_eq_true, decide_true, cond_true, cond_false, Bool.not_true, Bool.not_false, Bool.not_eq_true', Bool.not_eq_false', Bool.and_eq_true, Bool.and_eq_false_imp, Bool.or_eq_true, Bool.or_eq_false_iff, decide_eq_true_eq, decide_eq_false_iff_not, Bool.false_eq_true, reduceCtorEq, Int.not_le, Int.not_lt, Decidable.not_not] at h)); rotate_left; ((intro h); (try simp only [beq_self_eq_true, eq_self, not_true_eq_false, not_false_eq_true, decide_true, cond_true, cond_false, Bool.not_true, Bool.not_false, Bool.not_eq_true', Bool.not_eq_false', Bool.and_eq_true, Bool.and_eq_false_imp, Bool.or_eq_true, Bool.or_eq_false_iff, decide_eq_true_eq, decide_eq_false_iff_not, Bool.false_eq_true, reduceCtorEq, Int.not_le, Int.not_lt, Decidable.not_not] at h)))
    | (with_reducible refine z_r ?_ ?_)
    | (with_reducible refine z_wg ?_ ?_)
    | (with_reducible refine z_w ?_ ?_)
    | ((with_reducible apply sh_nil); (intro _))
    | ((with_reducible apply sh_int); (intro _))
    | ((with_reducible apply sh_bool); (intro _))
    | ((with_reducible apply sh_sl); (intro _))
    | ((with_reducible refine z_xf ?zc ?zx ?_); (case zc => decide +kernel); (case zx => decide +kernel))
    | ((with_reducible refine z_o ?zo ?_); (case zo => decide +kernel))
    | ((with_reducible refine z_x ?zx ?_); (case zx => decide +kernel))
    | fail)
    refine z_e rfl ?_; simp only [fin, finP, finM, ids, nodupB, tupP, tupM, memN, List.length_cons, List.length_nil, List.nil_append, List.append_nil, List.cons_append, Nat.zero_add, Nat.reduceAdd, ne_eq, not_false_eq_true, eq_self, ev, Vq.look, List.map_cons, List.map_nil, and_true, true_and, Nat.reduceEqDiff, if_true, if_false, reduceCtorEq, ↓reduceIte] <;> (and_intros <;> rfl)
theorem qOk_nat {w g : Int} {sp : List TSpot} {bs : List TBlk} (h : qOk w g sp bs) : ∃ W G : Nat, w = W ∧ g = G := by
  obtain ⟨⟨h1, h2, _⟩, _⟩ := h
  exact ⟨w.toNat, g.toNat, by omega, by omega⟩
abbrev rNo (w g : Int) (sp : List TSpot) : Rs := .tup [(true, rQ w g sp), (false, [.bool false])]
theorem markQuilt_fn (w g : Int) (sp : List TSpot) (k : Int) (hl : sp.length ≤ 2097152) (hk : 0 ≤ k ∧ k ≤ 1073741824) : FnMC Try.prog 28 [(true, [.val (.int .i64 w), .val (.int .i64 g), .ref 0]), (false, [.val (.int .i64 k)])] [.row 82 dSpot (sp.map eSpot)] [.row 82 dSpot ((mkL mkSpot 2 k sp.length).map eSpot)] (.one (.int .i64 (k + 2 * sp.length))) := by
  refine fn_zm (ty := ty) (ts := [.tmp 4]) [0, 1, 2, 4] mixed ty_ok Try.func28 (by kernel_rfl) rfl (by kernel_rfl) (by kernel_rfl) rfl (.inl rfl) (Nat.le_of_ble_eq_true rfl) (by simp only [likes, Mo.like, and_self]) rfl (by simp only [entryM, maV, Ma.sc, C.toS, Nat.zero_add, Nat.reduceAdd, List.map_cons, List.map_nil]; exact rfl) (by simp only [numb, Mo.ob, C.toS, List.map_cons, List.map_nil]; exact rfl) ?_
  repeat' (first
    | ((with_reducible refine z_run ?_); (conv => whnf))
    | (with_reducible apply z_t)
    | (with_reducible apply z_f)
    | ((with_reducible apply z_b); ((intro h); (try simp only [beq_self_eq_true, eq_self, not_true_eq_false, not_false_eq_true, decide_true, cond_true, cond_false, Bool.not_true, Bool.not_false, Bool.not_eq_true', Bool.not_eq_false', Bool.and_eq_true, Bool.and_eq_false_imp, Bool.or_eq_true, Bool.or_eq_false_iff, decide_eq_true_eq, decide_eq_false_iff_not, Bool.false_eq_true, reduceCtorEq, Int.not_le, Int.not_lt, Decidable.not_not] at h)); rotate_left; ((intro h); (try simp only [beq_self_eq_true, eq_self, not_true_eq_false, not_false_eq_true, decide_true, cond_true, cond_false, Bool.not_true, Bool.not_false, Bool.not_eq_true', Bool.not_eq_false', Bool.and_eq_true, Bool.and_eq_false_imp, Bool.or_eq_true, Bool.or_eq_false_iff, decide_eq_true_eq, decide_eq_false_iff_not, Bool.false_eq_true, reduceCtorEq, Int.not_le, Int.not_lt, Decidable.not_not] at h)))
    | (with_reducible refine z_r ?_ ?_)
    | (with_reducible refine z_wg ?_ ?_)
    | (with_reducible refine z_w ?_ ?_)
    | ((with_reducible apply sh_nil); (intro _))
    | ((with_reducible apply sh_int); (intro _))
    | ((with_reducible apply sh_bool); (intro _))
    | ((with_reducible apply sh_sl); (intro _))
    | ((with_reducible refine z_xf ?zc ?zx ?_); (case zc => decide +kernel); (case zx => decide +kernel))
    | (refine z_m [_] (markSpotS_fn _ _ hl (by omega)) rfl rfl ⟨rfl, trivial⟩ rfl ?_)
    | ((with_reducible refine z_o ?zo ?_); (case zo => decide +kernel))
    | ((with_reducible refine z_x ?zx ?_); (case zx => decide +kernel))
    | fail)
  all_goals (first | omega | (refine z_em rfl rfl ?_ ?_ <;> simp only [fin, finP, finM, finO, Mo.ob, ids, nodupB, tupP, tupM, memN, ev, Vq.look, List.map_cons, List.map_nil, and_true, true_and, Nat.reduceEqDiff, if_true, if_false, reduceCtorEq, ↓reduceIte]; done) | (refine z_em rfl rfl ?_ ?_ <;> simp only [fin, finP, finM, finO, Mo.ob, ids, nodupB, tupP, tupM, memN, ev, Vq.look, List.map_cons, List.map_nil, and_true, true_and, Nat.reduceEqDiff, if_true, if_false, reduceCtorEq, ↓reduceIte] <;> and_intros <;> first | rfl | trivial) | (trace_state; fail))
theorem heldQuilt_fn (w g : Int) (len : Nat) (k : Int) (hl : len ≤ 2097152) (hk : 0 ≤ k ∧ k ≤ 1073741824) : FnC Try.prog 30 [aQ w g (mkL mkSpot 2 k len), (false, [.int .i64 k])] (.one (.int .i64 (k + 2 * len))) := by
  refine fn_z (ty := ty) (ts := [.tmp 4]) [0, 1, 2, 4, 10] mixed ty_ok Try.func30 (by kernel_rfl) rfl (by kernel_rfl) (by kernel_rfl) rfl (.inl rfl) (Nat.le_of_ble_eq_true rfl) (by simp only [entry, entryV, C.toS, Nat.zero_add, Nat.reduceAdd, List.map_cons, List.map_nil]; exact rfl) ?_
  repeat' (first
    | ((with_reducible refine z_run ?_); (conv => whnf))
    | (with_reducible apply z_t)
    | (with_reducible apply z_f)
    | ((with_reducible apply z_b); ((intro h); (try simp only [beq_self_eq_true, eq_self, not_true_eq_false, not_false_eq_true, decide_true, cond_true, cond_false, Bool.not_true, Bool.not_false, Bool.not_eq_true', Bool.not_eq_false', Bool.and_eq_true, Bool.and_eq_false_imp, Bool.or_eq_true, Bool.or_eq_false_iff, decide_eq_true_eq, decide_eq_false_iff_not, Bool.false_eq_true, reduceCtorEq, Int.not_le, Int.not_lt, Decidable.not_not] at h)); rotate_left; ((intro h); (try simp only [beq_self_eq_true, eq_self, not_true_eq_false, not_false_eq_true, decide_true, cond_true, cond_false, Bool.not_true, Bool.not_false, Bool.not_eq_true', Bool.not_eq_false', Bool.and_eq_true, Bool.and_eq_false_imp, Bool.or_eq_true, Bool.or_eq_false_iff, decide_eq_true_eq, decide_eq_false_iff_not, Bool.false_eq_true, reduceCtorEq, Int.not_le, Int.not_lt, Decidable.not_not] at h)))
    | (with_reducible refine z_r ?_ ?_)
    | (with_reducible refine z_wg ?_ ?_)
    | (with_reducible refine z_w ?_ ?_)
    | ((with_reducible apply sh_nil); (intro _))
    | ((with_reducible apply sh_int); (intro _))
    | ((with_reducible apply sh_bool); (intro _))
    | ((with_reducible apply sh_sl); (intro _))
    | ((with_reducible refine z_xf ?zc ?zx ?_); (case zc => decide +kernel); (case zx => decide +kernel))
    | (with_reducible refine z_k (heldSpotS_fn _ _ hl (by omega)) ?_)
    | ((with_reducible refine z_o ?zo ?_); (case zo => decide +kernel))
    | ((with_reducible refine z_x ?zx ?_); (case zx => decide +kernel))
    | fail)
  all_goals (first | omega | (refine z_e rfl ?_; simp only [fin, finP, finM, ids, nodupB, tupP, tupM, memN, List.length_cons, List.length_nil, List.nil_append, List.append_nil, List.cons_append, Nat.zero_add, Nat.reduceAdd, ne_eq, not_false_eq_true, eq_self, ev, Vq.look, List.map_cons, List.map_nil, and_true, true_and, Nat.reduceEqDiff, if_true, if_false, reduceCtorEq, ↓reduceIte]; done) | (refine z_e rfl ?_; simp only [fin, finP, finM, ids, nodupB, tupP, tupM, memN, List.length_cons, List.length_nil, List.nil_append, List.append_nil, List.cons_append, Nat.zero_add, Nat.reduceAdd, ne_eq, not_false_eq_true, eq_self, ev, Vq.look, List.map_cons, List.map_nil, and_true, true_and, Nat.reduceEqDiff, if_true, if_false, reduceCtorEq, ↓reduceIte]; and_intros <;> rfl) | (trace_state; fail))
end Go.Proofs.Ytcibheinilkcoaa
