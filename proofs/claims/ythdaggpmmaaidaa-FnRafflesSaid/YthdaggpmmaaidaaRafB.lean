/- Contracts of the raffle's functions. No conditions. -/
import Derived.Test.YthdaggpmmaaidaaCvTicket
import Derived.Test.YthdaggpmmaaidaaInts
namespace Go.Proofs.Ythdaggpmmaaidaa
open Go.Vq
set_option linter.unusedSimpArgs false
abbrev Tk := TTicket
/-- the ticket at i is one -/
def TkAt (l : List Tk) (i : Nat) : Prop := (0 ≤ (l.getD i default).1 ∧ (l.getD i default).1 ≤ 9999) ∧ (1 ≤ (l.getD i default).2 ∧ (l.getD i default).2 ≤ 999) ∧ (0 < i → (l.getD (i - 1) default).1 < (l.getD i default).1)
instance (l : List Tk) (i : Nat) : Decidable (TkAt l i) := by unfold TkAt; infer_instance
def TkOk (l : List Tk) : Prop := l.length ≤ 60 ∧ ∀ i, i < l.length → TkAt l i
instance (l : List Tk) : Decidable (TkOk l) := by unfold TkOk; infer_instance
set_option maxHeartbeats 1000000 in
theorem implTicketsOk (l : List Tk) (hl : l.length ≤ 1048576) : FnC Try.prog 14 [(false, [.sq dTicket (l.map eTicket)])] (.one (.bool (decide (TkOk l)))) := by
  refine fn_z (ty := ty) (ts := [.tmp 2]) [0, 2, 3, 4, 5, 6, 7, 8, 36] mixed ty_ok Try.func14 (by kernel_rfl) rfl (by kernel_rfl) (by kernel_rfl) rfl (.inl rfl) (Nat.le_of_ble_eq_true rfl) (by simp only [entry, entryV, C.toS, Nat.zero_add, Nat.reduceAdd, List.map_cons, List.map_nil]; exact rfl) ?_
  repeat' (first
    | ((with_reducible refine z_run ?_); (conv => whnf))
    | (with_reducible apply z_t)
    | (with_reducible apply z_f)
    | ((with_reducible apply z_b); ((intro h); (try simp only [beq_self_eq_true, eq_self, not_true_eq_false, not_false_eq_true, decide_true, cond_true, cond_false, Bool.not_true, Bool.not_false, Bool.not_eq_true', Bool.not_eq_false', Bool.and_eq_true, Bool.and_eq_false_imp, Bool.or_eq_true, Bool.or_eq_false_iff, decide_eq_true_eq, decide_eq_false_iff_not, Bool.false_eq_true, reduceCtorEq, Int.not_le, Int.not_lt, Decidable.not_not] at h)); rotate_left; ((intro h); (try simp only [beq_self_eq_true, eq_self, not_true_eq_false, not_false_eq_true, decide_true, cond_true, cond_false, Bool.not_true, Bool.not_false, Bool.not_eq_true', Bool.not_eq_false', Bool.and_eq_true, Bool.and_eq_false_imp, Bool.or_eq_true, Bool.or_eq_false_iff, decide_eq_true_eq, decide_eq_false_iff_not, Bool.false_eq_true, reduceCtorEq, Int.not_le, Int.not_lt, Decidable.not_not] at h)))
    | (with_reducible refine z_r ?_ ?_)
    | (with_reducible refine z_wg ?_ ?_)
    | (with_reducible refine z_w ?_ ?_)
    | ((with_reducible apply sh_nil); (intro _))
    | ((with_reducible apply sh_int); (intro _))
    | ((with_reducible apply sh_bool); (intro _))
    | ((with_reducible apply sh_sl); (intro _))
    | ((with_reducible refine z_xf ?zc ?zx ?_); (case zc => decide +kernel); (case zx => decide +kernel))
    | ((with_reducible refine z_o ?zo ?_); (case zo => decide +kernel))
    | ((with_reducible refine z_x ?zx ?_); (case zx => decide +kernel))
    | ((refine z_mf (d := ?zD) (f := ?zF) (caps := ?zA) (τ := ?zT) (ps := ?zP) (cs := ?zC) ?zd ?ze ?zt ?za ?zp ?zl ?_); (case zd => exact rfl); (case ze => exact rfl); (case zt => (simp only [frzAll, frz, frzL, frzV, frzS, drp, unSs, unS, unsing, ev, Vq.look, List.map_cons, List.map_nil, List.drop_zero, List.drop_succ_cons, Nat.reduceAdd, Nat.zero_add, Option.map_some, Nat.reduceEqDiff, if_true, if_false, reduceCtorEq, ↓reduceIte]; exact rfl)); (case za => exact rfl); (case zp => exact rfl); (case zl => (simp only [unSs, unS, unsing, List.drop_zero, List.drop_succ_cons, Nat.reduceAdd, Nat.zero_add, Option.map_some, List.length_map, fillTo_zero, Int.toNat_natCast, Option.isSome_some, and_self, fixB, Nat.reduceLeDiff, false_implies, true_implies, forall_const, St.le0, St.swaps, St.ren, mapV, renO, V.ren, Sc.ren, Ob.ren, swp, slsLe, obsLe, vLe, scLe, scsLe, obLe, Vq.look, Nat.reduceEqDiff, if_true, if_false, reduceCtorEq, ↓reduceIte, true_and, and_true] <;> (and_intros <;> first | rfl | omega))))
    | fail)
  refine z_li (fun k => k ≤ l.length ∧ ∀ i, i < k → TkAt l i) (0 : Nat) (fun k => l.length - k) (fun k => ⟨[(0, .one (.ro dTicket (l.map eTicket))), (5, .one (.ro dTicket (l.map eTicket))), (6, .one (.int .i64 l.length)), (7, .one (.int .i64 k))], []⟩) ⟨by omega, by intro i hi; omega⟩ ?_ ?_
  · simp only [List.length_map, fillTo_zero, Int.toNat_natCast, Option.isSome_some, and_self, fixB, Nat.reduceLeDiff, false_implies, true_implies, forall_const, St.le0, St.swaps, St.ren, mapV, renO, V.ren, Sc.ren, Ob.ren, swp, slsLe, obsLe, vLe, scLe, scsLe, obLe, Vq.look, Nat.reduceEqDiff, if_true, if_false, reduceCtorEq, ↓reduceIte, true_and, and_true, List.length_map]; rfl
  · intro k hk
    repeat' (first
    | ((with_reducible refine z_run ?_); (conv => whnf))
    | (with_reducible apply z_t)
    | (with_reducible apply z_f)
    | ((with_reducible apply z_b); ((intro h); (try simp only [beq_self_eq_true, eq_self, not_true_eq_false, not_false_eq_true, decide_true, cond_true, cond_false, Bool.not_true, Bool.not_false, Bool.not_eq_true', Bool.not_eq_false', Bool.and_eq_true, Bool.and_eq_false_imp, Bool.or_eq_true, Bool.or_eq_false_iff, decide_eq_true_eq, decide_eq_false_iff_not, Bool.false_eq_true, reduceCtorEq, Int.not_le, Int.not_lt, Decidable.not_not] at h)); rotate_left; ((intro h); (try simp only [beq_self_eq_true, eq_self, not_true_eq_false, not_false_eq_true, decide_true, cond_true, cond_false, Bool.not_true, Bool.not_false, Bool.not_eq_true', Bool.not_eq_false', Bool.and_eq_true, Bool.and_eq_false_imp, Bool.or_eq_true, Bool.or_eq_false_iff, decide_eq_true_eq, decide_eq_false_iff_not, Bool.false_eq_true, reduceCtorEq, Int.not_le, Int.not_lt, Decidable.not_not] at h)))
    | (with_reducible refine z_r ?_ ?_)
    | (with_reducible refine z_wg ?_ ?_)
    | (with_reducible refine z_w ?_ ?_)
    | ((with_reducible apply sh_nil); (intro _))
    | ((with_reducible apply sh_int); (intro _))
    | ((with_reducible apply sh_bool); (intro _))
    | ((with_reducible apply sh_sl); (intro _))
    | ((with_reducible refine z_xf ?zc ?zx ?_); (case zc => decide +kernel); (case zx => decide +kernel))
    | (with_reducible refine z_k (within_fn _ _ _) ?_)
    | ((with_reducible refine z_o ?zo ?_); (case zo => decide +kernel))
    | ((with_reducible refine z_x ?zx ?_); (case zx => decide +kernel))
    | ((refine z_mf (d := ?zD) (f := ?zF) (caps := ?zA) (τ := ?zT) (ps := ?zP) (cs := ?zC) ?zd ?ze ?zt ?za ?zp ?zl ?_); (case zd => exact rfl); (case ze => exact rfl); (case zt => (simp only [frzAll, frz, frzL, frzV, frzS, drp, unSs, unS, unsing, ev, Vq.look, List.map_cons, List.map_nil, List.drop_zero, List.drop_succ_cons, Nat.reduceAdd, Nat.zero_add, Option.map_some, Nat.reduceEqDiff, if_true, if_false, reduceCtorEq, ↓reduceIte]; exact rfl)); (case za => exact rfl); (case zp => exact rfl); (case zl => (simp only [unSs, unS, unsing, List.drop_zero, List.drop_succ_cons, Nat.reduceAdd, Nat.zero_add, Option.map_some, List.length_map, fillTo_zero, Int.toNat_natCast, Option.isSome_some, and_self, fixB, Nat.reduceLeDiff, false_implies, true_implies, forall_const, St.le0, St.swaps, St.ren, mapV, renO, V.ren, Sc.ren, Ob.ren, swp, slsLe, obsLe, vLe, scLe, scsLe, obLe, Vq.look, Nat.reduceEqDiff, if_true, if_false, reduceCtorEq, ↓reduceIte, true_and, and_true] <;> (and_intros <;> first | rfl | omega))))
    | fail)
    all_goals ((try simp only [Int.toNat_natCast, tn1, tp1, List.length_map, eq_self, true_and, and_true] at *); (try simp (disch := omega) only [wr, Int.toNat_natCast, tn1, tp1, List.length_map, eq_self, true_and, and_true] at *))
    all_goals (first
      | omega
      | (refine z_n (k + 1) ⟨⟨by omega, all_succ hk.2 (by unfold TkAt; omega)⟩, by omega⟩ ?_; simp only [List.length_map, fillTo_zero, Int.toNat_natCast, Option.isSome_some, and_self, fixB, Nat.reduceLeDiff, false_implies, true_implies, forall_const, St.le0, St.swaps, St.ren, mapV, renO, V.ren, Sc.ren, Ob.ren, swp, slsLe, obsLe, vLe, scLe, scsLe, obLe, Vq.look, Nat.reduceEqDiff, if_true, if_false, reduceCtorEq, ↓reduceIte, true_and, and_true]; omega)
      | (refine z_e rfl ?_; simp only [fin, finP, finM, ids, nodupB, tupP, tupM, memN, List.length_cons, List.length_nil, List.nil_append, List.append_nil, List.cons_append, Nat.zero_add, Nat.reduceAdd, ne_eq, not_false_eq_true, eq_self, ev, Vq.look, List.map_cons, List.map_nil, and_true, true_and, Nat.reduceEqDiff, if_true, if_false, reduceCtorEq, ↓reduceIte]; refine (decide_eq_false fun hq => ?_).symm; have hq := hq.2 k (by omega); unfold TkAt at hq; omega)
      | (refine z_e rfl ?_; simp only [fin, finP, finM, ids, nodupB, tupP, tupM, memN, List.length_cons, List.length_nil, List.nil_append, List.append_nil, List.cons_append, Nat.zero_add, Nat.reduceAdd, ne_eq, not_false_eq_true, eq_self, ev, Vq.look, List.map_cons, List.map_nil, and_true, true_and, Nat.reduceEqDiff, if_true, if_false, reduceCtorEq, ↓reduceIte]; exact decide_eq_decide.2 ⟨fun _ => ⟨by omega, fun i hi => hk.2 i (by omega)⟩, fun hq => by have := hq.1; omega⟩))
set_option maxHeartbeats 1000000 in
theorem specTicketsOk (l : List Tk) (hl : l.length ≤ 1048576) : FnC Try.prog 12 [(false, [.sq dTicket (l.map eTicket)])] (.one (.bool (decide (TkOk l)))) := by
  refine fn_z (ty := ty) (ts := [.tmp 2]) [0, 2, 3, 7, 43] mixed ty_ok Try.func12 (by kernel_rfl) rfl (by kernel_rfl) (by kernel_rfl) rfl (.inl rfl) (Nat.le_of_ble_eq_true rfl) (by simp only [entry, entryV, C.toS, Nat.zero_add, Nat.reduceAdd, List.map_cons, List.map_nil]; exact rfl) ?_
  repeat' (first
    | ((with_reducible refine z_run ?_); (conv => whnf))
    | (with_reducible apply z_t)
    | (with_reducible apply z_f)
    | ((with_reducible apply z_b); ((intro h); (try simp only [beq_self_eq_true, eq_self, not_true_eq_false, not_false_eq_true, decide_true, cond_true, cond_false, Bool.not_true, Bool.not_false, Bool.not_eq_true', Bool.not_eq_false', Bool.and_eq_true, Bool.and_eq_false_imp, Bool.or_eq_true, Bool.or_eq_false_iff, decide_eq_true_eq, decide_eq_false_iff_not, Bool.false_eq_true, reduceCtorEq, Int.not_le, Int.not_lt, Decidable.not_not] at h)); rotate_left; ((intro h); (try simp only [beq_self_eq_true, eq_self, not_true_eq_false, not_false_eq_true, decide_true, cond_true, cond_false, Bool.not_true, Bool.not_false, Bool.not_eq_true', Bool.not_eq_false', Bool.and_eq_true, Bool.and_eq_false_imp, Bool.or_eq_true, Bool.or_eq_false_iff, decide_eq_true_eq, decide_eq_false_iff_not, Bool.false_eq_true, reduceCtorEq, Int.not_le, Int.not_lt, Decidable.not_not] at h)))
    | (with_reducible refine z_r ?_ ?_)
    | (with_reducible refine z_wg ?_ ?_)
    | (with_reducible refine z_w ?_ ?_)
    | ((with_reducible apply sh_nil); (intro _))
    | ((with_reducible apply sh_int); (intro _))
    | ((with_reducible apply sh_bool); (intro _))
    | ((with_reducible apply sh_sl); (intro _))
    | ((with_reducible refine z_xf ?zc ?zx ?_); (case zc => decide +kernel); (case zx => decide +kernel))
    | ((with_reducible refine z_o ?zo ?_); (case zo => decide +kernel))
    | ((with_reducible refine z_x ?zx ?_); (case zx => decide +kernel))
    | ((refine z_mf (d := ?zD) (f := ?zF) (caps := ?zA) (τ := ?zT) (ps := ?zP) (cs := ?zC) ?zd ?ze ?zt ?za ?zp ?zl ?_); (case zd => exact rfl); (case ze => exact rfl); (case zt => (simp only [frzAll, frz, frzL, frzV, frzS, drp, unSs, unS, unsing, ev, Vq.look, List.map_cons, List.map_nil, List.drop_zero, List.drop_succ_cons, Nat.reduceAdd, Nat.zero_add, Option.map_some, Nat.reduceEqDiff, if_true, if_false, reduceCtorEq, ↓reduceIte]; exact rfl)); (case za => exact rfl); (case zp => exact rfl); (case zl => (simp only [unSs, unS, unsing, List.drop_zero, List.drop_succ_cons, Nat.reduceAdd, Nat.zero_add, Option.map_some, List.length_map, fillTo_zero, Int.toNat_natCast, Option.isSome_some, and_self, fixB, Nat.reduceLeDiff, false_implies, true_implies, forall_const, St.le0, St.swaps, St.ren, mapV, renO, V.ren, Sc.ren, Ob.ren, swp, slsLe, obsLe, vLe, scLe, scsLe, obLe, Vq.look, Nat.reduceEqDiff, if_true, if_false, reduceCtorEq, ↓reduceIte, true_and, and_true] <;> (and_intros <;> first | rfl | omega))))
    | fail)
  refine z_li (fun k => k ≤ l.length ∧ ∀ i, i < k → TkAt l i) (0 : Nat) (fun k => l.length - k) (fun k => ⟨[(0, .one (.ro dTicket (l.map eTicket))), (3, .one (.int .i64 k))], []⟩) ⟨by omega, by intro i hi; omega⟩ ?_ ?_
  · simp only [List.length_map, fillTo_zero, Int.toNat_natCast, Option.isSome_some, and_self, fixB, Nat.reduceLeDiff, false_implies, true_implies, forall_const, St.le0, St.swaps, St.ren, mapV, renO, V.ren, Sc.ren, Ob.ren, swp, slsLe, obsLe, vLe, scLe, scsLe, obLe, Vq.look, Nat.reduceEqDiff, if_true, if_false, reduceCtorEq, ↓reduceIte, true_and, and_true, List.length_map]; rfl
  · intro k hk
    repeat' (first
    | ((with_reducible refine z_run ?_); (conv => whnf))
    | (with_reducible apply z_t)
    | (with_reducible apply z_f)
    | ((with_reducible apply z_b); ((intro h); (try simp only [beq_self_eq_true, eq_self, not_true_eq_false, not_false_eq_true, decide_true, cond_true, cond_false, Bool.not_true, Bool.not_false, Bool.not_eq_true', Bool.not_eq_false', Bool.and_eq_true, Bool.and_eq_false_imp, Bool.or_eq_true, Bool.or_eq_false_iff, decide_eq_true_eq, decide_eq_false_iff_not, Bool.false_eq_true, reduceCtorEq, Int.not_le, Int.not_lt, Decidable.not_not] at h)); rotate_left; ((intro h); (try simp only [beq_self_eq_true, eq_self, not_true_eq_false, not_false_eq_true, decide_true, cond_true, cond_false, Bool.not_true, Bool.not_false, Bool.not_eq_true', Bool.not_eq_false', Bool.and_eq_true, Bool.and_eq_false_imp, Bool.or_eq_true, Bool.or_eq_false_iff, decide_eq_true_eq, decide_eq_false_iff_not, Bool.false_eq_true, reduceCtorEq, Int.not_le, Int.not_lt, Decidable.not_not] at h)))
    | (with_reducible refine z_r ?_ ?_)
    | (with_reducible refine z_wg ?_ ?_)
    | (with_reducible refine z_w ?_ ?_)
    | ((with_reducible apply sh_nil); (intro _))
    | ((with_reducible apply sh_int); (intro _))
    | ((with_reducible apply sh_bool); (intro _))
    | ((with_reducible apply sh_sl); (intro _))
    | ((with_reducible refine z_xf ?zc ?zx ?_); (case zc => decide +kernel); (case zx => decide +kernel))
    | (with_reducible refine z_k (in_fn _ _ _) ?_)
    | ((with_reducible refine z_o ?zo ?_); (case zo => decide +kernel))
    | ((with_reducible refine z_x ?zx ?_); (case zx => decide +kernel))
    | ((refine z_mf (d := ?zD) (f := ?zF) (caps := ?zA) (τ := ?zT) (ps := ?zP) (cs := ?zC) ?zd ?ze ?zt ?za ?zp ?zl ?_); (case zd => exact rfl); (case ze => exact rfl); (case zt => (simp only [frzAll, frz, frzL, frzV, frzS, drp, unSs, unS, unsing, ev, Vq.look, List.map_cons, List.map_nil, List.drop_zero, List.drop_succ_cons, Nat.reduceAdd, Nat.zero_add, Option.map_some, Nat.reduceEqDiff, if_true, if_false, reduceCtorEq, ↓reduceIte]; exact rfl)); (case za => exact rfl); (case zp => exact rfl); (case zl => (simp only [unSs, unS, unsing, List.drop_zero, List.drop_succ_cons, Nat.reduceAdd, Nat.zero_add, Option.map_some, List.length_map, fillTo_zero, Int.toNat_natCast, Option.isSome_some, and_self, fixB, Nat.reduceLeDiff, false_implies, true_implies, forall_const, St.le0, St.swaps, St.ren, mapV, renO, V.ren, Sc.ren, Ob.ren, swp, slsLe, obsLe, vLe, scLe, scsLe, obLe, Vq.look, Nat.reduceEqDiff, if_true, if_false, reduceCtorEq, ↓reduceIte, true_and, and_true] <;> (and_intros <;> first | rfl | omega))))
    | fail)
    all_goals ((try simp only [Int.toNat_natCast, tn1, tp1, List.length_map, eq_self, true_and, and_true] at *); (try simp (disch := omega) only [wr, Int.toNat_natCast, tn1, tp1, List.length_map, eq_self, true_and, and_true] at *))
    all_goals (first
      | omega
      | (refine z_n (k + 1) ⟨⟨by omega, all_succ hk.2 (by unfold TkAt; omega)⟩, by omega⟩ ?_; simp only [List.length_map, fillTo_zero, Int.toNat_natCast, Option.isSome_some, and_self, fixB, Nat.reduceLeDiff, false_implies, true_implies, forall_const, St.le0, St.swaps, St.ren, mapV, renO, V.ren, Sc.ren, Ob.ren, swp, slsLe, obsLe, vLe, scLe, scsLe, obLe, Vq.look, Nat.reduceEqDiff, if_true, if_false, reduceCtorEq, ↓reduceIte, true_and, and_true]; omega)
      | (refine z_e rfl ?_; simp only [fin, finP, finM, ids, nodupB, tupP, tupM, memN, List.length_cons, List.length_nil, List.nil_append, List.append_nil, List.cons_append, Nat.zero_add, Nat.reduceAdd, ne_eq, not_false_eq_true, eq_self, ev, Vq.look, List.map_cons, List.map_nil, and_true, true_and, Nat.reduceEqDiff, if_true, if_false, reduceCtorEq, ↓reduceIte]; refine (decide_eq_false fun hq => ?_).symm; have hq := hq.2 k (by omega); unfold TkAt at hq; omega)
      | (refine z_e rfl ?_; simp only [fin, finP, finM, ids, nodupB, tupP, tupM, memN, List.length_cons, List.length_nil, List.nil_append, List.append_nil, List.cons_append, Nat.zero_add, Nat.reduceAdd, ne_eq, not_false_eq_true, eq_self, ev, Vq.look, List.map_cons, List.map_nil, and_true, true_and, Nat.reduceEqDiff, if_true, if_false, reduceCtorEq, ↓reduceIte]; exact decide_eq_decide.2 ⟨fun _ => ⟨by omega, fun i hi => hk.2 i (by omega)⟩, fun hq => by have := hq.1; omega⟩))

/-! ### the seed -/
def iter : Nat → Int → Int
  | 0, s => s
  | k + 1, s => (75 * iter k s + 74) % 65537
theorem iter_bd (k : Nat) (s : Int) (h : 0 ≤ s ∧ s ≤ 65536) : 0 ≤ iter k s ∧ iter k s ≤ 65536 := by
  cases k with
  | zero => exact h
  | succ k => simp only [iter]; omega
def seedR (s k : Int) : Int := if (0 ≤ s ∧ s ≤ 65536) ∧ 0 ≤ k ∧ k ≤ 1000 then iter k.toNat s else -1
theorem rem_pos {a : Int} (h : 0 ≤ a) (b : Int) : a.tmod b = a % b := Int.tmod_eq_emod_of_nonneg h
theorem implSeedAfter (s k : Int) : FnC Try.prog 10 [(false, [.int .i64 s]), (false, [.int .i64 k])] (.one (.int .i64 (seedR s k))) := by
  refine fn_z (ty := ty) (ts := [.tmp 4]) [0, 1, 4, 12, 13, 14, 15] mixed ty_ok Try.func10 (by kernel_rfl) rfl (by kernel_rfl) (by kernel_rfl) rfl (.inl rfl) (Nat.le_of_ble_eq_true rfl) (by simp only [entry, entryV, C.toS, Nat.zero_add, Nat.reduceAdd, List.map_cons, List.map_nil]; exact rfl) ?_
  repeat' (first
    | ((with_reducible refine z_run ?_); (conv => whnf))
    | (with_reducible apply z_t)
    | (with_reducible apply z_f)
    | ((with_reducible apply z_b); ((intro h); (try simp only [beq_self_eq_true, eq_self, not_true_eq_false, not_false_eq_true, decide_true, cond_true, cond_false, Bool.not_true, Bool.not_false, Bool.not_eq_true', Bool.not_eq_false', Bool.and_eq_true, Bool.and_eq_false_imp, Bool.or_eq_true, Bool.or_eq_false_iff, decide_eq_true_eq, decide_eq_false_iff_not, Bool.false_eq_true, reduceCtorEq, Int.not_le, Int.not_lt, Decidable.not_not] at h)); rotate_left; ((intro h); (try simp only [beq_self_eq_true, eq_self, not_true_eq_false, not_false_eq_true, decide_true, cond_true, cond_false, Bool.not_true, Bool.not_false, Bool.not_eq_true', Bool.not_eq_false', Bool.and_eq_true, Bool.and_eq_false_imp, Bool.or_eq_true, Bool.or_eq_false_iff, decide_eq_true_eq, decide_eq_false_iff_not, Bool.false_eq_true, reduceCtorEq, Int.not_le, Int.not_lt, Decidable.not_not] at h)))
    | (with_reducible refine z_r ?_ ?_)
    | (with_reducible refine z_wg ?_ ?_)
    | (with_reducible refine z_w ?_ ?_)
    | ((with_reducible apply sh_nil); (intro _))
    | ((with_reducible apply sh_int); (intro _))
    | ((with_reducible apply sh_bool); (intro _))
    | ((with_reducible apply sh_sl); (intro _))
    | ((with_reducible refine z_xf ?zc ?zx ?_); (case zc => decide +kernel); (case zx => decide +kernel))
    | (with_reducible refine z_k (within_fn _ _ _) ?_)
    | ((with_reducible refine z_o ?zo ?_); (case zo => decide +kernel))
    | ((with_reducible refine z_x ?zx ?_); (case zx => decide +kernel))
    | ((refine z_mf (d := ?zD) (f := ?zF) (caps := ?zA) (τ := ?zT) (ps := ?zP) (cs := ?zC) ?zd ?ze ?zt ?za ?zp ?zl ?_); (case zd => exact rfl); (case ze => exact rfl); (case zt => (simp only [frzAll, frz, frzL, frzV, frzS, drp, unSs, unS, unsing, ev, Vq.look, List.map_cons, List.map_nil, List.drop_zero, List.drop_succ_cons, Nat.reduceAdd, Nat.zero_add, Option.map_some, Nat.reduceEqDiff, if_true, if_false, reduceCtorEq, ↓reduceIte]; exact rfl)); (case za => exact rfl); (case zp => exact rfl); (case zl => (simp only [unSs, unS, unsing, List.drop_zero, List.drop_succ_cons, Nat.reduceAdd, Nat.zero_add, Option.map_some, List.length_map, fillTo_zero, Int.toNat_natCast, Option.isSome_some, and_self, fixB, Nat.reduceLeDiff, false_implies, true_implies, forall_const, St.le0, St.swaps, St.ren, mapV, renO, V.ren, Sc.ren, Ob.ren, swp, slsLe, obsLe, vLe, scLe, scsLe, obLe, Vq.look, Nat.reduceEqDiff, if_true, if_false, reduceCtorEq, ↓reduceIte, true_and, and_true] <;> (and_intros <;> first | rfl | omega))))
    | fail)
  · rename_i h1
    have h2 := h
    obtain ⟨m, rfl⟩ := Int.eq_ofNat_of_zero_le h2.1
    refine z_li (fun j => j ≤ m) (0 : Nat) (fun k => m - k) (fun j => ⟨[(0, .one (.int .i64 (iter j s))), (13, .one (.int .i64 m)), (14, .one (.int .i64 j))], []⟩) (by omega) ?_ ?_
    · simp only [List.length_map, fillTo_zero, Int.toNat_natCast, Option.isSome_some, and_self, fixB, Nat.reduceLeDiff, false_implies, true_implies, forall_const, St.le0, St.swaps, St.ren, mapV, renO, V.ren, Sc.ren, Ob.ren, swp, slsLe, obsLe, vLe, scLe, scsLe, obLe, Vq.look, Nat.reduceEqDiff, if_true, if_false, reduceCtorEq, ↓reduceIte, true_and, and_true]; exact ⟨rfl, rfl⟩
    · intro j hj
      have hb := iter_bd j s h1
      repeat' (first
    | ((with_reducible refine z_run ?_); (conv => whnf))
    | (with_reducible apply z_t)
    | (with_reducible apply z_f)
    | ((with_reducible apply z_b); ((intro h); (try simp only [beq_self_eq_true, eq_self, not_true_eq_false, not_false_eq_true, decide_true, cond_true, cond_false, Bool.not_true, Bool.not_false, Bool.not_eq_true', Bool.not_eq_false', Bool.and_eq_true, Bool.and_eq_false_imp, Bool.or_eq_true, Bool.or_eq_false_iff, decide_eq_true_eq, decide_eq_false_iff_not, Bool.false_eq_true, reduceCtorEq, Int.not_le, Int.not_lt, Decidable.not_not] at h)); rotate_left; ((intro h); (try simp only [beq_self_eq_true, eq_self, not_true_eq_false, not_false_eq_true, decide_true, cond_true, cond_false, Bool.not_true, Bool.not_false, Bool.not_eq_true', Bool.not_eq_false', Bool.and_eq_true, Bool.and_eq_false_imp, Bool.or_eq_true, Bool.or_eq_false_iff, decide_eq_true_eq, decide_eq_false_iff_not, Bool.false_eq_true, reduceCtorEq, Int.not_le, Int.not_lt, Decidable.not_not] at h)))
    | (with_reducible refine z_r ?_ ?_)
    | (with_reducible refine z_wg ?_ ?_)
    | (with_reducible refine z_w ?_ ?_)
    | ((with_reducible apply sh_nil); (intro _))
    | ((with_reducible apply sh_int); (intro _))
    | ((with_reducible apply sh_bool); (intro _))
    | ((with_reducible apply sh_sl); (intro _))
    | ((with_reducible refine z_xf ?zc ?zx ?_); (case zc => decide +kernel); (case zx => decide +kernel))
    | ((with_reducible refine z_o ?zo ?_); (case zo => decide +kernel))
    | ((with_reducible refine z_x ?zx ?_); (case zx => decide +kernel))
    | ((refine z_mf (d := ?zD) (f := ?zF) (caps := ?zA) (τ := ?zT) (ps := ?zP) (cs := ?zC) ?zd ?ze ?zt ?za ?zp ?zl ?_); (case zd => exact rfl); (case ze => exact rfl); (case zt => (simp only [frzAll, frz, frzL, frzV, frzS, drp, unSs, unS, unsing, ev, Vq.look, List.map_cons, List.map_nil, List.drop_zero, List.drop_succ_cons, Nat.reduceAdd, Nat.zero_add, Option.map_some, Nat.reduceEqDiff, if_true, if_false, reduceCtorEq, ↓reduceIte]; exact rfl)); (case za => exact rfl); (case zp => exact rfl); (case zl => (simp only [unSs, unS, unsing, List.drop_zero, List.drop_succ_cons, Nat.reduceAdd, Nat.zero_add, Option.map_some, List.length_map, fillTo_zero, Int.toNat_natCast, Option.isSome_some, and_self, fixB, Nat.reduceLeDiff, false_implies, true_implies, forall_const, St.le0, St.swaps, St.ren, mapV, renO, V.ren, Sc.ren, Ob.ren, swp, slsLe, obsLe, vLe, scLe, scsLe, obLe, Vq.look, Nat.reduceEqDiff, if_true, if_false, reduceCtorEq, ↓reduceIte, true_and, and_true] <;> (and_intros <;> first | rfl | omega))))
    | fail)
      all_goals ((try simp only [Int.toNat_natCast, tn1, tp1, List.length_map, eq_self, true_and, and_true] at *); (try simp (disch := omega) only [wr, Int.toNat_natCast, tn1, tp1, List.length_map, eq_self, true_and, and_true] at *))
      · refine z_e rfl ?_; simp only [fin, finP, finM, ids, nodupB, tupP, tupM, memN, List.length_cons, List.length_nil, List.nil_append, List.append_nil, List.cons_append, Nat.zero_add, Nat.reduceAdd, ne_eq, not_false_eq_true, eq_self, ev, Vq.look, List.map_cons, List.map_nil, and_true, true_and, Nat.reduceEqDiff, if_true, if_false, reduceCtorEq, ↓reduceIte]
        rw [seedR, if_pos ⟨h1, h2⟩]
        congr 1; omega
      · refine z_n (j + 1) ⟨by omega, by omega⟩ ?_
        simp only [List.length_map, fillTo_zero, Int.toNat_natCast, Option.isSome_some, and_self, fixB, Nat.reduceLeDiff, false_implies, true_implies, forall_const, St.le0, St.swaps, St.ren, mapV, renO, V.ren, Sc.ren, Ob.ren, swp, slsLe, obsLe, vLe, scLe, scsLe, obLe, Vq.look, Nat.reduceEqDiff, if_true, if_false, reduceCtorEq, ↓reduceIte, true_and, and_true, iter]
        rw [rem_pos (by omega)]
        exact ⟨rfl, by omega⟩
      · omega
  all_goals (refine z_e rfl ?_; simp only [fin, finP, finM, ids, nodupB, tupP, tupM, memN, List.length_cons, List.length_nil, List.nil_append, List.append_nil, List.cons_append, Nat.zero_add, Nat.reduceAdd, ne_eq, not_false_eq_true, eq_self, ev, Vq.look, List.map_cons, List.map_nil, and_true, true_and, Nat.reduceEqDiff, if_true, if_false, reduceCtorEq, ↓reduceIte]; rw [seedR, if_neg (by omega)])
theorem specSeedAfter (s k : Int) : FnC Try.prog 9 [(false, [.int .i64 s]), (false, [.int .i64 k])] (.one (.int .i64 (seedR s k))) := by
  refine fn_z (ty := ty) (ts := [.tmp 4]) [0, 1, 4, 5, 13, 16] mixed ty_ok Try.func9 (by kernel_rfl) rfl (by kernel_rfl) (by kernel_rfl) rfl (.inl rfl) (Nat.le_of_ble_eq_true rfl) (by simp only [entry, entryV, C.toS, Nat.zero_add, Nat.reduceAdd, List.map_cons, List.map_nil]; exact rfl) ?_
  repeat' (first
    | ((with_reducible refine z_run ?_); (conv => whnf))
    | (with_reducible apply z_t)
    | (with_reducible apply z_f)
    | ((with_reducible apply z_b); ((intro h); (try simp only [beq_self_eq_true, eq_self, not_true_eq_false, not_false_eq_true, decide_true, cond_true, cond_false, Bool.not_true, Bool.not_false, Bool.not_eq_true', Bool.not_eq_false', Bool.and_eq_true, Bool.and_eq_false_imp, Bool.or_eq_true, Bool.or_eq_false_iff, decide_eq_true_eq, decide_eq_false_iff_not, Bool.false_eq_true, reduceCtorEq, Int.not_le, Int.not_lt, Decidable.not_not] at h)); rotate_left; ((intro h); (try simp only [beq_self_eq_true, eq_self, not_true_eq_false, not_false_eq_true, decide_true, cond_true, cond_false, Bool.not_true, Bool.not_false, Bool.not_eq_true', Bool.not_eq_false', Bool.and_eq_true, Bool.and_eq_false_imp, Bool.or_eq_true, Bool.or_eq_false_iff, decide_eq_true_eq, decide_eq_false_iff_not, Bool.false_eq_true, reduceCtorEq, Int.not_le, Int.not_lt, Decidable.not_not] at h)))
    | (with_reducible refine z_r ?_ ?_)
    | (with_reducible refine z_wg ?_ ?_)
    | (with_reducible refine z_w ?_ ?_)
    | ((with_reducible apply sh_nil); (intro _))
    | ((with_reducible apply sh_int); (intro _))
    | ((with_reducible apply sh_bool); (intro _))
    | ((with_reducible apply sh_sl); (intro _))
    | ((with_reducible refine z_xf ?zc ?zx ?_); (case zc => decide +kernel); (case zx => decide +kernel))
    | (with_reducible refine z_k (in_fn _ _ _) ?_)
    | ((with_reducible refine z_o ?zo ?_); (case zo => decide +kernel))
    | ((with_reducible refine z_x ?zx ?_); (case zx => decide +kernel))
    | ((refine z_mf (d := ?zD) (f := ?zF) (caps := ?zA) (τ := ?zT) (ps := ?zP) (cs := ?zC) ?zd ?ze ?zt ?za ?zp ?zl ?_); (case zd => exact rfl); (case ze => exact rfl); (case zt => (simp only [frzAll, frz, frzL, frzV, frzS, drp, unSs, unS, unsing, ev, Vq.look, List.map_cons, List.map_nil, List.drop_zero, List.drop_succ_cons, Nat.reduceAdd, Nat.zero_add, Option.map_some, Nat.reduceEqDiff, if_true, if_false, reduceCtorEq, ↓reduceIte]; exact rfl)); (case za => exact rfl); (case zp => exact rfl); (case zl => (simp only [unSs, unS, unsing, List.drop_zero, List.drop_succ_cons, Nat.reduceAdd, Nat.zero_add, Option.map_some, List.length_map, fillTo_zero, Int.toNat_natCast, Option.isSome_some, and_self, fixB, Nat.reduceLeDiff, false_implies, true_implies, forall_const, St.le0, St.swaps, St.ren, mapV, renO, V.ren, Sc.ren, Ob.ren, swp, slsLe, obsLe, vLe, scLe, scsLe, obLe, Vq.look, Nat.reduceEqDiff, if_true, if_false, reduceCtorEq, ↓reduceIte, true_and, and_true] <;> (and_intros <;> first | rfl | omega))))
    | fail)
  · rename_i h1
    have h2 := h
    obtain ⟨m, rfl⟩ := Int.eq_ofNat_of_zero_le h2.1
    refine z_li (fun j => j ≤ m) (0 : Nat) (fun k => m - k) (fun j => ⟨[(0, .one (.int .i64 (iter j s))), (1, .one (.int .i64 m)), (5, .one (.int .i64 j))], []⟩) (by omega) ?_ ?_
    · simp only [List.length_map, fillTo_zero, Int.toNat_natCast, Option.isSome_some, and_self, fixB, Nat.reduceLeDiff, false_implies, true_implies, forall_const, St.le0, St.swaps, St.ren, mapV, renO, V.ren, Sc.ren, Ob.ren, swp, slsLe, obsLe, vLe, scLe, scsLe, obLe, Vq.look, Nat.reduceEqDiff, if_true, if_false, reduceCtorEq, ↓reduceIte, true_and, and_true]; exact ⟨rfl, rfl⟩
    · intro j hj
      have hb := iter_bd j s h1
      repeat' (first
    | ((with_reducible refine z_run ?_); (conv => whnf))
    | (with_reducible apply z_t)
    | (with_reducible apply z_f)
    | ((with_reducible apply z_b); ((intro h); (try simp only [beq_self_eq_true, eq_self, not_true_eq_false, not_false_eq_true, decide_true, cond_true, cond_false, Bool.not_true, Bool.not_false, Bool.not_eq_true', Bool.not_eq_false', Bool.and_eq_true, Bool.and_eq_false_imp, Bool.or_eq_true, Bool.or_eq_false_iff, decide_eq_true_eq, decide_eq_false_iff_not, Bool.false_eq_true, reduceCtorEq, Int.not_le, Int.not_lt, Decidable.not_not] at h)); rotate_left; ((intro h); (try simp only [beq_self_eq_true, eq_self, not_true_eq_false, not_false_eq_true, decide_true, cond_true, cond_false, Bool.not_true, Bool.not_false, Bool.not_eq_true', Bool.not_eq_false', Bool.and_eq_true, Bool.and_eq_false_imp, Bool.or_eq_true, Bool.or_eq_false_iff, decide_eq_true_eq, decide_eq_false_iff_not, Bool.false_eq_true, reduceCtorEq, Int.not_le, Int.not_lt, Decidable.not_not] at h)))
    | (with_reducible refine z_r ?_ ?_)
    | (with_reducible refine z_wg ?_ ?_)
    | (with_reducible refine z_w ?_ ?_)
    | ((with_reducible apply sh_nil); (intro _))
    | ((with_reducible apply sh_int); (intro _))
    | ((with_reducible apply sh_bool); (intro _))
    | ((with_reducible apply sh_sl); (intro _))
    | ((with_reducible refine z_xf ?zc ?zx ?_); (case zc => decide +kernel); (case zx => decide +kernel))
    | ((with_reducible refine z_o ?zo ?_); (case zo => decide +kernel))
    | ((with_reducible refine z_x ?zx ?_); (case zx => decide +kernel))
    | ((refine z_mf (d := ?zD) (f := ?zF) (caps := ?zA) (τ := ?zT) (ps := ?zP) (cs := ?zC) ?zd ?ze ?zt ?za ?zp ?zl ?_); (case zd => exact rfl); (case ze => exact rfl); (case zt => (simp only [frzAll, frz, frzL, frzV, frzS, drp, unSs, unS, unsing, ev, Vq.look, List.map_cons, List.map_nil, List.drop_zero, List.drop_succ_cons, Nat.reduceAdd, Nat.zero_add, Option.map_some, Nat.reduceEqDiff, if_true, if_false, reduceCtorEq, ↓reduceIte]; exact rfl)); (case za => exact rfl); (case zp => exact rfl); (case zl => (simp only [unSs, unS, unsing, List.drop_zero, List.drop_succ_cons, Nat.reduceAdd, Nat.zero_add, Option.map_some, List.length_map, fillTo_zero, Int.toNat_natCast, Option.isSome_some, and_self, fixB, Nat.reduceLeDiff, false_implies, true_implies, forall_const, St.le0, St.swaps, St.ren, mapV, renO, V.ren, Sc.ren, Ob.ren, swp, slsLe, obsLe, vLe, scLe, scsLe, obLe, Vq.look, Nat.reduceEqDiff, if_true, if_false, reduceCtorEq, ↓reduceIte, true_and, and_true] <;> (and_intros <;> first | rfl | omega))))
    | fail)
      all_goals ((try simp only [Int.toNat_natCast, tn1, tp1, List.length_map, eq_self, true_and, and_true] at *); (try simp (disch := omega) only [wr, Int.toNat_natCast, tn1, tp1, List.length_map, eq_self, true_and, and_true] at *))
      · refine z_e rfl ?_; simp only [fin, finP, finM, ids, nodupB, tupP, tupM, memN, List.length_cons, List.length_nil, List.nil_append, List.append_nil, List.cons_append, Nat.zero_add, Nat.reduceAdd, ne_eq, not_false_eq_true, eq_self, ev, Vq.look, List.map_cons, List.map_nil, and_true, true_and, Nat.reduceEqDiff, if_true, if_false, reduceCtorEq, ↓reduceIte]
        rw [seedR, if_pos ⟨h1, h2⟩]
        congr 1; omega
      · refine z_n (j + 1) ⟨by omega, by omega⟩ ?_
        simp only [List.length_map, fillTo_zero, Int.toNat_natCast, Option.isSome_some, and_self, fixB, Nat.reduceLeDiff, false_implies, true_implies, forall_const, St.le0, St.swaps, St.ren, mapV, renO, V.ren, Sc.ren, Ob.ren, swp, slsLe, obsLe, vLe, scLe, scsLe, obLe, Vq.look, Nat.reduceEqDiff, if_true, if_false, reduceCtorEq, ↓reduceIte, true_and, and_true, iter]
        rw [rem_pos (by omega)]
        exact ⟨rfl, by omega⟩
      · omega
  all_goals (refine z_e rfl ?_; simp only [fin, finP, finM, ids, nodupB, tupP, tupM, memN, List.length_cons, List.length_nil, List.nil_append, List.append_nil, List.cons_append, Nat.zero_add, Nat.reduceAdd, ne_eq, not_false_eq_true, eq_self, ev, Vq.look, List.map_cons, List.map_nil, and_true, true_and, Nat.reduceEqDiff, if_true, if_false, reduceCtorEq, ↓reduceIte]; rw [seedR, if_neg (by omega)])
end Go.Proofs.Ythdaggpmmaaidaa
