/- Contracts of the raffle's functions, and of the law's own. No conditions. -/
import Derived.Test.YthdaggpmmaaidaaRafB
namespace Go.Proofs.Ythdaggpmmaaidaa
open Go.Vq
set_option linter.unusedSimpArgs false
def cntT (o : Int) : List Tk → Int
  | [] => 0
  | t :: l => (if t.2 = o then 1 else 0) + cntT o l
theorem cntT_app (o : Int) (l m : List Tk) : cntT o (l ++ m) = cntT o l + cntT o m := by
  induction l with
  | nil => simp [cntT]
  | cons t l ih => simp only [List.cons_append, cntT, ih]; omega
theorem cntT_bd (o : Int) (l : List Tk) : 0 ≤ cntT o l ∧ cntT o l ≤ l.length := by
  induction l with
  | nil => simp [cntT]
  | cons t l ih => simp only [cntT, List.length_cons]; split <;> omega
theorem cntT_succ (o : Int) (l : List Tk) (k : Nat) (h : k < l.length) : cntT o (l.take (k + 1)) = cntT o (l.take k) + if (l.getD k default).2 = o then 1 else 0 := by
  rw [takeD h, cntT_app]; simp only [cntT]; omega
theorem cntT_tk (o : Int) (l : List Tk) (k : Nat) (hk : k ≤ l.length) : 0 ≤ cntT o (l.take k) ∧ cntT o (l.take k) ≤ k := by
  have := cntT_bd o (l.take k); simp at this; omega
def chancesR (l : List Tk) (o : Int) : Int := if TkOk l then cntT o l else 0
theorem implChancesOf (l : List Tk) (hl : l.length ≤ 1048576) (o : Int) : FnC Try.prog 17 [(false, [.sq dTicket (l.map eTicket)]), (false, [.int .i64 o])] (.one (.int .i64 (chancesR l o))) := by
  refine fn_z (ty := ty) (ts := [.tmp 4]) [0, 1, 4, 5, 7, 10, 11, 12, 13, 14, 20] mixed ty_ok Try.func17 (by kernel_rfl) rfl (by kernel_rfl) (by kernel_rfl) rfl (.inl rfl) (Nat.le_of_ble_eq_true rfl) (by simp only [entry, entryV, C.toS, Nat.zero_add, Nat.reduceAdd, List.map_cons, List.map_nil]; exact rfl) ?_
  repeat' (first
    | ((with_reducible refine z_run ?_); (conv => whnf))
    | (with_reducible apply z_t)
    | (with_reducible apply z_f)
    | ((with_reducible apply z_b); ((intro h); (try simp only [beq_self_eq_true, eq_self, not_true_eq_false, not_false_eq_true, decide_true, cond_true, cond_false, Bool.not_true, Bool.not_false, Bool.not_eq_true', Bool.not_eq_false', Bool.and_eq_true, Bool.and_eq_false_imp, Bool.or_eq_true, Bool.or_eq_false_iff, decide_eq_true_eq, decide_eq_false_iff_not, Bool.false_eq_true, reduceCtorEq, Int.not_le, Int.not_lt, Decidable.not_not] at h)); rotate_left; ((intro h); (try simp only [beq_self_eq_true, eq_self, not_true_eq_false, not_false_eq_true, decide_true, cond_true, cond_false, Bool.not_true, Bool.not_false, Bool.not_eq_true', Bool.not_eq_false', Bool.and_eq_true, Bool.and_eq_false_imp, Bool.or_eq_true, Bool.or_eq_false_iff, decide_eq_true_eq, decide_eq_false_iff_not, Bool.false_eq_true, reduceCtorEq, Int.not_le, Int.not_lt, Decidable.not_not] at h)))
    | (with_reducible refine z_r ?_ ?_)
    | (with_reducible refine z_wg ?_ ?_)
    | (with_reducible refine z_w ?_ ?_)
    | ((with_reducible apply sh_nil); (intro _))
    | ((with_reducible apply sh_int); (intro _))
    | ((with_reducible apply sh_bool); (intro _))
    | ((with_reducible apply sh_sl); (intro _))
    | ((with_reducible refine z_xf ?zc ?zx ?_); (case zc => decide +kernel); (case zx => decide +kernel))
    | (with_reducible refine z_k (implTicketsOk _ hl) ?_)
    | ((with_reducible refine z_o ?zo ?_); (case zo => decide +kernel))
    | ((with_reducible refine z_x ?zx ?_); (case zx => decide +kernel))
    | ((refine z_mf (d := ?zD) (f := ?zF) (caps := ?zA) (τ := ?zT) (ps := ?zP) (cs := ?zC) ?zd ?ze ?zt ?za ?zp ?zl ?_); (case zd => exact rfl); (case ze => exact rfl); (case zt => (simp only [frzAll, frz, frzL, frzV, frzS, drp, unSs, unS, unsing, ev, Vq.look, List.map_cons, List.map_nil, List.drop_zero, List.drop_succ_cons, Nat.reduceAdd, Nat.zero_add, Option.map_some, Nat.reduceEqDiff, if_true, if_false, reduceCtorEq, ↓reduceIte]; exact rfl)); (case za => exact rfl); (case zp => exact rfl); (case zl => (simp only [unSs, unS, unsing, List.drop_zero, List.drop_succ_cons, Nat.reduceAdd, Nat.zero_add, Option.map_some, List.length_map, fillTo_zero, Int.toNat_natCast, Option.isSome_some, and_self, fixB, Nat.reduceLeDiff, false_implies, true_implies, forall_const, St.le0, St.swaps, St.ren, mapV, renO, V.ren, Sc.ren, Ob.ren, swp, slsLe, obsLe, vLe, scLe, scsLe, obLe, Vq.look, Nat.reduceEqDiff, if_true, if_false, reduceCtorEq, ↓reduceIte, true_and, and_true] <;> (and_intros <;> first | rfl | omega))))
    | fail)
  · refine z_li (fun k => k ≤ l.length) (0 : Nat) (fun k => l.length - k) (fun k => ⟨[(0, .one (.ro dTicket (l.map eTicket))), (1, .one (.int .i64 o)), (5, .one (.int .i64 (cntT o (l.take k)))), (11, .one (.ro dTicket (l.map eTicket))), (12, .one (.int .i64 l.length)), (13, .one (.int .i64 k))], []⟩) (by omega) ?_ ?_
    · simp only [List.length_map, fillTo_zero, Int.toNat_natCast, Option.isSome_some, and_self, fixB, Nat.reduceLeDiff, false_implies, true_implies, forall_const, St.le0, St.swaps, St.ren, mapV, renO, V.ren, Sc.ren, Ob.ren, swp, slsLe, obsLe, vLe, scLe, scsLe, obLe, Vq.look, Nat.reduceEqDiff, if_true, if_false, reduceCtorEq, ↓reduceIte, true_and, and_true, List.length_map]; exact ⟨rfl, rfl⟩
    · intro k hk
      have hb := cntT_tk o l k hk
      repeat' (first
    | ((with_reducible refine z_run ?_); (conv => whnf))
    | (with_reducible apply z_t)
    | (with_reducible apply z_f)
    | ((with_reducible apply z_b); ((intro h); (try simp only [beq_self_eq_true, eq_self, not_true_eq_false, not_false_eq_true, decide_true, cond_true, cond_false, Bool.not_true, Bool.not_false, Bool.not_eq_true', Bool.not_eq_false', Bool.and_eq_true, Bool.and_eq_false_imp, Bool.or_eq_true, Bool.or_eq_false_iff, decide_eq_true_eq, decide_eq_false_iff_not, Bool.false_eq_true, reduceCtorEq, Int.not_le, Int.not_lt, Decidable.not_not] at h)); rotate_left; ((intro h); (try simp only [beq_self_eq_true, eq_self, not_true_eq_false, not_false_eq_true, decide_true, cond_true, cond_false, Bool.not_true, Bool.not_false, Bool.not_eq_true', Bool.not_eq_false', Bool.and_eq_true, Bool.and_eq_false_imp, Bool.or_eq_true, Bool.or_eq_false_iff, decide_eq_true_eq, decide_eq_false_iff_not, Bool.false_eq_true, reduceCtorEq, Int.not_le, Int.not_lt, Decidable.not_not] at h)))
    | (with_reducible refine z_r ?_ ?_)
    | (with_reducible refine z_wg ?_ ?_)
    | (with_reducible refine z_w ?_ ?_)
    | ((with_reducible apply sh_nil); (intro _))
    | ((with_reducible apply sh_int); (intro _))
    | ((with_reducible apply sh_bool); (intro _))
    | ((with_reducible apply sh_sl); (intro _))
    | ((with_reducible refine z_xf ?zc ?zx ?_); (case zc => decide +kernel); (case zx => decide +kernel))
    | ((with_reducible refine z_o ?zo ?_); (case zo => decide +kernel))
    | ((with_reducible refine z_x ?zx ?_); (case zx => decide +kernel))
    | ((refine z_mf (d := ?zD) (f := ?zF) (caps := ?zA) (τ := ?zT) (ps := ?zP) (cs := ?zC) ?zd ?ze ?zt ?za ?zp ?zl ?_); (case zd => exact rfl); (case ze => exact rfl); (case zt => (simp only [frzAll, frz, frzL, frzV, frzS, drp, unSs, unS, unsing, ev, Vq.look, List.map_cons, List.map_nil, List.drop_zero, List.drop_succ_cons, Nat.reduceAdd, Nat.zero_add, Option.map_some, Nat.reduceEqDiff, if_true, if_false, reduceCtorEq, ↓reduceIte]; exact rfl)); (case za => exact rfl); (case zp => exact rfl); (case zl => (simp only [unSs, unS, unsing, List.drop_zero, List.drop_succ_cons, Nat.reduceAdd, Nat.zero_add, Option.map_some, List.length_map, fillTo_zero, Int.toNat_natCast, Option.isSome_some, and_self, fixB, Nat.reduceLeDiff, false_implies, true_implies, forall_const, St.le0, St.swaps, St.ren, mapV, renO, V.ren, Sc.ren, Ob.ren, swp, slsLe, obsLe, vLe, scLe, scsLe, obLe, Vq.look, Nat.reduceEqDiff, if_true, if_false, reduceCtorEq, ↓reduceIte, true_and, and_true] <;> (and_intros <;> first | rfl | omega))))
    | fail)
      all_goals ((try simp only [Int.toNat_natCast, tn1, tp1, List.length_map, eq_self, true_and, and_true] at *); (try simp (disch := omega) only [wr, Int.toNat_natCast, tn1, tp1, List.length_map, eq_self, true_and, and_true] at *))
      · refine z_e rfl ?_; simp only [fin, finP, finM, ids, nodupB, tupP, tupM, memN, List.length_cons, List.length_nil, List.nil_append, List.append_nil, List.cons_append, Nat.zero_add, Nat.reduceAdd, ne_eq, not_false_eq_true, eq_self, ev, Vq.look, List.map_cons, List.map_nil, and_true, true_and, Nat.reduceEqDiff, if_true, if_false, reduceCtorEq, ↓reduceIte]; rw [chancesR, if_pos (by assumption), List.take_of_length_le (by omega)]
      · have hs := cntT_succ o l k (by omega)
        rw [if_neg (by omega)] at hs
        refine z_n (k + 1) ⟨by omega, by omega⟩ ?_
        simp only [List.length_map, fillTo_zero, Int.toNat_natCast, Option.isSome_some, and_self, fixB, Nat.reduceLeDiff, false_implies, true_implies, forall_const, St.le0, St.swaps, St.ren, mapV, renO, V.ren, Sc.ren, Ob.ren, swp, slsLe, obsLe, vLe, scLe, scsLe, obLe, Vq.look, Nat.reduceEqDiff, if_true, if_false, reduceCtorEq, ↓reduceIte, true_and, and_true, hs]; omega
      · have hs := cntT_succ o l k (by omega)
        rw [if_pos (by omega)] at hs
        refine z_n (k + 1) ⟨by omega, by omega⟩ ?_
        simp only [List.length_map, fillTo_zero, Int.toNat_natCast, Option.isSome_some, and_self, fixB, Nat.reduceLeDiff, false_implies, true_implies, forall_const, St.le0, St.swaps, St.ren, mapV, renO, V.ren, Sc.ren, Ob.ren, swp, slsLe, obsLe, vLe, scLe, scsLe, obLe, Vq.look, Nat.reduceEqDiff, if_true, if_false, reduceCtorEq, ↓reduceIte, true_and, and_true, hs]; omega
      · omega
  · refine z_e rfl ?_; simp only [fin, finP, finM, ids, nodupB, tupP, tupM, memN, List.length_cons, List.length_nil, List.nil_append, List.append_nil, List.cons_append, Nat.zero_add, Nat.reduceAdd, ne_eq, not_false_eq_true, eq_self, ev, Vq.look, List.map_cons, List.map_nil, and_true, true_and, Nat.reduceEqDiff, if_true, if_false, reduceCtorEq, ↓reduceIte]; rw [chancesR, if_neg (by assumption)]
theorem specChancesOf (l : List Tk) (hl : l.length ≤ 1048576) (o : Int) : FnC Try.prog 16 [(false, [.sq dTicket (l.map eTicket)]), (false, [.int .i64 o])] (.one (.int .i64 (chancesR l o))) := by
  refine fn_z (ty := ty) (ts := [.tmp 4]) [0, 1, 4, 5, 6, 14, 23] mixed ty_ok Try.func16 (by kernel_rfl) rfl (by kernel_rfl) (by kernel_rfl) rfl (.inl rfl) (Nat.le_of_ble_eq_true rfl) (by simp only [entry, entryV, C.toS, Nat.zero_add, Nat.reduceAdd, List.map_cons, List.map_nil]; exact rfl) ?_
  repeat' (first
    | ((with_reducible refine z_run ?_); (conv => whnf))
    | (with_reducible apply z_t)
    | (with_reducible apply z_f)
    | ((with_reducible apply z_b); ((intro h); (try simp only [beq_self_eq_true, eq_self, not_true_eq_false, not_false_eq_true, decide_true, cond_true, cond_false, Bool.not_true, Bool.not_false, Bool.not_eq_true', Bool.not_eq_false', Bool.and_eq_true, Bool.and_eq_false_imp, Bool.or_eq_true, Bool.or_eq_false_iff, decide_eq_true_eq, decide_eq_false_iff_not, Bool.false_eq_true, reduceCtorEq, Int.not_le, Int.not_lt, Decidable.not_not] at h)); rotate_left; ((intro h); (try simp only [beq_self_eq_true, eq_self, not_true_eq_false, not_false_eq_true, decide_true, cond_true, cond_false, Bool.not_true, Bool.not_false, Bool.not_eq_true', Bool.not_eq_false', Bool.and_eq_true, Bool.and_eq_false_imp, Bool.or_eq_true, Bool.or_eq_false_iff, decide_eq_true_eq, decide_eq_false_iff_not, Bool.false_eq_true, reduceCtorEq, Int.not_le, Int.not_lt, Decidable.not_not] at h)))
    | (with_reducible refine z_r ?_ ?_)
    | (with_reducible refine z_wg ?_ ?_)
    | (with_reducible refine z_w ?_ ?_)
    | ((with_reducible apply sh_nil); (intro _))
    | ((with_reducible apply sh_int); (intro _))
    | ((with_reducible apply sh_bool); (intro _))
    | ((with_reducible apply sh_sl); (intro _))
    | ((with_reducible refine z_xf ?zc ?zx ?_); (case zc => decide +kernel); (case zx => decide +kernel))
    | (with_reducible refine z_k (specTicketsOk _ hl) ?_)
    | ((with_reducible refine z_o ?zo ?_); (case zo => decide +kernel))
    | ((with_reducible refine z_x ?zx ?_); (case zx => decide +kernel))
    | ((refine z_mf (d := ?zD) (f := ?zF) (caps := ?zA) (τ := ?zT) (ps := ?zP) (cs := ?zC) ?zd ?ze ?zt ?za ?zp ?zl ?_); (case zd => exact rfl); (case ze => exact rfl); (case zt => (simp only [frzAll, frz, frzL, frzV, frzS, drp, unSs, unS, unsing, ev, Vq.look, List.map_cons, List.map_nil, List.drop_zero, List.drop_succ_cons, Nat.reduceAdd, Nat.zero_add, Option.map_some, Nat.reduceEqDiff, if_true, if_false, reduceCtorEq, ↓reduceIte]; exact rfl)); (case za => exact rfl); (case zp => exact rfl); (case zl => (simp only [unSs, unS, unsing, List.drop_zero, List.drop_succ_cons, Nat.reduceAdd, Nat.zero_add, Option.map_some, List.length_map, fillTo_zero, Int.toNat_natCast, Option.isSome_some, and_self, fixB, Nat.reduceLeDiff, false_implies, true_implies, forall_const, St.le0, St.swaps, St.ren, mapV, renO, V.ren, Sc.ren, Ob.ren, swp, slsLe, obsLe, vLe, scLe, scsLe, obLe, Vq.look, Nat.reduceEqDiff, if_true, if_false, reduceCtorEq, ↓reduceIte, true_and, and_true] <;> (and_intros <;> first | rfl | omega))))
    | fail)
  · refine z_li (fun k => k ≤ l.length ∧ (0 < k → TkOk l)) (0 : Nat) (fun k => l.length - k) (fun k => ⟨[(0, .one (.ro dTicket (l.map eTicket))), (1, .one (.int .i64 o)), (5, .one (.int .i64 (cntT o (l.take k)))), (6, .one (.int .i64 k))], []⟩) ⟨by omega, by omega⟩ ?_ ?_
    · simp only [List.length_map, fillTo_zero, Int.toNat_natCast, Option.isSome_some, and_self, fixB, Nat.reduceLeDiff, false_implies, true_implies, forall_const, St.le0, St.swaps, St.ren, mapV, renO, V.ren, Sc.ren, Ob.ren, swp, slsLe, obsLe, vLe, scLe, scsLe, obLe, Vq.look, Nat.reduceEqDiff, if_true, if_false, reduceCtorEq, ↓reduceIte, true_and, and_true, List.length_map]; exact ⟨rfl, rfl⟩
    · intro k ⟨hk, hT⟩
      have hb := cntT_tk o l k hk
      repeat' (first
    | ((with_reducible refine z_run ?_); (conv => whnf))
    | (with_reducible apply z_t)
    | (with_reducible apply z_f)
    | ((with_reducible apply z_b); ((intro h); (try simp only [beq_self_eq_true, eq_self, not_true_eq_false, not_false_eq_true, decide_true, cond_true, cond_false, Bool.not_true, Bool.not_false, Bool.not_eq_true', Bool.not_eq_false', Bool.and_eq_true, Bool.and_eq_false_imp, Bool.or_eq_true, Bool.or_eq_false_iff, decide_eq_true_eq, decide_eq_false_iff_not, Bool.false_eq_true, reduceCtorEq, Int.not_le, Int.not_lt, Decidable.not_not] at h)); rotate_left; ((intro h); (try simp only [beq_self_eq_true, eq_self, not_true_eq_false, not_false_eq_true, decide_true, cond_true, cond_false, Bool.not_true, Bool.not_false, Bool.not_eq_true', Bool.not_eq_false', Bool.and_eq_true, Bool.and_eq_false_imp, Bool.or_eq_true, Bool.or_eq_false_iff, decide_eq_true_eq, decide_eq_false_iff_not, Bool.false_eq_true, reduceCtorEq, Int.not_le, Int.not_lt, Decidable.not_not] at h)))
    | (with_reducible refine z_r ?_ ?_)
    | (with_reducible refine z_wg ?_ ?_)
    | (with_reducible refine z_w ?_ ?_)
    | ((with_reducible apply sh_nil); (intro _))
    | ((with_reducible apply sh_int); (intro _))
    | ((with_reducible apply sh_bool); (intro _))
    | ((with_reducible apply sh_sl); (intro _))
    | ((with_reducible refine z_xf ?zc ?zx ?_); (case zc => decide +kernel); (case zx => decide +kernel))
    | (with_reducible refine z_k (specTicketsOk _ hl) ?_)
    | ((with_reducible refine z_o ?zo ?_); (case zo => decide +kernel))
    | ((with_reducible refine z_x ?zx ?_); (case zx => decide +kernel))
    | ((refine z_mf (d := ?zD) (f := ?zF) (caps := ?zA) (τ := ?zT) (ps := ?zP) (cs := ?zC) ?zd ?ze ?zt ?za ?zp ?zl ?_); (case zd => exact rfl); (case ze => exact rfl); (case zt => (simp only [frzAll, frz, frzL, frzV, frzS, drp, unSs, unS, unsing, ev, Vq.look, List.map_cons, List.map_nil, List.drop_zero, List.drop_succ_cons, Nat.reduceAdd, Nat.zero_add, Option.map_some, Nat.reduceEqDiff, if_true, if_false, reduceCtorEq, ↓reduceIte]; exact rfl)); (case za => exact rfl); (case zp => exact rfl); (case zl => (simp only [unSs, unS, unsing, List.drop_zero, List.drop_succ_cons, Nat.reduceAdd, Nat.zero_add, Option.map_some, List.length_map, fillTo_zero, Int.toNat_natCast, Option.isSome_some, and_self, fixB, Nat.reduceLeDiff, false_implies, true_implies, forall_const, St.le0, St.swaps, St.ren, mapV, renO, V.ren, Sc.ren, Ob.ren, swp, slsLe, obsLe, vLe, scLe, scsLe, obLe, Vq.look, Nat.reduceEqDiff, if_true, if_false, reduceCtorEq, ↓reduceIte, true_and, and_true] <;> (and_intros <;> first | rfl | omega))))
    | fail)
      all_goals ((try simp only [Int.toNat_natCast, tn1, tp1, List.length_map, eq_self, true_and, and_true] at *); (try simp (disch := omega) only [wr, Int.toNat_natCast, tn1, tp1, List.length_map, eq_self, true_and, and_true] at *))
      · refine z_e rfl ?_; simp only [fin, finP, finM, ids, nodupB, tupP, tupM, memN, List.length_cons, List.length_nil, List.nil_append, List.append_nil, List.cons_append, Nat.zero_add, Nat.reduceAdd, ne_eq, not_false_eq_true, eq_self, ev, Vq.look, List.map_cons, List.map_nil, and_true, true_and, Nat.reduceEqDiff, if_true, if_false, reduceCtorEq, ↓reduceIte]
        by_cases hq : TkOk l
        · rw [chancesR, if_pos hq, List.take_of_length_le (by omega)]
        · obtain rfl : k = 0 := by
            rcases Nat.eq_zero_or_pos k with h0 | h0
            · exact h0
            · exact (hq (hT h0)).elim
          rw [chancesR, if_neg hq]; rfl
      · refine z_e rfl ?_; simp only [fin, finP, finM, ids, nodupB, tupP, tupM, memN, List.length_cons, List.length_nil, List.nil_append, List.append_nil, List.cons_append, Nat.zero_add, Nat.reduceAdd, ne_eq, not_false_eq_true, eq_self, ev, Vq.look, List.map_cons, List.map_nil, and_true, true_and, Nat.reduceEqDiff, if_true, if_false, reduceCtorEq, ↓reduceIte]
        rename_i hq
        obtain rfl : k = 0 := by
          rcases Nat.eq_zero_or_pos k with h0 | h0
          · exact h0
          · exact (hq (hT h0)).elim
        rw [chancesR, if_neg hq]; rfl
      · have hs := cntT_succ o l k (by omega)
        rw [if_neg (by omega)] at hs
        refine z_n (k + 1) ⟨⟨by omega, fun _ => by assumption⟩, by omega⟩ ?_
        simp only [List.length_map, fillTo_zero, Int.toNat_natCast, Option.isSome_some, and_self, fixB, Nat.reduceLeDiff, false_implies, true_implies, forall_const, St.le0, St.swaps, St.ren, mapV, renO, V.ren, Sc.ren, Ob.ren, swp, slsLe, obsLe, vLe, scLe, scsLe, obLe, Vq.look, Nat.reduceEqDiff, if_true, if_false, reduceCtorEq, ↓reduceIte, true_and, and_true, hs]; omega
      · have hs := cntT_succ o l k (by omega)
        rw [if_pos (by omega)] at hs
        refine z_n (k + 1) ⟨⟨by omega, fun _ => by assumption⟩, by omega⟩ ?_
        simp only [List.length_map, fillTo_zero, Int.toNat_natCast, Option.isSome_some, and_self, fixB, Nat.reduceLeDiff, false_implies, true_implies, forall_const, St.le0, St.swaps, St.ren, mapV, renO, V.ren, Sc.ren, Ob.ren, swp, slsLe, obsLe, vLe, scLe, scsLe, obLe, Vq.look, Nat.reduceEqDiff, if_true, if_false, reduceCtorEq, ↓reduceIte, true_and, and_true, hs]; omega
      · omega
/-! ### the winner -/
def winnerR (l : List Tk) (s : Int) : Int := if TkOk l ∧ l.length ≠ 0 ∧ 0 ≤ s ∧ s ≤ 65536 then iter 1 s % l.length else -1
theorem seed1 {s : Int} (h : 0 ≤ s ∧ s ≤ 65536) : seedR s 1 = iter 1 s := by rw [seedR, if_pos ⟨h, by omega, by omega⟩]; rfl
theorem implWinnerOf (l : List Tk) (hl : l.length ≤ 1048576) (s : Int) : FnC Try.prog 19 [(false, [.sq dTicket (l.map eTicket)]), (false, [.int .i64 s])] (.one (.int .i64 (winnerR l s))) := by
  refine fn_z (ty := ty) (ts := [.tmp 4]) [0, 1, 4, 17] mixed ty_ok Try.func19 (by kernel_rfl) rfl (by kernel_rfl) (by kernel_rfl) rfl (.inl rfl) (Nat.le_of_ble_eq_true rfl) (by simp only [entry, entryV, C.toS, Nat.zero_add, Nat.reduceAdd, List.map_cons, List.map_nil]; exact rfl) ?_
  repeat' (first
    | ((with_reducible refine z_run ?_); (conv => whnf))
    | (with_reducible apply z_t)
    | (with_reducible apply z_f)
    | ((with_reducible apply z_b); ((intro h); (try simp only [beq_self_eq_true, eq_self, not_true_eq_false, not_false_eq_true, decide_true, cond_true, cond_false, Bool.not_true, Bool.not_false, Bool.not_eq_true', Bool.not_eq_false', Bool.and_eq_true, Bool.and_eq_false_imp, Bool.or_eq_true, Bool.or_eq_false_iff, decide_eq_true_eq, decide_eq_false_iff_not, Bool.false_eq_true, reduceCtorEq, Int.not_le, Int.not_lt, Decidable.not_not] at h)); rotate_left; ((intro h); (try simp only [beq_self_eq_true, eq_self, not_true_eq_false, not_false_eq_true, decide_true, cond_true, cond_false, Bool.not_true, Bool.not_false, Bool.not_eq_true', Bool.not_eq_false', Bool.and_eq_true, Bool.and_eq_false_imp, Bool.or_eq_true, Bool.or_eq_false_iff, decide_eq_true_eq, decide_eq_false_iff_not, Bool.false_eq_true, reduceCtorEq, Int.not_le, Int.not_lt, Decidable.not_not] at h)))
    | (with_reducible refine z_r ?_ ?_)
    | (with_reducible refine z_wg ?_ ?_)
    | (with_reducible refine z_w ?_ ?_)
    | ((with_reducible apply sh_nil); (intro _))
    | ((with_reducible apply sh_int); (intro _))
    | ((with_reducible apply sh_bool); (intro _))
    | ((with_reducible apply sh_sl); (intro _))
    | ((with_reducible refine z_xf ?zc ?zx ?_); (case zc => decide +kernel); (case zx => decide +kernel))
    | (with_reducible refine z_k (implTicketsOk _ hl) ?_)
    | (with_reducible refine z_k (within_fn _ _ _) ?_)
    | (with_reducible refine z_k (implSeedAfter _ _) ?_)
    | ((with_reducible refine z_o ?zo ?_); (case zo => decide +kernel))
    | ((with_reducible refine z_x ?zx ?_); (case zx => decide +kernel))
    | ((refine z_mf (d := ?zD) (f := ?zF) (caps := ?zA) (τ := ?zT) (ps := ?zP) (cs := ?zC) ?zd ?ze ?zt ?za ?zp ?zl ?_); (case zd => exact rfl); (case ze => exact rfl); (case zt => (simp only [frzAll, frz, frzL, frzV, frzS, drp, unSs, unS, unsing, ev, Vq.look, List.map_cons, List.map_nil, List.drop_zero, List.drop_succ_cons, Nat.reduceAdd, Nat.zero_add, Option.map_some, Nat.reduceEqDiff, if_true, if_false, reduceCtorEq, ↓reduceIte]; exact rfl)); (case za => exact rfl); (case zp => exact rfl); (case zl => (simp only [unSs, unS, unsing, List.drop_zero, List.drop_succ_cons, Nat.reduceAdd, Nat.zero_add, Option.map_some, List.length_map, fillTo_zero, Int.toNat_natCast, Option.isSome_some, and_self, fixB, Nat.reduceLeDiff, false_implies, true_implies, forall_const, St.le0, St.swaps, St.ren, mapV, renO, V.ren, Sc.ren, Ob.ren, swp, slsLe, obsLe, vLe, scLe, scsLe, obLe, Vq.look, Nat.reduceEqDiff, if_true, if_false, reduceCtorEq, ↓reduceIte, true_and, and_true] <;> (and_intros <;> first | rfl | omega))))
    | fail)
  all_goals ((try simp only [Int.toNat_natCast, tn1, tp1, List.length_map, eq_self, true_and, and_true] at *); (try simp (disch := omega) only [wr, Int.toNat_natCast, tn1, tp1, List.length_map, eq_self, true_and, and_true] at *))
  · refine z_e rfl ?_; simp only [fin, finP, finM, ids, nodupB, tupP, tupM, memN, List.length_cons, List.length_nil, List.nil_append, List.append_nil, List.cons_append, Nat.zero_add, Nat.reduceAdd, ne_eq, not_false_eq_true, eq_self, ev, Vq.look, List.map_cons, List.map_nil, and_true, true_and, Nat.reduceEqDiff, if_true, if_false, reduceCtorEq, ↓reduceIte]
    rename_i h1 h2
    have hb := iter_bd 1 s h2
    rw [winnerR, if_pos ⟨h1, by omega, h2⟩, seed1 h2, rem_pos hb.1]
  · exact h
  all_goals (refine z_e rfl ?_; simp only [fin, finP, finM, ids, nodupB, tupP, tupM, memN, List.length_cons, List.length_nil, List.nil_append, List.append_nil, List.cons_append, Nat.zero_add, Nat.reduceAdd, ne_eq, not_false_eq_true, eq_self, ev, Vq.look, List.map_cons, List.map_nil, and_true, true_and, Nat.reduceEqDiff, if_true, if_false, reduceCtorEq, ↓reduceIte]; rw [winnerR, if_neg]; intro hq; first | omega | exact absurd hq.1 h)
theorem specWinnerOf (l : List Tk) (hl : l.length ≤ 1048576) (s : Int) : FnC Try.prog 18 [(false, [.sq dTicket (l.map eTicket)]), (false, [.int .i64 s])] (.one (.int .i64 (winnerR l s))) := by
  refine fn_z (ty := ty) (ts := [.tmp 4]) [0, 1, 4, 17] mixed ty_ok Try.func18 (by kernel_rfl) rfl (by kernel_rfl) (by kernel_rfl) rfl (.inl rfl) (Nat.le_of_ble_eq_true rfl) (by simp only [entry, entryV, C.toS, Nat.zero_add, Nat.reduceAdd, List.map_cons, List.map_nil]; exact rfl) ?_
  repeat' (first
    | ((with_reducible refine z_run ?_); (conv => whnf))
    | (with_reducible apply z_t)
    | (with_reducible apply z_f)
    | ((with_reducible apply z_b); ((intro h); (try simp only [beq_self_eq_true, eq_self, not_true_eq_false, not_false_eq_true, decide_true, cond_true, cond_false, Bool.not_true, Bool.not_false, Bool.not_eq_true', Bool.not_eq_false', Bool.and_eq_true, Bool.and_eq_false_imp, Bool.or_eq_true, Bool.or_eq_false_iff, decide_eq_true_eq, decide_eq_false_iff_not, Bool.false_eq_true, reduceCtorEq, Int.not_le, Int.not_lt, Decidable.not_not] at h)); rotate_left; ((intro h); (try simp only [beq_self_eq_true, eq_self, not_true_eq_false, not_false_eq_true, decide_true, cond_true, cond_false, Bool.not_true, Bool.not_false, Bool.not_eq_true', Bool.not_eq_false', Bool.and_eq_true, Bool.and_eq_false_imp, Bool.or_eq_true, Bool.or_eq_false_iff, decide_eq_true_eq, decide_eq_false_iff_not, Bool.false_eq_true, reduceCtorEq, Int.not_le, Int.not_lt, Decidable.not_not] at h)))
    | (with_reducible refine z_r ?_ ?_)
    | (with_reducible refine z_wg ?_ ?_)
    | (with_reducible refine z_w ?_ ?_)
    | ((with_reducible apply sh_nil); (intro _))
    | ((with_reducible apply sh_int); (intro _))
    | ((with_reducible apply sh_bool); (intro _))
    | ((with_reducible apply sh_sl); (intro _))
    | ((with_reducible refine z_xf ?zc ?zx ?_); (case zc => decide +kernel); (case zx => decide +kernel))
    | (with_reducible refine z_k (specTicketsOk _ hl) ?_)
    | (with_reducible refine z_k (in_fn _ _ _) ?_)
    | (with_reducible refine z_k (specSeedAfter _ _) ?_)
    | ((with_reducible refine z_o ?zo ?_); (case zo => decide +kernel))
    | ((with_reducible refine z_x ?zx ?_); (case zx => decide +kernel))
    | ((refine z_mf (d := ?zD) (f := ?zF) (caps := ?zA) (τ := ?zT) (ps := ?zP) (cs := ?zC) ?zd ?ze ?zt ?za ?zp ?zl ?_); (case zd => exact rfl); (case ze => exact rfl); (case zt => (simp only [frzAll, frz, frzL, frzV, frzS, drp, unSs, unS, unsing, ev, Vq.look, List.map_cons, List.map_nil, List.drop_zero, List.drop_succ_cons, Nat.reduceAdd, Nat.zero_add, Option.map_some, Nat.reduceEqDiff, if_true, if_false, reduceCtorEq, ↓reduceIte]; exact rfl)); (case za => exact rfl); (case zp => exact rfl); (case zl => (simp only [unSs, unS, unsing, List.drop_zero, List.drop_succ_cons, Nat.reduceAdd, Nat.zero_add, Option.map_some, List.length_map, fillTo_zero, Int.toNat_natCast, Option.isSome_some, and_self, fixB, Nat.reduceLeDiff, false_implies, true_implies, forall_const, St.le0, St.swaps, St.ren, mapV, renO, V.ren, Sc.ren, Ob.ren, swp, slsLe, obsLe, vLe, scLe, scsLe, obLe, Vq.look, Nat.reduceEqDiff, if_true, if_false, reduceCtorEq, ↓reduceIte, true_and, and_true] <;> (and_intros <;> first | rfl | omega))))
    | fail)
  all_goals ((try simp only [Int.toNat_natCast, tn1, tp1, List.length_map, eq_self, true_and, and_true] at *); (try simp (disch := omega) only [wr, Int.toNat_natCast, tn1, tp1, List.length_map, eq_self, true_and, and_true] at *))
  · refine z_e rfl ?_; simp only [fin, finP, finM, ids, nodupB, tupP, tupM, memN, List.length_cons, List.length_nil, List.nil_append, List.append_nil, List.cons_append, Nat.zero_add, Nat.reduceAdd, ne_eq, not_false_eq_true, eq_self, ev, Vq.look, List.map_cons, List.map_nil, and_true, true_and, Nat.reduceEqDiff, if_true, if_false, reduceCtorEq, ↓reduceIte]
    rename_i h1 h2
    have hb := iter_bd 1 s h2
    rw [winnerR, if_pos ⟨h1, by omega, h2⟩, seed1 h2, rem_pos hb.1]
  · exact h
  all_goals (refine z_e rfl ?_; simp only [fin, finP, finM, ids, nodupB, tupP, tupM, memN, List.length_cons, List.length_nil, List.nil_append, List.append_nil, List.cons_append, Nat.zero_add, Nat.reduceAdd, ne_eq, not_false_eq_true, eq_self, ev, Vq.look, List.map_cons, List.map_nil, and_true, true_and, Nat.reduceEqDiff, if_true, if_false, reduceCtorEq, ↓reduceIte]; rw [winnerR, if_neg]; intro hq; first | omega | exact absurd hq.1 h)
end Go.Proofs.Ythdaggpmmaaidaa
