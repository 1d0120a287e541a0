/- The statement Rows.FnRafflesSaid: for every text of bytes, the law FnRaffles returns true and leaves its argument as it was. No conditions. -/
import Derived.Test.YthdaggpmmaaidaaRafP
namespace Go.Proofs.Ythdaggpmmaaidaa.fnRaffles
open Go.Vq
set_option linter.unusedSimpArgs false
set_option maxHeartbeats 1000000
theorem body (l : List Int) (hl : l.length ≤ 1048576) (hb : bytes l) (L : List Tk) (hL : TkOk L) (hL5 : ∀ i, i < L.length → 1 ≤ (L.getD i default).2 ∧ (L.getD i default).2 ≤ 5) (hd : FnC Try.prog 21 [(false, [.sq dU (l.map eU)])] (.one (.own 40 dTicket (L.map eTicket)))) : FnC Try.prog 7 [(false, [.sq dU (l.map eU)])] (.one (.bool true)) := by
  have hL60 := hL.1
  have b0 := atV_bd hb 0
  have b1 := atV_bd hb 1
  have b2 := atV_bd hb 2
  have w1 : IntKind.i64.wrap (atV l 0 * 256) = atV l 0 * 256 := wr ⟨by omega, by omega⟩
  have w2 : IntKind.i64.wrap (atV l 0 * 256 + atV l 1) = atV l 0 * 256 + atV l 1 := wr ⟨by omega, by omega⟩
  have hS : 0 ≤ atV l 0 * 256 + atV l 1 ∧ atV l 0 * 256 + atV l 1 ≤ 65536 := by omega
  generalize hs : atV l 0 * 256 + atV l 1 = s at *
  have hwin : winR L s L.length = outL s L L.length := by rw [winR, if_pos ⟨hL, hS, by omega, by omega⟩, Int.toNat_natCast]
  have hwl : (winR L s L.length).length = L.length := by rw [hwin, outL_len]
  have hi0 : L.length = 0 → winnerR L s = -1 := fun h => by rw [winnerR, if_neg (fun hh => hh.2.1 h)]
  have hi1 : 0 < L.length → winnerR L s = (atN s 0 L : Int) ∧ atN s 0 L < L.length := fun h => by
    have ha := atN_lt (s := s) (k := 0) h
    rw [winnerR, if_pos ⟨hL, by omega, hS⟩]; exact ⟨ha.2, ha.1⟩
  have hb1 : (decide (winnerR L s < 0) == decide ((L.length : Int) = 0)) = true := by
    by_cases h0 : L.length = 0
    · rw [hi0 h0, h0]; decide
    · have := hi1 (by omega)
      rw [decide_eq_false (by omega), decide_eq_false (by omega)]; rfl
  have hfst : 0 < L.length → (winR L s L.length).getD 0 default = (L.getD (winnerR L s).toNat default).1 := fun h => by
    rw [hwin, out_first h, (hi1 h).1, Int.toNat_natCast]
  have hall : ∀ k : Nat, k < L.length → (L.getD k default).1 ∈ winR L s L.length := fun k hk => by rw [hwin]; exact out_all s L hk
  obtain ⟨M, hM, hM1, hM2⟩ : ∃ M : Nat, (if 2 < (L.length : Int) then 2 else (L.length : Int)) = M ∧ M ≤ L.length ∧ M ≤ 2 := ⟨(if 2 < (L.length : Int) then 2 else (L.length : Int)).toNat, by split <;> omega, by split <;> omega, by split <;> omega⟩
  have hol := outL_len s L M
  have hpre : ∀ j : Nat, j < M → (outL s L M).getD j default = (winR L s L.length).getD j default := fun j hj => by
    rw [hwin, out_get s L j _ hj, out_get s L j L.length (by omega)]
  have cF : FnC Try.prog 23 [(false, [.sq dTicket (L.map eTicket)]), (false, [.int .i64 s]), (false, [.int .i64 (if 2 < (L.length : Int) then 2 else (L.length : Int))])] (.one (.own 3 dI ((outL s L M).map eI))) := by
    have := implWinnersOf L (by omega) s (if 2 < (L.length : Int) then 2 else (L.length : Int))
    have e : winR L s (if 2 < (L.length : Int) then 2 else (L.length : Int)) = outL s L M := by rw [hM, winR, if_pos ⟨hL, hS, by omega, by omega⟩, Int.toNat_natCast]
    rwa [e] at this
  have hK : 0 ≤ (atV l 2).tmod 40 ∧ (atV l 2).tmod 40 ≤ 39 := by rw [Int.tmod_eq_emod_of_nonneg b2.1]; omega
  have sK := iter_bd ((atV l 2).tmod 40).toNat s hS
  have eK : seedR s ((atV l 2).tmod 40) = iter ((atV l 2).tmod 40).toNat s := by rw [seedR, if_pos ⟨hS, by omega, by omega⟩]
  have cK0 : FnC Try.prog 10 [(false, [.int .i64 s]), (false, [.int .i64 0])] (.one (.int .i64 s)) := by
    have := implSeedAfter s 0
    rwa [seedR, if_pos ⟨hS, by omega, by omega⟩, show iter (0 : Int).toNat s = s from rfl] at this
  have cK9 : FnC Try.prog 10 [(false, [.int .i64 1]), (false, [.int .i64 1])] (.one (.int .i64 149)) := by
    have := implSeedAfter 1 1
    rwa [show seedR 1 1 = 149 by decide] at this
  have cK1 : FnC Try.prog 10 [(false, [.int .i64 (seedR s ((atV l 2).tmod 40))]), (false, [.int .i64 1])] (.one (.int .i64 (iter (((atV l 2).tmod 40).toNat + 1) s))) := by
    have := implSeedAfter (seedR s ((atV l 2).tmod 40)) 1
    rw [eK, seed1 sK] at this
    rw [eK]; exact this
  have cK : ∀ v : Int, v = (atV l 2).tmod 40 + 1 → FnC Try.prog 10 [(false, [.int .i64 s]), (false, [.int .i64 v])] (.one (.int .i64 (iter (((atV l 2).tmod 40).toNat + 1) s))) := by
    rintro _ rfl
    have := implSeedAfter s ((atV l 2).tmod 40 + 1)
    rwa [seedR, if_pos ⟨hS, by omega, by omega⟩, show ((atV l 2).tmod 40 + 1).toNat = ((atV l 2).tmod 40).toNat + 1 by omega] at this
  have cTk : FnC Try.prog 14 [(false, [.sq dTicket (L.map eTicket)])] (.one (.bool true)) := by
    have := implTicketsOk L (by omega)
    rwa [decide_eq_true hL] at this
  have h5 := own5_all L hL5
  refine fn_z (ty := ty) (ts := [.tmp 2]) [0, 2, 3, 4, 5, 6, 7, 8, 9, 10, 11, 12, 13, 14, 16, 49, 62, 65, 75, 77, 100, 104, 115] mixed ty_ok Try.func7 (by kernel_rfl) rfl (by kernel_rfl) (by kernel_rfl) rfl (.inl rfl) (Nat.le_of_ble_eq_true rfl) (by simp only [entry, entryV, C.toS, Nat.zero_add, Nat.reduceAdd, List.map_cons, List.map_nil]; exact rfl) ?_
  repeat' (first
    | ((with_reducible refine z_run ?_); (conv => whnf))
    | (with_reducible apply z_t)
    | (with_reducible apply z_f)
    | ((with_reducible apply z_b); ((intro h); (try simp only [beq_self_eq_true, eq_self, not_true_eq_false, not_false_eq_true, decide_true, cond_true, cond_false, Bool.not_true, Bool.not_false, Bool.not_eq_true', Bool.not_eq_false', Bool.and_eq_true, Bool.and_eq_false_imp, Bool.or_eq_true, Bool.or_eq_false_iff, decide_eq_true_eq, decide_eq_false_iff_not, Bool.false_eq_true, reduceCtorEq, Int.not_le, Int.not_lt, Decidable.not_not] at h)); rotate_left; ((intro h); (try simp only [beq_self_eq_true, eq_self, not_true_eq_false, not_false_eq_true, decide_true, cond_true, cond_false, Bool.not_true, Bool.not_false, Bool.not_eq_true', Bool.not_eq_false', Bool.and_eq_true, Bool.and_eq_false_imp, Bool.or_eq_true, Bool.or_eq_false_iff, decide_eq_true_eq, decide_eq_false_iff_not, Bool.false_eq_true, reduceCtorEq, Int.not_le, Int.not_lt, Decidable.not_not] at h)))
    | (with_reducible refine z_r ?_ ?_)
    | (with_reducible refine z_wg ?_ ?_)
    | (with_reducible refine z_w ?_ ?_)
    | ((with_reducible apply sh_nil); (intro _))
    | ((with_reducible apply sh_int); (intro _))
    | ((with_reducible apply sh_bool); (intro _))
    | ((with_reducible apply sh_sl); (intro _))
    | ((with_reducible refine z_xf ?zc ?zx ?_); (case zc => decide +kernel); (case zx => decide +kernel))
    | (with_reducible refine z_k (big_fn l hl) ?_)
    | (with_reducible refine z_k hd ?_)
    | (with_reducible refine z_k (at_fn l hl hb _ (by omega)) ?_)
    | (with_reducible refine z_k (implWinnersOf _ (by omega) _ _) ?_)
    | (with_reducible refine z_k (implWinnerOf _ (by omega) _) ?_)
    | ((with_reducible refine z_o ?zo ?_); (case zo => decide +kernel))
    | ((with_reducible refine z_x ?zx ?_); (case zx => decide +kernel))
    | ((refine z_mf (d := ?zD) (f := ?zF) (caps := ?zA) (τ := ?zT) (ps := ?zP) (cs := ?zC) ?zd ?ze ?zt ?za ?zp ?zl ?_); (case zd => exact rfl); (case ze => exact rfl); (case zt => (simp only [frzAll, frz, frzL, frzV, frzS, drp, unSs, unS, unsing, ev, Vq.look, List.map_cons, List.map_nil, List.drop_zero, List.drop_succ_cons, Nat.reduceAdd, Nat.zero_add, Option.map_some, Nat.reduceEqDiff, if_true, if_false, reduceCtorEq, ↓reduceIte]; exact rfl)); (case za => exact rfl); (case zp => exact rfl); (case zl => (simp only [unSs, unS, unsing, List.drop_zero, List.drop_succ_cons, Nat.reduceAdd, Nat.zero_add, Option.map_some, List.length_map, fillTo_zero, Int.toNat_natCast, Option.isSome_some, and_self, fixB, Nat.reduceLeDiff, false_implies, true_implies, forall_const, St.le0, St.swaps, St.ren, mapV, renO, V.ren, Sc.ren, Ob.ren, swp, slsLe, obsLe, vLe, scLe, scsLe, obLe, Vq.look, Nat.reduceEqDiff, if_true, if_false, reduceCtorEq, ↓reduceIte, true_and, and_true] <;> (and_intros <;> first | rfl | omega))))
    | fail)
  all_goals ((try simp only [Int.toNat_natCast, tn1, tp1, List.length_map, eq_self, true_and, and_true] at *); (try simp (disch := omega) only [wr, Int.toNat_natCast, tn1, tp1, List.length_map, eq_self, true_and, and_true] at *))
  all_goals (try simp only [w1, w2, hs] at *)
  all_goals (first
    | omega
    | contradiction
    | (exfalso; have := hi1 (by omega); omega)
    | (exfalso; have := hi0 (by omega); omega)
    | (have := hi1 (by omega); omega)
    | (exfalso; exact h (hfst (by omega)))
    | (exfalso; rw [hb1] at h; cases h)
    | skip)
  all_goals (refine z_li (fun k : Nat => k ≤ L.length) (0 : Nat) (fun k => L.length - k) (fun k => ⟨[(0, .one (.ro dU (l.map eU))), (3, .one (.root 18)), (4, .one (.int .i64 s)), (5, .one (.int .i64 L.length)), (6, .one (.root 30)), (8, .one (.int .i64 0)), (9, .one (.int .i64 k))], [(30, .row 3 dI ((winR L s L.length).map eI)), (18, .row 40 dTicket (L.map eTicket))]⟩) (by omega) ?_ ?_)
  all_goals (first | (simp only [List.length_map, fillTo_zero, Int.toNat_natCast, Option.isSome_some, and_self, fixB, Nat.reduceLeDiff, false_implies, true_implies, forall_const, St.le0, St.swaps, St.ren, mapV, renO, V.ren, Sc.ren, Ob.ren, swp, slsLe, obsLe, vLe, scLe, scsLe, obLe, Vq.look, Nat.reduceEqDiff, if_true, if_false, reduceCtorEq, ↓reduceIte, true_and, and_true] <;> (and_intros <;> first | rfl | omega | assumption); done) | skip)
  all_goals
    intro k hk
    have hk2 := hall k
    repeat' (first
    | ((with_reducible refine z_run ?_); (conv => whnf))
    | (with_reducible apply z_t)
    | (with_reducible apply z_f)
    | ((with_reducible apply z_b); ((intro h); (try simp only [beq_self_eq_true, eq_self, not_true_eq_false, not_false_eq_true, decide_true, cond_true, cond_false, Bool.not_true, Bool.not_false, Bool.not_eq_true', Bool.not_eq_false', Bool.and_eq_true, Bool.and_eq_false_imp, Bool.or_eq_true, Bool.or_eq_false_iff, decide_eq_true_eq, decide_eq_false_iff_not, Bool.false_eq_true, reduceCtorEq, Int.not_le, Int.not_lt, Decidable.not_not] at h)); rotate_left; ((intro h); (try simp only [beq_self_eq_true, eq_self, not_true_eq_false, not_false_eq_true, decide_true, cond_true, cond_false, Bool.not_true, Bool.not_false, Bool.not_eq_true', Bool.not_eq_false', Bool.and_eq_true, Bool.and_eq_false_imp, Bool.or_eq_true, Bool.or_eq_false_iff, decide_eq_true_eq, decide_eq_false_iff_not, Bool.false_eq_true, reduceCtorEq, Int.not_le, Int.not_lt, Decidable.not_not] at h)))
    | (with_reducible refine z_r ?_ ?_)
    | (with_reducible refine z_wg ?_ ?_)
    | (with_reducible refine z_w ?_ ?_)
    | ((with_reducible apply sh_nil); (intro _))
    | ((with_reducible apply sh_int); (intro _))
    | ((with_reducible apply sh_bool); (intro _))
    | ((with_reducible apply sh_sl); (intro _))
    | ((with_reducible refine z_xf ?zc ?zx ?_); (case zc => decide +kernel); (case zx => decide +kernel))
    | (with_reducible refine z_k (has_fn _ _ (by omega)) ?_)
    | ((with_reducible refine z_o ?zo ?_); (case zo => decide +kernel))
    | ((with_reducible refine z_x ?zx ?_); (case zx => decide +kernel))
    | ((refine z_mf (d := ?zD) (f := ?zF) (caps := ?zA) (τ := ?zT) (ps := ?zP) (cs := ?zC) ?zd ?ze ?zt ?za ?zp ?zl ?_); (case zd => exact rfl); (case ze => exact rfl); (case zt => (simp only [frzAll, frz, frzL, frzV, frzS, drp, unSs, unS, unsing, ev, Vq.look, List.map_cons, List.map_nil, List.drop_zero, List.drop_succ_cons, Nat.reduceAdd, Nat.zero_add, Option.map_some, Nat.reduceEqDiff, if_true, if_false, reduceCtorEq, ↓reduceIte]; exact rfl)); (case za => exact rfl); (case zp => exact rfl); (case zl => (simp only [unSs, unS, unsing, List.drop_zero, List.drop_succ_cons, Nat.reduceAdd, Nat.zero_add, Option.map_some, List.length_map, fillTo_zero, Int.toNat_natCast, Option.isSome_some, and_self, fixB, Nat.reduceLeDiff, false_implies, true_implies, forall_const, St.le0, St.swaps, St.ren, mapV, renO, V.ren, Sc.ren, Ob.ren, swp, slsLe, obsLe, vLe, scLe, scsLe, obLe, Vq.look, Nat.reduceEqDiff, if_true, if_false, reduceCtorEq, ↓reduceIte, true_and, and_true] <;> (and_intros <;> first | rfl | omega))))
    | fail)
    all_goals ((try simp only [Int.toNat_natCast, tn1, tp1, List.length_map, eq_self, true_and, and_true] at *); (try simp (disch := omega) only [wr, Int.toNat_natCast, tn1, tp1, List.length_map, eq_self, true_and, and_true] at *))
    all_goals (first
      | omega
      | (exfalso; exact h (hk2 (by omega)))
      | (refine z_n (k + 1) ⟨by omega, by omega⟩ ?_; simp only [List.length_map, fillTo_zero, Int.toNat_natCast, Option.isSome_some, and_self, fixB, Nat.reduceLeDiff, false_implies, true_implies, forall_const, St.le0, St.swaps, St.ren, mapV, renO, V.ren, Sc.ren, Ob.ren, swp, slsLe, obsLe, vLe, scLe, scsLe, obLe, Vq.look, Nat.reduceEqDiff, if_true, if_false, reduceCtorEq, ↓reduceIte, true_and, and_true] <;> (and_intros <;> first | rfl | omega | assumption); done)
      | skip)
  all_goals (refine z_li (fun k : Nat => k ≤ 5) (0 : Nat) (fun k => 5 - k) (fun k => ⟨[(0, .one (.ro dU (l.map eU))), (3, .one (.root 18)), (4, .one (.int .i64 s)), (5, .one (.int .i64 L.length)), (6, .one (.root 30)), (8, .one (.int .i64 (own5 L k))), (10, .one (.int .i64 (k + 1)))], [(30, .row 3 dI ((winR L s L.length).map eI)), (18, .row 40 dTicket (L.map eTicket))]⟩) (by omega) ?_ ?_)
  all_goals (first | (simp only [List.length_map, fillTo_zero, Int.toNat_natCast, Option.isSome_some, and_self, fixB, Nat.reduceLeDiff, false_implies, true_implies, forall_const, St.le0, St.swaps, St.ren, mapV, renO, V.ren, Sc.ren, Ob.ren, swp, slsLe, obsLe, vLe, scLe, scsLe, obLe, Vq.look, Nat.reduceEqDiff, if_true, if_false, reduceCtorEq, ↓reduceIte, true_and, and_true] <;> (and_intros <;> first | rfl | omega | assumption); done) | skip)
  all_goals
    clear h
    intro k hk
    have ho5 := own5_bd L k
    have ho6 : (k : Int) * L.length ≤ 5 * 60 := Int.mul_le_mul (by omega) (by omega) (by omega) (by omega)
    have hcn := cntT_bd ((k : Int) + 1) L
    have hcr : chancesR L ((k : Int) + 1) = cntT ((k : Int) + 1) L := by rw [chancesR, if_pos hL]
    repeat' (first
    | ((with_reducible refine z_run ?_); (conv => whnf))
    | (with_reducible apply z_t)
    | (with_reducible apply z_f)
    | ((with_reducible apply z_b); ((intro h); (try simp only [beq_self_eq_true, eq_self, not_true_eq_false, not_false_eq_true, decide_true, cond_true, cond_false, Bool.not_true, Bool.not_false, Bool.not_eq_true', Bool.not_eq_false', Bool.and_eq_true, Bool.and_eq_false_imp, Bool.or_eq_true, Bool.or_eq_false_iff, decide_eq_true_eq, decide_eq_false_iff_not, Bool.false_eq_true, reduceCtorEq, Int.not_le, Int.not_lt, Decidable.not_not] at h)); rotate_left; ((intro h); (try simp only [beq_self_eq_true, eq_self, not_true_eq_false, not_false_eq_true, decide_true, cond_true, cond_false, Bool.not_true, Bool.not_false, Bool.not_eq_true', Bool.not_eq_false', Bool.and_eq_true, Bool.and_eq_false_imp, Bool.or_eq_true, Bool.or_eq_false_iff, decide_eq_true_eq, decide_eq_false_iff_not, Bool.false_eq_true, reduceCtorEq, Int.not_le, Int.not_lt, Decidable.not_not] at h)))
    | (with_reducible refine z_r ?_ ?_)
    | (with_reducible refine z_wg ?_ ?_)
    | (with_reducible refine z_w ?_ ?_)
    | ((with_reducible apply sh_nil); (intro _))
    | ((with_reducible apply sh_int); (intro _))
    | ((with_reducible apply sh_bool); (intro _))
    | ((with_reducible apply sh_sl); (intro _))
    | ((with_reducible refine z_xf ?zc ?zx ?_); (case zc => decide +kernel); (case zx => decide +kernel))
    | (with_reducible refine z_k (implChancesOf _ (by omega) _) ?_)
    | (with_reducible refine z_k (at_fn l hl hb _ (by omega)) ?_)
    | (with_reducible refine z_k (implSeedAfter _ _) ?_)
    | (with_reducible refine z_k cF ?_)
    | ((with_reducible refine z_o ?zo ?_); (case zo => decide +kernel))
    | ((with_reducible refine z_x ?zx ?_); (case zx => decide +kernel))
    | ((refine z_mf (d := ?zD) (f := ?zF) (caps := ?zA) (τ := ?zT) (ps := ?zP) (cs := ?zC) ?zd ?ze ?zt ?za ?zp ?zl ?_); (case zd => exact rfl); (case ze => exact rfl); (case zt => (simp only [frzAll, frz, frzL, frzV, frzS, drp, unSs, unS, unsing, ev, Vq.look, List.map_cons, List.map_nil, List.drop_zero, List.drop_succ_cons, Nat.reduceAdd, Nat.zero_add, Option.map_some, Nat.reduceEqDiff, if_true, if_false, reduceCtorEq, ↓reduceIte]; exact rfl)); (case za => exact rfl); (case zp => exact rfl); (case zl => (simp only [unSs, unS, unsing, List.drop_zero, List.drop_succ_cons, Nat.reduceAdd, Nat.zero_add, Option.map_some, List.length_map, fillTo_zero, Int.toNat_natCast, Option.isSome_some, and_self, fixB, Nat.reduceLeDiff, false_implies, true_implies, forall_const, St.le0, St.swaps, St.ren, mapV, renO, V.ren, Sc.ren, Ob.ren, swp, slsLe, obsLe, vLe, scLe, scsLe, obLe, Vq.look, Nat.reduceEqDiff, if_true, if_false, reduceCtorEq, ↓reduceIte, true_and, and_true] <;> (and_intros <;> first | rfl | omega))))
    | fail)
    all_goals ((try simp only [Int.toNat_natCast, tn1, tp1, List.length_map, eq_self, true_and, and_true] at *); (try simp (disch := omega) only [wr, Int.toNat_natCast, tn1, tp1, List.length_map, eq_self, true_and, and_true] at *))
    all_goals (try rw [hcr] at *)
    all_goals ((try simp only [Int.toNat_natCast, tn1, tp1, List.length_map, eq_self, true_and, and_true] at *); (try simp (disch := omega) only [wr, Int.toNat_natCast, tn1, tp1, List.length_map, eq_self, true_and, and_true] at *))
    all_goals (first
      | omega
      | (refine z_n (k + 1) ⟨by omega, by omega⟩ ?_; rw [own5]; simp only [List.length_map, fillTo_zero, Int.toNat_natCast, Option.isSome_some, and_self, fixB, Nat.reduceLeDiff, false_implies, true_implies, forall_const, St.le0, St.swaps, St.ren, mapV, renO, V.ren, Sc.ren, Ob.ren, swp, slsLe, obsLe, vLe, scLe, scsLe, obLe, Vq.look, Nat.reduceEqDiff, if_true, if_false, reduceCtorEq, ↓reduceIte, true_and, and_true] <;> (and_intros <;> first | rfl | omega | assumption); done)
      | skip)
  all_goals (first
    | omega
    | (exfalso; rw [hol, hwl] at h; omega)
    | skip)
  all_goals (refine z_li (fun j : Nat => j ≤ M) (0 : Nat) (fun j => M - j) (fun j => ⟨[(3, .one (.root 18)), (4, .one (.int .i64 s)), (5, .one (.int .i64 L.length)), (6, .one (.root 30)), (8, .one (.int .i64 (own5 L k))), (11, .one (.int .i64 ((atV l 2).tmod 40))), (12, .one (.int .i64 (seedR s ((atV l 2).tmod 40)))), (13, .one (.root 95)), (14, .one (.int .i64 j))], [(95, .row 3 dI ((outL s L M).map eI)), (30, .row 3 dI ((winR L s L.length).map eI)), (18, .row 40 dTicket (L.map eTicket))]⟩) (by omega) ?_ ?_)
  all_goals (first | (simp only [List.length_map, fillTo_zero, Int.toNat_natCast, Option.isSome_some, and_self, fixB, Nat.reduceLeDiff, false_implies, true_implies, forall_const, St.le0, St.swaps, St.ren, mapV, renO, V.ren, Sc.ren, Ob.ren, swp, slsLe, obsLe, vLe, scLe, scsLe, obLe, Vq.look, Nat.reduceEqDiff, if_true, if_false, reduceCtorEq, ↓reduceIte, true_and, and_true] <;> (and_intros <;> first | rfl | omega | assumption); done) | skip)
  all_goals
    clear h
    have hk5 : own5 L k = L.length := by rw [show k = 5 by omega]; exact h5
    intro j hj
    have hjp := hpre j
    repeat' (first
    | ((with_reducible refine z_run ?_); (conv => whnf))
    | (with_reducible apply z_t)
    | (with_reducible apply z_f)
    | ((with_reducible apply z_b); ((intro h); (try simp only [beq_self_eq_true, eq_self, not_true_eq_false, not_false_eq_true, decide_true, cond_true, cond_false, Bool.not_true, Bool.not_false, Bool.not_eq_true', Bool.not_eq_false', Bool.and_eq_true, Bool.and_eq_false_imp, Bool.or_eq_true, Bool.or_eq_false_iff, decide_eq_true_eq, decide_eq_false_iff_not, Bool.false_eq_true, reduceCtorEq, Int.not_le, Int.not_lt, Decidable.not_not] at h)); rotate_left; ((intro h); (try simp only [beq_self_eq_true, eq_self, not_true_eq_false, not_false_eq_true, decide_true, cond_true, cond_false, Bool.not_true, Bool.not_false, Bool.not_eq_true', Bool.not_eq_false', Bool.and_eq_true, Bool.and_eq_false_imp, Bool.or_eq_true, Bool.or_eq_false_iff, decide_eq_true_eq, decide_eq_false_iff_not, Bool.false_eq_true, reduceCtorEq, Int.not_le, Int.not_lt, Decidable.not_not] at h)))
    | (with_reducible refine z_r ?_ ?_)
    | (with_reducible refine z_wg ?_ ?_)
    | (with_reducible refine z_w ?_ ?_)
    | ((with_reducible apply sh_nil); (intro _))
    | ((with_reducible apply sh_int); (intro _))
    | ((with_reducible apply sh_bool); (intro _))
    | ((with_reducible apply sh_sl); (intro _))
    | ((with_reducible refine z_xf ?zc ?zx ?_); (case zc => decide +kernel); (case zx => decide +kernel))
    | (with_reducible refine z_k (cK _ (wr ⟨by omega, by omega⟩)) ?_)
    | (with_reducible refine z_k cK1 ?_)
    | (with_reducible refine z_k cK0 ?_)
    | (with_reducible refine z_k cK9 ?_)
    | (with_reducible refine z_k cTk ?_)
    | ((with_reducible refine z_o ?zo ?_); (case zo => decide +kernel))
    | ((with_reducible refine z_x ?zx ?_); (case zx => decide +kernel))
    | ((refine z_mf (d := ?zD) (f := ?zF) (caps := ?zA) (τ := ?zT) (ps := ?zP) (cs := ?zC) ?zd ?ze ?zt ?za ?zp ?zl ?_); (case zd => exact rfl); (case ze => exact rfl); (case zt => (simp only [frzAll, frz, frzL, frzV, frzS, drp, unSs, unS, unsing, ev, Vq.look, List.map_cons, List.map_nil, List.drop_zero, List.drop_succ_cons, Nat.reduceAdd, Nat.zero_add, Option.map_some, Nat.reduceEqDiff, if_true, if_false, reduceCtorEq, ↓reduceIte]; exact rfl)); (case za => exact rfl); (case zp => exact rfl); (case zl => (simp only [unSs, unS, unsing, List.drop_zero, List.drop_succ_cons, Nat.reduceAdd, Nat.zero_add, Option.map_some, List.length_map, fillTo_zero, Int.toNat_natCast, Option.isSome_some, and_self, fixB, Nat.reduceLeDiff, false_implies, true_implies, forall_const, St.le0, St.swaps, St.ren, mapV, renO, V.ren, Sc.ren, Ob.ren, swp, slsLe, obsLe, vLe, scLe, scsLe, obLe, Vq.look, Nat.reduceEqDiff, if_true, if_false, reduceCtorEq, ↓reduceIte, true_and, and_true] <;> (and_intros <;> first | rfl | omega))))
    | fail)
    all_goals ((try simp only [Int.toNat_natCast, tn1, tp1, List.length_map, eq_self, true_and, and_true] at *); (try simp (disch := omega) only [wr, Int.toNat_natCast, tn1, tp1, List.length_map, eq_self, true_and, and_true] at *))
    all_goals (first
      | omega
      | contradiction
      | (exfalso; exact h (hjp (by omega)))
      | (refine z_n (j + 1) ⟨by omega, by omega⟩ ?_; simp only [List.length_map, fillTo_zero, Int.toNat_natCast, Option.isSome_some, and_self, fixB, Nat.reduceLeDiff, false_implies, true_implies, forall_const, St.le0, St.swaps, St.ren, mapV, renO, V.ren, Sc.ren, Ob.ren, swp, slsLe, obsLe, vLe, scLe, scsLe, obLe, Vq.look, Nat.reduceEqDiff, if_true, if_false, reduceCtorEq, ↓reduceIte, true_and, and_true] <;> (and_intros <;> first | rfl | omega | assumption); done)
      | (refine z_e rfl ?_; simp only [fin, finP, finM, ids, nodupB, tupP, tupM, memN, List.length_cons, List.length_nil, List.nil_append, List.append_nil, List.cons_append, Nat.zero_add, Nat.reduceAdd, ne_eq, not_false_eq_true, eq_self, ev, Vq.look, List.map_cons, List.map_nil, and_true, true_and, Nat.reduceEqDiff, if_true, if_false, reduceCtorEq, ↓reduceIte]; simp only [cond_true, decide_true]; done)
      | skip)
  all_goals (trace_state; fail)
theorem law : LawFn Try.prog 7 [(false, [.sl dU])] := by
  intro caps hk hok
  obtain ⟨cs0, q0, rfl, e0, hk0⟩ := caps_cons hk
  obtain rfl := caps_nil hk0
  obtain ⟨c0_0, r0_0, rfl, f0_0, g0_0⟩ := kds_cons e0
  obtain rfl := kds_nil g0_0
  have ok0_0 := hok _ (List.getElem_mem (n := 0) (by simp)) _ (List.getElem_mem (n := 0) (by simp))
  simp only [List.getElem_cons_zero, List.getElem_cons_succ] at ok0_0
  obtain ⟨rows0_0, rfl⟩ := kd_sl f0_0
  obtain ⟨l, rfl⟩ := rows_map (e := eU) rowU ok0_0.rows.1
  have wl := ok0_0.len
  rw [List.length_map] at wl
  have hb := bytes_of ok0_0
  by_cases hl : l.length ≤ 1048576
  · obtain ⟨h1, h2, h3⟩ := drawTk_ok l (curZ l)
    exact body l hl hb (drawTk l (curZ l)) h1 h3 (draw_fn l hl)
  · refine fn_z (ty := ty) (ts := [.tmp 2]) [0, 2, 3, 4, 5, 6, 7, 8, 9, 10, 11, 12, 13, 14, 16, 49, 62, 65, 75, 77, 100, 104, 115] mixed ty_ok Try.func7 (by kernel_rfl) rfl (by kernel_rfl) (by kernel_rfl) rfl (.inl rfl) (Nat.le_of_ble_eq_true rfl) (by simp only [entry, entryV, C.toS, Nat.zero_add, Nat.reduceAdd, List.map_cons, List.map_nil]; exact rfl) ?_
    repeat' (first
    | ((with_reducible refine z_run ?_); (conv => whnf))
    | (with_reducible apply z_t)
    | (with_reducible apply z_f)
    | ((with_reducible apply z_b); ((intro h); (try simp only [beq_self_eq_true, eq_self, not_true_eq_false, not_false_eq_true, decide_true, cond_true, cond_false, Bool.not_true, Bool.not_false, Bool.not_eq_true', Bool.not_eq_false', Bool.and_eq_true, Bool.and_eq_false_imp, Bool.or_eq_true, Bool.or_eq_false_iff, decide_eq_true_eq, decide_eq_false_iff_not, Bool.false_eq_true, reduceCtorEq, Int.not_le, Int.not_lt, Decidable.not_not] at h)); rotate_left; ((intro h); (try simp only [beq_self_eq_true, eq_self, not_true_eq_false, not_false_eq_true, decide_true, cond_true, cond_false, Bool.not_true, Bool.not_false, Bool.not_eq_true', Bool.not_eq_false', Bool.and_eq_true, Bool.and_eq_false_imp, Bool.or_eq_true, Bool.or_eq_false_iff, decide_eq_true_eq, decide_eq_false_iff_not, Bool.false_eq_true, reduceCtorEq, Int.not_le, Int.not_lt, Decidable.not_not] at h)))
    | (with_reducible refine z_r ?_ ?_)
    | (with_reducible refine z_wg ?_ ?_)
    | (with_reducible refine z_w ?_ ?_)
    | ((with_reducible apply sh_nil); (intro _))
    | ((with_reducible apply sh_int); (intro _))
    | ((with_reducible apply sh_bool); (intro _))
    | ((with_reducible apply sh_sl); (intro _))
    | ((with_reducible refine z_xf ?zc ?zx ?_); (case zc => decide +kernel); (case zx => decide +kernel))
    | (with_reducible refine z_k (big_no l hl) ?_)
    | ((with_reducible refine z_o ?zo ?_); (case zo => decide +kernel))
    | ((with_reducible refine z_x ?zx ?_); (case zx => decide +kernel))
    | ((refine z_mf (d := ?zD) (f := ?zF) (caps := ?zA) (τ := ?zT) (ps := ?zP) (cs := ?zC) ?zd ?ze ?zt ?za ?zp ?zl ?_); (case zd => exact rfl); (case ze => exact rfl); (case zt => (simp only [frzAll, frz, frzL, frzV, frzS, drp, unSs, unS, unsing, ev, Vq.look, List.map_cons, List.map_nil, List.drop_zero, List.drop_succ_cons, Nat.reduceAdd, Nat.zero_add, Option.map_some, Nat.reduceEqDiff, if_true, if_false, reduceCtorEq, ↓reduceIte]; exact rfl)); (case za => exact rfl); (case zp => exact rfl); (case zl => (simp only [unSs, unS, unsing, List.drop_zero, List.drop_succ_cons, Nat.reduceAdd, Nat.zero_add, Option.map_some, List.length_map, fillTo_zero, Int.toNat_natCast, Option.isSome_some, and_self, fixB, Nat.reduceLeDiff, false_implies, true_implies, forall_const, St.le0, St.swaps, St.ren, mapV, renO, V.ren, Sc.ren, Ob.ren, swp, slsLe, obsLe, vLe, scLe, scsLe, obLe, Vq.look, Nat.reduceEqDiff, if_true, if_false, reduceCtorEq, ↓reduceIte, true_and, and_true] <;> (and_intros <;> first | rfl | omega))))
    | fail)
    all_goals (first | omega | refine z_e rfl ?_; simp only [fin, finP, finM, ids, nodupB, tupP, tupM, memN, List.length_cons, List.length_nil, List.nil_append, List.append_nil, List.cons_append, Nat.zero_add, Nat.reduceAdd, ne_eq, not_false_eq_true, eq_self, ev, Vq.look, List.map_cons, List.map_nil, and_true, true_and, Nat.reduceEqDiff, if_true, if_false, reduceCtorEq, ↓reduceIte])
set_option maxRecDepth 100000 in
theorem lifted (os : Os) (started : os.Started) (H : Type) (enc : TypeId × Value → H) :
    ReturnsInHanded {} Try.checked os 7 .any (Rows.fnRafflesSpec.pre6 enc Try.prog Try.f7 Rows.fnRafflesRow.domain false) (Rows.fnRafflesSpec.post enc Try.prog Try.f7 false true false false) :=
  law_lift 9 [(false, [.sl [.int .u8]])] (by kernel_rfl) started (by kernel_rfl) Try.func7
    (ChangeSpec.witness6 (enc := enc) (C := Try.checked) false ⟨#[], #[.slice none 0 0], []⟩ 8 (by kernel_rfl) (by kernel_rfl) (by kernel_rfl) (by kernel_rfl))
    rfl (by kernel_rfl) (show Try.checked.prog.underlying 4 = some .bool by kernel_rfl) (by intro ds h; obtain ⟨d0, rfl⟩ := len1 (h.trans (show Try.f7.params.size = 1 by kernel_rfl)); rfl) (by kernel_rfl) (by kernel_rfl) (by kernel_rfl) (by kernel_rfl) (by kernel_rfl) law
theorem over : Rows.fnRafflesRow.holds Try.pinned (OpenSpec.ofChange Rows.fnRafflesSpec) :=
  OpenClaim.holds_of_wide 7 Try.f7 rfl rfl rfl rfl rfl rfl rfl ⟨rfl, rfl, rfl, rfl, rfl⟩ rfl rfl rfl rfl rfl (by kernel_rfl) Try.func7 (by kernel_rfl)
    (of_decide_eq_true (by kernel_rfl)) (by unfold Func.isWrapper; first | (rw [if_pos (by decide +kernel)]; kernel_rfl) | (rw [if_neg (by decide +kernel)]; exact ⟨rfl, rfl⟩))
    (fun os started H enc _ => lifted os started H enc)
/-- THE STATEMENT -/
theorem proved : Rows.FnRafflesSaid := over
#print axioms proved
end Go.Proofs.Ythdaggpmmaaidaa.fnRaffles
