/- The statement Rows.FnLessonsSaid: for every text of bytes, the law FnLessons returns true and leaves its argument as it was. No conditions. -/
import Derived.Test.YtgoimoadaeijkaaLesP
namespace Go.Proofs.Ytgoimoadaeijkaa.fnLessons
open Go.Vq
set_option linter.unusedSimpArgs false
set_option maxHeartbeats 1000000
set_option maxRecDepth 20000
theorem body (l : List Int) (hl : l.length ≤ 1048576) (hb : bytes l) (x : Int) (p w : List Int) (h : drawnL x p w) (hd : FnC Try.prog 25 [(false, [.sq dU (l.map eU)])] (.agg (rL x p w))) : FnC Try.prog 8 [(false, [.sq dU (l.map eU)])] (.one (.bool true)) := by
  have hlen : p.length + w.length ≤ 9 := h.2.2.1
  have hx := h.1
  have hpx := h.2.1
  have hor := h.2.2.2.2.2
  have b0 := atV_bd hb 0
  have b1 := atV_bd hb 1
  have hok := drawn_les h
  have hen := drawn_en h
  have hbk := drawn_back h
  have hwt := drawn_wait h
  have cE : FnC Try.prog 17 [aL x p w, (false, [.int .i64 700])] (.tup [(true, rL x (enPR x p w 700) (enWR x p w 700)), (false, [.bool true])]) := by
    have := implEnrol x p w (by omega) 700
    rwa [decide_eq_true hen] at this
  have cO : FnC Try.prog 12 [aL x p w] (.one (.bool true)) := by
    have := implLessonOk x p w (by omega)
    rwa [decide_eq_true hok] at this
  have hl7 := drawn_700 h (n := 998) (by omega)
  have hbw : waitR x p w 998 = -1 := waitR_no hl7.1 hl7.2
  generalize heP : enPR x p w 700 = eP at *
  generalize heW : enWR x p w 700 = eW at *
  have hel : eP.length + eW.length ≤ 20 := by have := enR_len x p w 700; rw [heP, heW] at this; omega
  have hoe : lesOk x eP eW := hbk.1.1
  have cO2 : FnC Try.prog 12 [aL x eP eW] (.one (.bool true)) := by
    have := implLessonOk x eP eW (by omega)
    rwa [decide_eq_true hoe] at this
  have cW : FnC Try.prog 15 [aL x eP eW, (false, [.int .i64 700])] (.one (.int .i64 (if (p.length : Int) < x then 0 else (w.length : Int) + 1))) := by
    have := implWaitPlace x eP eW (by omega) 700
    rwa [hwt] at this
  have cL : FnC Try.prog 23 [aL x eP eW, (false, [.int .i64 700])] (.tup [(true, rL x p w), (false, [.bool true])]) := by
    have := implLeaveLesson x eP eW (by omega) 700
    rwa [decide_eq_true hbk.1, hbk.2.1, hbk.2.2] at this
  have cW8 : FnC Try.prog 15 [aL x p w, (false, [.int .i64 998])] (.one (.int .i64 (-1))) := by
    have := implWaitPlace x p w (by omega) 998
    rwa [hbw] at this
  have e1 : (atV l 1).tmod 21 = atV l 1 % 21 := Int.tmod_eq_emod_of_nonneg b1.1
  generalize hq : (atV l 1).tmod 21 = q at *
  have hq20 : 0 ≤ q ∧ q ≤ 20 := by omega
  obtain ⟨s1, s2, s3, s4, s5⟩ := drawn_set h hq20
  have s6 := stR_len x p w q
  have s7 : stX q (stP x p w q) (stW x p w q) x = x := by rw [stX, if_pos s3]
  have cS : FnC Try.prog 21 [aL x p w, (false, [.int .i64 q])] (.tup [(true, rL q (stP x p w q) (stW x p w q)), (false, [.bool true])]) := by
    have := implSetPlaces x p w (by omega) q
    rwa [decide_eq_true s1, s2] at this
  have cT : FnC Try.prog 21 [aL q (stP x p w q) (stW x p w q), (false, [.int .i64 x])] (.tup [(true, rL x p w), (false, [.bool true])]) := by
    have := implSetPlaces q (stP x p w q) (stW x p w q) (by omega) x
    rwa [decide_eq_true s3, s7, s4, s5] at this
  generalize stP x p w q = sP at *
  generalize stW x p w q = sW at *
  by_cases hp0 : p.length = 0
  · subst hq
    refine fn_z (ty := ty) (ts := [.tmp 2]) [0, 2, 3, 4, 5, 6, 7, 8, 9, 10, 11, 12, 13, 14, 15, 16, 18, 49, 50, 78, 101, 105, 168, 179] mixed ty_ok Try.func8 (by kernel_rfl) rfl (by kernel_rfl) (by kernel_rfl) rfl (.inl rfl) (Nat.le_of_ble_eq_true rfl) (by simp only [entry, entryV, C.toS, Nat.zero_add, Nat.reduceAdd, List.map_cons, List.map_nil]; exact rfl) ?_
    repeat' (first
    | ((with_reducible refine z_run ?_); (conv => whnf))
    | (with_reducible apply z_t)
    | (with_reducible apply z_f)
    | ((with_reducible apply z_b); ((intro h); (try simp only [beq_self_eq_true, eq_self, not_true_eq_false, not_false_eq_true, decide_true, cond_true, cond_false, Bool.not_true, Bool.not_false, Bool.not_eq_true', Bool.not_eq_false', Bool.and_eq_true, Bool.and_eq_false_imp, Bool.or_eq_true, Bool.or_eq_false_iff, decide_eq_true_eq, decide_eq_false_iff_not, Bool.false_eq_true, reduceCtorEq, Int.not_le, Int.not_lt, Decidable.not_not] at h)); rotate_left; ((intro h); (try simp only [beq_self_eq_true, eq_self, not_true_eq_false, not_false_eq_true, decide_true, cond_true, cond_false, Bool.not_true, Bool.not_false, Bool.not_eq_true', Bool.not_eq_false', Bool.and_eq_true, Bool.and_eq_false_imp, Bool.or_eq_true, Bool.or_eq_false_iff, decide_eq_true_eq, decide_eq_false_iff_not, Bool.false_eq_true, reduceCtorEq, Int.not_le, Int.not_lt, Decidable.not_not] at h)))
    | (with_reducible refine z_r ?_ ?_)
    | (with_reducible refine z_wg ?_ ?_)
    | (with_reducible refine z_w ?_ ?_)
    | ((with_reducible apply sh_nil); (intro _))
    | ((with_reducible apply sh_int); (intro _))
    | ((with_reducible apply sh_bool); (intro _))
    | ((with_reducible apply sh_sl); (intro _))
    | ((with_reducible refine z_xf ?zc ?zx ?_); (case zc => decide +kernel); (case zx => decide +kernel))
    | (with_reducible refine z_k (big_fn l hl) ?_)
    | (with_reducible refine z_k hd ?_)
    | (with_reducible refine z_k cE ?_)
    | (with_reducible refine z_k cO ?_)
    | (with_reducible refine z_k cO2 ?_)
    | (with_reducible refine z_k cW ?_)
    | (with_reducible refine z_k cL ?_)
    | (with_reducible refine z_k (lSameInts_fn _ _ (by omega)) ?_)
    | (with_reducible refine z_k (at_fn l hl hb _ (by omega)) ?_)
    | (with_reducible refine z_k cS ?_)
    | (with_reducible refine z_k cT ?_)
    | (with_reducible refine z_k cW8 ?_)
    | exact allP_n
    | (refine allP_c ?_ ?_)
    | ((refine z_sn0 ?_); (simp only [List.length_map, fillTo_zero, Int.toNat_natCast, Option.isSome_some, and_self, fixB, Nat.reduceLeDiff, false_implies, true_implies, forall_const, St.le0, St.swaps, St.ren, mapV, renO, V.ren, Sc.ren, Ob.ren, swp, slsLe, obsLe, vLe, scLe, scsLe, obLe, Vq.look, Nat.reduceEqDiff, if_true, if_false, reduceCtorEq, ↓reduceIte, true_and, and_true] <;> (and_intros <;> first | rfl | omega | assumption); done))
    | ((refine z_sn ?_); (simp only [List.length_map, fillTo_zero, Int.toNat_natCast, Option.isSome_some, and_self, fixB, Nat.reduceLeDiff, false_implies, true_implies, forall_const, St.le0, St.swaps, St.ren, mapV, renO, V.ren, Sc.ren, Ob.ren, swp, slsLe, obsLe, vLe, scLe, scsLe, obLe, Vq.look, Nat.reduceEqDiff, if_true, if_false, reduceCtorEq, ↓reduceIte, true_and, and_true] <;> (and_intros <;> first | rfl | omega | assumption); done))
    | ((with_reducible refine z_o ?zo ?_); (case zo => decide +kernel))
    | ((with_reducible refine z_x ?zx ?_); (case zx => decide +kernel))
    | ((refine z_mf (d := ?zD) (f := ?zF) (caps := ?zA) (τ := ?zT) (ps := ?zP) (cs := ?zC) ?zd ?ze ?zt ?za ?zp ?zl ?_); (case zd => exact rfl); (case ze => exact rfl); (case zt => (simp only [frzAll, frz, frzL, frzV, frzS, drp, unSs, unS, unsing, ev, Vq.look, List.map_cons, List.map_nil, List.drop_zero, List.drop_succ_cons, Nat.reduceAdd, Nat.zero_add, Option.map_some, Nat.reduceEqDiff, if_true, if_false, reduceCtorEq, ↓reduceIte]; exact rfl)); (case za => exact rfl); (case zp => exact rfl); (case zl => (simp only [unSs, unS, unsing, List.drop_zero, List.drop_succ_cons, Nat.reduceAdd, Nat.zero_add, Option.map_some, List.length_map, fillTo_zero, Int.toNat_natCast, Option.isSome_some, and_self, fixB, Nat.reduceLeDiff, false_implies, true_implies, forall_const, St.le0, St.swaps, St.ren, mapV, renO, V.ren, Sc.ren, Ob.ren, swp, slsLe, obsLe, vLe, scLe, scsLe, obLe, Vq.look, Nat.reduceEqDiff, if_true, if_false, reduceCtorEq, ↓reduceIte, true_and, and_true] <;> (and_intros <;> first | rfl | omega))))
    | fail)
    all_goals ((try simp only [Int.toNat_natCast, tn1, tp1, List.length_map, eq_self, true_and, and_true] at *); (try simp (disch := omega) only [wr, Int.toNat_natCast, tn1, tp1, List.length_map, eq_self, true_and, and_true] at *))
    all_goals (first
      | omega
      | (exfalso; omega)
      | (refine z_e rfl ?_; simp only [fin, finP, finM, ids, nodupB, tupP, tupM, memN, List.length_cons, List.length_nil, List.nil_append, List.append_nil, List.cons_append, Nat.zero_add, Nat.reduceAdd, ne_eq, not_false_eq_true, eq_self, ev, Vq.look, List.map_cons, List.map_nil, and_true, true_and, Nat.reduceEqDiff, if_true, if_false, reduceCtorEq, ↓reduceIte]; simp only [cond_true, decide_true]; done)
      | (trace_state; fail))
  · have e0 : (atV l 0).tmod p.length = atV l 0 % p.length := Int.tmod_eq_emod_of_nonneg b0.1
    have hi1 := Int.emod_nonneg (atV l 0) (b := (p.length : Int)) (by omega)
    have hi2 := Int.emod_lt_of_pos (atV l 0) (b := (p.length : Int)) (by omega)
    generalize hi : (atV l 0).tmod p.length = i at *
    have hnp : p.getD i.toNat default ∈ p := getD_mem (by omega)
    obtain ⟨v1, v2, v3, v4⟩ := drawn_leave h hnp
    have v5 := waitR_no (x := x) v2 v3
    have v6 := lv_len x p w (p.getD i.toNat default)
    have cN : FnC Try.prog 23 [aL x p w, (false, [.int .i64 (p.getD i.toNat default)])] (.tup [(true, rL x (lvP x p w (p.getD i.toNat default)) (lvW x p w (p.getD i.toNat default))), (false, [.bool true])]) := by
      have := implLeaveLesson x p w (by omega) (p.getD i.toNat default)
      rwa [decide_eq_true v1] at this
    have cM : FnC Try.prog 15 [aL x (lvP x p w (p.getD i.toNat default)) (lvW x p w (p.getD i.toNat default)), (false, [.int .i64 (p.getD i.toNat default)])] (.one (.int .i64 (-1))) := by
      have := implWaitPlace x (lvP x p w (p.getD i.toNat default)) (lvW x p w (p.getD i.toNat default)) (by omega) (p.getD i.toNat default)
      rwa [v5] at this
    generalize lvP x p w (p.getD i.toNat default) = vP at *
    generalize lvW x p w (p.getD i.toNat default) = vW at *
    have cN2 : ∀ y, p.getD i.toNat default = y → FnC Try.prog 23 [aL x p w, (false, [.int .i64 y])] (.tup [(true, rL x vP vW), (false, [.bool true])]) := by rintro _ rfl; exact cN
    have cM2 : ∀ y, p.getD i.toNat default = y → FnC Try.prog 15 [aL x vP vW, (false, [.int .i64 y])] (.one (.int .i64 (-1))) := by rintro _ rfl; exact cM
    clear cN cM
    subst hq
    subst hi
    refine fn_z (ty := ty) (ts := [.tmp 2]) [0, 2, 3, 4, 5, 6, 7, 8, 9, 10, 11, 12, 13, 14, 15, 16, 18, 49, 50, 78, 101, 105, 168, 179] mixed ty_ok Try.func8 (by kernel_rfl) rfl (by kernel_rfl) (by kernel_rfl) rfl (.inl rfl) (Nat.le_of_ble_eq_true rfl) (by simp only [entry, entryV, C.toS, Nat.zero_add, Nat.reduceAdd, List.map_cons, List.map_nil]; exact rfl) ?_
    repeat' (first
    | ((with_reducible refine z_run ?_); (conv => whnf))
    | (with_reducible apply z_t)
    | (with_reducible apply z_f)
    | ((with_reducible apply z_b); ((intro h); (try simp only [beq_self_eq_true, eq_self, not_true_eq_false, not_false_eq_true, decide_true, cond_true, cond_false, Bool.not_true, Bool.not_false, Bool.not_eq_true', Bool.not_eq_false', Bool.and_eq_true, Bool.and_eq_false_imp, Bool.or_eq_true, Bool.or_eq_false_iff, decide_eq_true_eq, decide_eq_false_iff_not, Bool.false_eq_true, reduceCtorEq, Int.not_le, Int.not_lt, Decidable.not_not] at h)); rotate_left; ((intro h); (try simp only [beq_self_eq_true, eq_self, not_true_eq_false, not_false_eq_true, decide_true, cond_true, cond_false, Bool.not_true, Bool.not_false, Bool.not_eq_true', Bool.not_eq_false', Bool.and_eq_true, Bool.and_eq_false_imp, Bool.or_eq_true, Bool.or_eq_false_iff, decide_eq_true_eq, decide_eq_false_iff_not, Bool.false_eq_true, reduceCtorEq, Int.not_le, Int.not_lt, Decidable.not_not] at h)))
    | (with_reducible refine z_r ?_ ?_)
    | (with_reducible refine z_wg ?_ ?_)
    | (with_reducible refine z_w ?_ ?_)
    | ((with_reducible apply sh_nil); (intro _))
    | ((with_reducible apply sh_int); (intro _))
    | ((with_reducible apply sh_bool); (intro _))
    | ((with_reducible apply sh_sl); (intro _))
    | ((with_reducible refine z_xf ?zc ?zx ?_); (case zc => decide +kernel); (case zx => decide +kernel))
    | (with_reducible refine z_k (big_fn l hl) ?_)
    | (with_reducible refine z_k hd ?_)
    | (with_reducible refine z_k cE ?_)
    | (with_reducible refine z_k cO ?_)
    | (with_reducible refine z_k cO2 ?_)
    | (with_reducible refine z_k cW ?_)
    | (with_reducible refine z_k cL ?_)
    | (with_reducible refine z_k (lSameInts_fn _ _ (by omega)) ?_)
    | (with_reducible refine z_k (at_fn l hl hb _ (by omega)) ?_)
    | (with_reducible refine z_k cS ?_)
    | (with_reducible refine z_k cT ?_)
    | (with_reducible refine z_k cW8 ?_)
    | (with_reducible refine z_k (cN2 _ (by simp only [List.length_map])) ?_)
    | (with_reducible refine z_k (cM2 _ (by simp only [List.length_map])) ?_)
    | exact allP_n
    | (refine allP_c ?_ ?_)
    | ((refine z_sn0 ?_); (simp only [List.length_map, fillTo_zero, Int.toNat_natCast, Option.isSome_some, and_self, fixB, Nat.reduceLeDiff, false_implies, true_implies, forall_const, St.le0, St.swaps, St.ren, mapV, renO, V.ren, Sc.ren, Ob.ren, swp, slsLe, obsLe, vLe, scLe, scsLe, obLe, Vq.look, Nat.reduceEqDiff, if_true, if_false, reduceCtorEq, ↓reduceIte, true_and, and_true] <;> (and_intros <;> first | rfl | omega | assumption); done))
    | ((refine z_sn ?_); (simp only [List.length_map, fillTo_zero, Int.toNat_natCast, Option.isSome_some, and_self, fixB, Nat.reduceLeDiff, false_implies, true_implies, forall_const, St.le0, St.swaps, St.ren, mapV, renO, V.ren, Sc.ren, Ob.ren, swp, slsLe, obsLe, vLe, scLe, scsLe, obLe, Vq.look, Nat.reduceEqDiff, if_true, if_false, reduceCtorEq, ↓reduceIte, true_and, and_true] <;> (and_intros <;> first | rfl | omega | assumption); done))
    | ((with_reducible refine z_o ?zo ?_); (case zo => decide +kernel))
    | ((with_reducible refine z_x ?zx ?_); (case zx => decide +kernel))
    | ((refine z_mf (d := ?zD) (f := ?zF) (caps := ?zA) (τ := ?zT) (ps := ?zP) (cs := ?zC) ?zd ?ze ?zt ?za ?zp ?zl ?_); (case zd => exact rfl); (case ze => exact rfl); (case zt => (simp only [frzAll, frz, frzL, frzV, frzS, drp, unSs, unS, unsing, ev, Vq.look, List.map_cons, List.map_nil, List.drop_zero, List.drop_succ_cons, Nat.reduceAdd, Nat.zero_add, Option.map_some, Nat.reduceEqDiff, if_true, if_false, reduceCtorEq, ↓reduceIte]; exact rfl)); (case za => exact rfl); (case zp => exact rfl); (case zl => (simp only [unSs, unS, unsing, List.drop_zero, List.drop_succ_cons, Nat.reduceAdd, Nat.zero_add, Option.map_some, List.length_map, fillTo_zero, Int.toNat_natCast, Option.isSome_some, and_self, fixB, Nat.reduceLeDiff, false_implies, true_implies, forall_const, St.le0, St.swaps, St.ren, mapV, renO, V.ren, Sc.ren, Ob.ren, swp, slsLe, obsLe, vLe, scLe, scsLe, obLe, Vq.look, Nat.reduceEqDiff, if_true, if_false, reduceCtorEq, ↓reduceIte, true_and, and_true] <;> (and_intros <;> first | rfl | omega))))
    | fail)
    all_goals ((try simp only [Int.toNat_natCast, tn1, tp1, List.length_map, eq_self, true_and, and_true] at *); (try simp (disch := omega) only [wr, Int.toNat_natCast, tn1, tp1, List.length_map, eq_self, true_and, and_true] at *))
    all_goals (first
      | omega
      | (exfalso; exact h (v4 (by omega)).2.1)
      | (exfalso; omega)
      | (refine z_e rfl ?_; simp only [fin, finP, finM, ids, nodupB, tupP, tupM, memN, List.length_cons, List.length_nil, List.nil_append, List.append_nil, List.cons_append, Nat.zero_add, Nat.reduceAdd, ne_eq, not_false_eq_true, eq_self, ev, Vq.look, List.map_cons, List.map_nil, and_true, true_and, Nat.reduceEqDiff, if_true, if_false, reduceCtorEq, ↓reduceIte]; simp only [cond_true, decide_true]; done)
      | (trace_state; fail))
theorem law : LawFn Try.prog 8 [(false, [.sl dU])] := by
  intro caps hk hok
  obtain ⟨cs0, q0, rfl, e0, hk0⟩ := caps_cons hk
  obtain rfl := caps_nil hk0
  obtain ⟨c0_0, r0_0, rfl, f0_0, g0_0⟩ := kds_cons e0
  obtain rfl := kds_nil g0_0
  have ok0_0 := hok _ (List.getElem_mem (n := 0) (by simp)) _ (List.getElem_mem (n := 0) (by simp))
  simp only [List.getElem_cons_zero, List.getElem_cons_succ] at ok0_0
  obtain ⟨rows0_0, rfl⟩ := kd_sl f0_0
  obtain ⟨l, rfl⟩ := rows_map (e := eU) rowU ok0_0.rows.1
  have wl := ok0_0.len
  rw [List.length_map] at wl
  have hb := bytes_of ok0_0
  by_cases hl : l.length ≤ 1048576
  · exact body l hl hb _ _ _ (drawn_ok l (curZ l)) (draw_fn l hl)
  · refine fn_z (ty := ty) (ts := [.tmp 2]) [0, 2, 3, 4, 5, 6, 7, 8, 9, 10, 11, 12, 13, 14, 15, 16, 18, 49, 50, 78, 101, 105, 168, 179] mixed ty_ok Try.func8 (by kernel_rfl) rfl (by kernel_rfl) (by kernel_rfl) rfl (.inl rfl) (Nat.le_of_ble_eq_true rfl) (by simp only [entry, entryV, C.toS, Nat.zero_add, Nat.reduceAdd, List.map_cons, List.map_nil]; exact rfl) ?_
    repeat' (first
    | ((with_reducible refine z_run ?_); (conv => whnf))
    | (with_reducible apply z_t)
    | (with_reducible apply z_f)
    | ((with_reducible apply z_b); ((intro h); (try simp only [beq_self_eq_true, eq_self, not_true_eq_false, not_false_eq_true, decide_true, cond_true, cond_false, Bool.not_true, Bool.not_false, Bool.not_eq_true', Bool.not_eq_false', Bool.and_eq_true, Bool.and_eq_false_imp, Bool.or_eq_true, Bool.or_eq_false_iff, decide_eq_true_eq, decide_eq_false_iff_not, Bool.false_eq_true, reduceCtorEq, Int.not_le, Int.not_lt, Decidable.not_not] at h)); rotate_left; ((intro h); (try simp only [beq_self_eq_true, eq_self, not_true_eq_false, not_false_eq_true, decide_true, cond_true, cond_false, Bool.not_true, Bool.not_false, Bool.not_eq_true', Bool.not_eq_false', Bool.and_eq_true, Bool.and_eq_false_imp, Bool.or_eq_true, Bool.or_eq_false_iff, decide_eq_true_eq, decide_eq_false_iff_not, Bool.false_eq_true, reduceCtorEq, Int.not_le, Int.not_lt, Decidable.not_not] at h)))
    | (with_reducible refine z_r ?_ ?_)
    | (with_reducible refine z_wg ?_ ?_)
    | (with_reducible refine z_w ?_ ?_)
    | ((with_reducible apply sh_nil); (intro _))
    | ((with_reducible apply sh_int); (intro _))
    | ((with_reducible apply sh_bool); (intro _))
    | ((with_reducible apply sh_sl); (intro _))
    | ((with_reducible refine z_xf ?zc ?zx ?_); (case zc => decide +kernel); (case zx => decide +kernel))
    | (with_reducible refine z_k (big_no l hl) ?_)
    | ((with_reducible refine z_o ?zo ?_); (case zo => decide +kernel))
    | ((with_reducible refine z_x ?zx ?_); (case zx => decide +kernel))
    | ((refine z_mf (d := ?zD) (f := ?zF) (caps := ?zA) (τ := ?zT) (ps := ?zP) (cs := ?zC) ?zd ?ze ?zt ?za ?zp ?zl ?_); (case zd => exact rfl); (case ze => exact rfl); (case zt => (simp only [frzAll, frz, frzL, frzV, frzS, drp, unSs, unS, unsing, ev, Vq.look, List.map_cons, List.map_nil, List.drop_zero, List.drop_succ_cons, Nat.reduceAdd, Nat.zero_add, Option.map_some, Nat.reduceEqDiff, if_true, if_false, reduceCtorEq, ↓reduceIte]; exact rfl)); (case za => exact rfl); (case zp => exact rfl); (case zl => (simp only [unSs, unS, unsing, List.drop_zero, List.drop_succ_cons, Nat.reduceAdd, Nat.zero_add, Option.map_some, List.length_map, fillTo_zero, Int.toNat_natCast, Option.isSome_some, and_self, fixB, Nat.reduceLeDiff, false_implies, true_implies, forall_const, St.le0, St.swaps, St.ren, mapV, renO, V.ren, Sc.ren, Ob.ren, swp, slsLe, obsLe, vLe, scLe, scsLe, obLe, Vq.look, Nat.reduceEqDiff, if_true, if_false, reduceCtorEq, ↓reduceIte, true_and, and_true] <;> (and_intros <;> first | rfl | omega))))
    | fail)
    all_goals (first | omega | refine z_e rfl ?_; simp only [fin, finP, finM, ids, nodupB, tupP, tupM, memN, List.length_cons, List.length_nil, List.nil_append, List.append_nil, List.cons_append, Nat.zero_add, Nat.reduceAdd, ne_eq, not_false_eq_true, eq_self, ev, Vq.look, List.map_cons, List.map_nil, and_true, true_and, Nat.reduceEqDiff, if_true, if_false, reduceCtorEq, ↓reduceIte])
set_option maxRecDepth 100000 in
theorem lifted (os : Os) (started : os.Started) (H : Type) (enc : TypeId × Value → H) :
    ReturnsInHanded {} Try.checked os 8 .any (Rows.fnLessonsSpec.pre6 enc Try.prog Try.f8 Rows.fnLessonsRow.domain false) (Rows.fnLessonsSpec.post enc Try.prog Try.f8 false true false false) :=
  law_lift 9 [(false, [.sl [.int .u8]])] (by kernel_rfl) started (by kernel_rfl) Try.func8
    (ChangeSpec.witness6 (enc := enc) (C := Try.checked) false ⟨#[], #[.slice none 0 0], []⟩ 8 (by kernel_rfl) (by kernel_rfl) (by kernel_rfl) (by kernel_rfl))
    rfl (by kernel_rfl) (show Try.checked.prog.underlying 4 = some .bool by kernel_rfl) (by intro ds h; obtain ⟨d0, rfl⟩ := len1 (h.trans (show Try.f8.params.size = 1 by kernel_rfl)); rfl) (by kernel_rfl) (by kernel_rfl) (by kernel_rfl) (by kernel_rfl) (by kernel_rfl) law
theorem over : Rows.fnLessonsRow.holds Try.pinned (OpenSpec.ofChange Rows.fnLessonsSpec) :=
  OpenClaim.holds_of_wide 8 Try.f8 rfl rfl rfl rfl rfl rfl rfl ⟨rfl, rfl, rfl, rfl, rfl⟩ rfl rfl rfl rfl rfl (by kernel_rfl) Try.func8 (by kernel_rfl)
    (of_decide_eq_true (by kernel_rfl)) (by unfold Func.isWrapper; first | (rw [if_pos (by decide +kernel)]; kernel_rfl) | (rw [if_neg (by decide +kernel)]; exact ⟨rfl, rfl⟩))
    (fun os started H enc _ => lifted os started H enc)
/-- THE STATEMENT -/
theorem proved : Rows.FnLessonsSaid := over
#print axioms proved
end Go.Proofs.Ytgoimoadaeijkaa.fnLessons
