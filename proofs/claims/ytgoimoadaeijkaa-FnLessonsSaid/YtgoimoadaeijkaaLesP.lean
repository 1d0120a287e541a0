/- Drawn lessons, and what holds of them. No conditions. -/
import Derived.Test.YtgoimoadaeijkaaCurM
import Derived.Test.YtgoimoadaeijkaaLesD
namespace Go.Proofs.Ytgoimoadaeijkaa
open Go.Vq
set_option linter.unusedSimpArgs false
set_option maxHeartbeats 1000000
abbrev SLs := TCur × Int × List Int
def lsStep (l : List Int) (s : SLs) : SLs := (curN l s.1, s.2.1 + 1 + belV l s.1 4, s.2.2 ++ [((s.2.1 + 1 + belV l s.1 4) * 7) % 97 + 1])
def lsK (l : List Int) (c : TCur) : Nat → SLs
  | 0 => (c, 0, [])
  | k + 1 => lsStep l (lsK l c k)
def lsGood (s : SLs) (k : Nat) : Prop := s.2.2.length = k ∧ (0 ≤ s.2.1 ∧ s.2.1 ≤ 4 * k) ∧ s.2.2.Nodup ∧ ∀ y ∈ s.2.2, ∃ a : Int, (1 ≤ a ∧ a ≤ s.2.1) ∧ y = (a * 7) % 97 + 1
theorem ls_good (l : List Int) (c : TCur) : ∀ k, k ≤ 10 → lsGood (lsK l c k) k
  | 0, _ => ⟨rfl, ⟨by simp [lsK], by simp [lsK]⟩, by simp [lsK], by simp [lsK]⟩
  | k + 1, hk => by
    obtain ⟨h1, h2, h3, h4⟩ := ls_good l c k (by omega)
    generalize hs : lsK l c k = s at *
    have b1 := belV_bd l s.1 (n := 4) (by omega)
    rw [show lsK l c (k + 1) = lsStep l s by simp only [lsK, hs]]
    refine ⟨by simp [lsStep, h1], ⟨by simp only [lsStep]; omega, by simp only [lsStep]; omega⟩, ?_, fun y hy => ?_⟩
    · simp only [lsStep]
      refine List.nodup_append.2 ⟨h3, by simp, fun a ha b hb => ?_⟩
      rw [List.mem_singleton.1 hb]
      obtain ⟨z, hz, e⟩ := h4 a ha
      omega
    · simp only [lsStep] at hy ⊢
      rcases List.mem_append.1 hy with hy | hy
      · obtain ⟨z, hz, e⟩ := h4 y hy
        exact ⟨z, by omega, e⟩
      · exact ⟨s.2.1 + 1 + belV l s.1 4, by omega, List.mem_singleton.1 hy⟩
def lsN (l : List Int) (c : TCur) : Nat := (belV l c 10).toNat
def lsL (l : List Int) (c : TCur) : List Int := (lsK l (curN l c) (lsN l c)).2.2
def lsX (l : List Int) (c : TCur) : Int := belV l (lsK l (curN l c) (lsN l c)).1 8
def lsP (l : List Int) (c : TCur) : List Int := (lsL l c).take (fillM (lsL l c) (lsX l c))
def lsW (l : List Int) (c : TCur) : List Int := (lsL l c).drop (fillM (lsL l c) (lsX l c))
theorem lsL_len (l : List Int) (c : TCur) : (lsL l c).length ≤ 9 := by
  have hb := belV_bd l c (n := 10) (by omega)
  have := (ls_good l (curN l c) (lsN l c) (by unfold lsN; omega)).1
  unfold lsL
  rw [this]; unfold lsN; omega
theorem lsX_bd (l : List Int) (c : TCur) : 0 ≤ lsX l c ∧ lsX l c ≤ 7 := by
  have := belV_bd l (lsK l (curN l c) (lsN l c)).1 (n := 8) (by omega)
  unfold lsX; omega
theorem l34Lesson_fn (l : List Int) (hl : l.length ≤ 1048576) (c : TCur) : FnMC Try.prog 45 [(false, [.ptr 0])] [.box (eCur l c)] [.box (eCur l (curN l (lsK l (curN l c) (lsN l c)).1))] (.agg (rL (lsX l c) (lsP l c) (lsW l c))) := by
  have hb := belV_bd l c (n := 10) (by omega)
  have hN : lsN l c = (belV l c 10).toNat := rfl
  have hX := lsX_bd l c
  have hX' : lsX l c = belV l (lsK l (curN l c) (lsN l c)).1 8 := rfl
  have hLl := lsL_len l c
  have hF := lFill_fn (lsX l c) (lsL l c) (by omega) hX.1
  have hL' : lsL l c = (lsK l (curN l c) (lsN l c)).2.2 := rfl
  refine fn_zm (ty := ty) (ts := [.cell 2 27 3]) [0, 2, 3, 4, 5, 6, 12, 2] mixed ty_ok Try.func45 (by kernel_rfl) rfl (by kernel_rfl) (by kernel_rfl) rfl (.inl rfl) (Nat.le_of_ble_eq_true rfl) (by simp only [likes, Mo.like, and_self]) rfl (by simp only [entryM, maV, Ma.sc, C.toS, Nat.zero_add, Nat.reduceAdd, List.map_cons, List.map_nil]; exact rfl) (by simp only [numb, Mo.ob, C.toS, List.map_cons, List.map_nil]; exact rfl) ?_
  repeat' (first
    | ((with_reducible refine z_run ?_); (conv => whnf))
    | (with_reducible apply z_t)
    | (with_reducible apply z_f)
    | ((with_reducible apply z_b); ((intro h); (try simp only [beq_self_eq_true, eq_self, not_true_eq_false, not_false_eq_true, decide_true, cond_true, cond_false, Bool.not_true, Bool.not_false, Bool.not_eq_true', Bool.not_eq_false', Bool.and_eq_true, Bool.and_eq_false_imp, Bool.or_eq_true, Bool.or_eq_false_iff, decide_eq_true_eq, decide_eq_false_iff_not, Bool.false_eq_true, reduceCtorEq, Int.not_le, Int.not_lt, Decidable.not_not] at h)); rotate_left; ((intro h); (try simp only [beq_self_eq_true, eq_self, not_true_eq_false, not_false_eq_true, decide_true, cond_true, cond_false, Bool.not_true, Bool.not_false, Bool.not_eq_true', Bool.not_eq_false', Bool.and_eq_true, Bool.and_eq_false_imp, Bool.or_eq_true, Bool.or_eq_false_iff, decide_eq_true_eq, decide_eq_false_iff_not, Bool.false_eq_true, reduceCtorEq, Int.not_le, Int.not_lt, Decidable.not_not] at h)))
    | (with_reducible refine z_r ?_ ?_)
    | (with_reducible refine z_wg ?_ ?_)
    | (with_reducible refine z_w ?_ ?_)
    | ((with_reducible apply sh_nil); (intro _))
    | ((with_reducible apply sh_int); (intro _))
    | ((with_reducible apply sh_bool); (intro _))
    | ((with_reducible apply sh_sl); (intro _))
    | ((with_reducible refine z_xf ?zc ?zx ?_); (case zc => decide +kernel); (case zx => decide +kernel))
    | (refine z_mm [_] (l01Below_fn l hl _ (by omega)) rfl rfl ⟨rfl, trivial⟩ rfl ?_)
    | ((with_reducible refine z_o ?zo ?_); (case zo => decide +kernel))
    | ((with_reducible refine z_x ?zx ?_); (case zx => decide +kernel))
    | ((refine z_mf (d := ?zD) (f := ?zF) (caps := ?zA) (τ := ?zT) (ps := ?zP) (cs := ?zC) ?zd ?ze ?zt ?za ?zp ?zl ?_); (case zd => exact rfl); (case ze => exact rfl); (case zt => (simp only [frzAll, frz, frzL, frzV, frzS, drp, unSs, unS, unsing, ev, Vq.look, List.map_cons, List.map_nil, List.drop_zero, List.drop_succ_cons, Nat.reduceAdd, Nat.zero_add, Option.map_some, Nat.reduceEqDiff, if_true, if_false, reduceCtorEq, ↓reduceIte]; exact rfl)); (case za => exact rfl); (case zp => exact rfl); (case zl => (simp only [unSs, unS, unsing, List.drop_zero, List.drop_succ_cons, Nat.reduceAdd, Nat.zero_add, Option.map_some, List.length_map, fillTo_zero, Int.toNat_natCast, Option.isSome_some, and_self, fixB, Nat.reduceLeDiff, false_implies, true_implies, forall_const, St.le0, St.swaps, St.ren, mapV, renO, V.ren, Sc.ren, Ob.ren, swp, slsLe, obsLe, vLe, scLe, scsLe, obLe, Vq.look, Nat.reduceEqDiff, if_true, if_false, reduceCtorEq, ↓reduceIte, true_and, and_true] <;> (and_intros <;> first | rfl | omega))))
    | fail)
  refine z_li (fun k : Nat => k ≤ (belV l c 10).toNat) (0 : Nat) (fun k => (belV l c 10).toNat - k) (fun k => ⟨[(0, .one (.bx 500000 0)), (2, .one (.bx 2 0)), (3, .one (.root 7)), (4, .one (.int .i64 (lsK l (curN l c) k).2.1)), (5, .one (.int .i64 (belV l c 10))), (6, .one (.int .i64 k))], [(500000, .box ((eCur l (lsK l (curN l c) k).1).map C.toS)), (7, .row 3 dI ((lsK l (curN l c) k).2.2.map eI)), (2, .box [.int .i64 0, .nil, .nil])]⟩) (by omega) ?_ ?_
  · simp only [List.length_map, fillTo_zero, Int.toNat_natCast, Option.isSome_some, and_self, fixB, Nat.reduceLeDiff, false_implies, true_implies, forall_const, St.le0, St.swaps, St.ren, mapV, renO, V.ren, Sc.ren, Ob.ren, swp, slsLe, obsLe, vLe, scLe, scsLe, obLe, Vq.look, Nat.reduceEqDiff, if_true, if_false, reduceCtorEq, ↓reduceIte, true_and, and_true, lsK, eCur, C.toS, List.map_cons, List.map_nil]; and_intros <;> first | rfl | omega
  · intro k hk
    obtain ⟨h1, h2, h3, h4⟩ := ls_good l (curN l c) k (by omega)
    have b1 := belV_bd l (lsK l (curN l c) k).1 (n := 4) (by omega)
    have hF2 : k = lsN l c → FnC Try.prog 39 [(false, [.sq dI ((lsK l (curN l c) k).2.2.map eI)]), (false, [.int .i64 (belV l (lsK l (curN l c) k).1 8)])] (.agg (rL (lsX l c) (lsP l c) (lsW l c))) := by
      intro e; rw [e, ← hL', ← hX']; exact hF
    repeat' (first
    | ((with_reducible refine z_run ?_); (conv => whnf))
    | (with_reducible apply z_t)
    | (with_reducible apply z_f)
    | ((with_reducible apply z_b); ((intro h); (try simp only [beq_self_eq_true, eq_self, not_true_eq_false, not_false_eq_true, decide_true, cond_true, cond_false, Bool.not_true, Bool.not_false, Bool.not_eq_true', Bool.not_eq_false', Bool.and_eq_true, Bool.and_eq_false_imp, Bool.or_eq_true, Bool.or_eq_false_iff, decide_eq_true_eq, decide_eq_false_iff_not, Bool.false_eq_true, reduceCtorEq, Int.not_le, Int.not_lt, Decidable.not_not] at h)); rotate_left; ((intro h); (try simp only [beq_self_eq_true, eq_self, not_true_eq_false, not_false_eq_true, decide_true, cond_true, cond_false, Bool.not_true, Bool.not_false, Bool.not_eq_true', Bool.not_eq_false', Bool.and_eq_true, Bool.and_eq_false_imp, Bool.or_eq_true, Bool.or_eq_false_iff, decide_eq_true_eq, decide_eq_false_iff_not, Bool.false_eq_true, reduceCtorEq, Int.not_le, Int.not_lt, Decidable.not_not] at h)))
    | (with_reducible refine z_r ?_ ?_)
    | (with_reducible refine z_wg ?_ ?_)
    | (with_reducible refine z_w ?_ ?_)
    | ((with_reducible apply sh_nil); (intro _))
    | ((with_reducible apply sh_int); (intro _))
    | ((with_reducible apply sh_bool); (intro _))
    | ((with_reducible apply sh_sl); (intro _))
    | ((with_reducible refine z_xf ?zc ?zx ?_); (case zc => decide +kernel); (case zx => decide +kernel))
    | (refine z_mm [_] (l01Below_fn l hl _ (by omega)) rfl rfl ⟨rfl, trivial⟩ rfl ?_)
    | (with_reducible refine z_k (hF2 (by omega)) ?_)
    | ((with_reducible refine z_o ?zo ?_); (case zo => decide +kernel))
    | ((with_reducible refine z_x ?zx ?_); (case zx => decide +kernel))
    | ((refine z_mf (d := ?zD) (f := ?zF) (caps := ?zA) (τ := ?zT) (ps := ?zP) (cs := ?zC) ?zd ?ze ?zt ?za ?zp ?zl ?_); (case zd => exact rfl); (case ze => exact rfl); (case zt => (simp only [frzAll, frz, frzL, frzV, frzS, drp, unSs, unS, unsing, ev, Vq.look, List.map_cons, List.map_nil, List.drop_zero, List.drop_succ_cons, Nat.reduceAdd, Nat.zero_add, Option.map_some, Nat.reduceEqDiff, if_true, if_false, reduceCtorEq, ↓reduceIte]; exact rfl)); (case za => exact rfl); (case zp => exact rfl); (case zl => (simp only [unSs, unS, unsing, List.drop_zero, List.drop_succ_cons, Nat.reduceAdd, Nat.zero_add, Option.map_some, List.length_map, fillTo_zero, Int.toNat_natCast, Option.isSome_some, and_self, fixB, Nat.reduceLeDiff, false_implies, true_implies, forall_const, St.le0, St.swaps, St.ren, mapV, renO, V.ren, Sc.ren, Ob.ren, swp, slsLe, obsLe, vLe, scLe, scsLe, obLe, Vq.look, Nat.reduceEqDiff, if_true, if_false, reduceCtorEq, ↓reduceIte, true_and, and_true] <;> (and_intros <;> first | rfl | omega))))
    | fail)
    all_goals ((try simp only [Int.toNat_natCast, tn1, tp1, List.length_map, eq_self, true_and, and_true] at *); (try simp (disch := omega) only [wr, Int.toNat_natCast, tn1, tp1, List.length_map, eq_self, true_and, and_true] at *))
    all_goals (try simp (disch := omega) only [Int.tmod_eq_emod_of_nonneg] at *)
    all_goals (try simp (disch := omega) only [wr] at *)
    all_goals (first
      | omega
      | (simp only [List.length_map, List.length_cons, List.length_nil]; omega)
      | (rw [show lsN l c = k by omega]; (refine z_em rfl rfl ?_ ?_ <;> simp only [fin, finP, finM, finO, Mo.ob, ids, nodupB, tupP, tupM, memN, ev, Vq.look, List.map_cons, List.map_nil, and_true, true_and, Nat.reduceEqDiff, if_true, if_false, reduceCtorEq, ↓reduceIte] <;> first | done | rfl | (and_intros <;> rfl)))
      | (refine z_n (k + 1) ⟨by omega, by omega⟩ ?_
         rw [show lsK l (curN l c) (k + 1) = lsStep l (lsK l (curN l c) k) from rfl]
         simp only [lsStep, List.map_append, eCur, C.toS, List.map_cons, List.map_nil]
         simp only [List.length_map, fillTo_zero, Int.toNat_natCast, Option.isSome_some, and_self, fixB, Nat.reduceLeDiff, false_implies, true_implies, forall_const, St.le0, St.swaps, St.ren, mapV, renO, V.ren, Sc.ren, Ob.ren, swp, slsLe, obsLe, vLe, scLe, scsLe, obLe, Vq.look, Nat.reduceEqDiff, if_true, if_false, reduceCtorEq, ↓reduceIte, true_and, and_true] <;> (and_intros <;> first | rfl | omega | assumption); done)
      | (trace_state; fail))
theorem draw_fn (l : List Int) (hl : l.length ≤ 1048576) : FnC Try.prog 25 [(false, [.sq dU (l.map eU)])] (.agg (rL (lsX l (curZ l)) (lsP l (curZ l)) (lsW l (curZ l)))) := by
  refine fn_z (ty := ty) (ts := [.cell 2 27 3]) [0, 2, 2] mixed ty_ok Try.func25 (by kernel_rfl) rfl (by kernel_rfl) (by kernel_rfl) rfl (.inl rfl) (Nat.le_of_ble_eq_true rfl) (by simp only [entry, entryV, C.toS, Nat.zero_add, Nat.reduceAdd, List.map_cons, List.map_nil]; exact rfl) ?_
  repeat' (first
    | ((with_reducible refine z_run ?_); (conv => whnf))
    | (with_reducible apply z_t)
    | (with_reducible apply z_f)
    | ((with_reducible apply z_b); ((intro h); (try simp only [beq_self_eq_true, eq_self, not_true_eq_false, not_false_eq_true, decide_true, cond_true, cond_false, Bool.not_true, Bool.not_false, Bool.not_eq_true', Bool.not_eq_false', Bool.and_eq_true, Bool.and_eq_false_imp, Bool.or_eq_true, Bool.or_eq_false_iff, decide_eq_true_eq, decide_eq_false_iff_not, Bool.false_eq_true, reduceCtorEq, Int.not_le, Int.not_lt, Decidable.not_not] at h)); rotate_left; ((intro h); (try simp only [beq_self_eq_true, eq_self, not_true_eq_false, not_false_eq_true, decide_true, cond_true, cond_false, Bool.not_true, Bool.not_false, Bool.not_eq_true', Bool.not_eq_false', Bool.and_eq_true, Bool.and_eq_false_imp, Bool.or_eq_true, Bool.or_eq_false_iff, decide_eq_true_eq, decide_eq_false_iff_not, Bool.false_eq_true, reduceCtorEq, Int.not_le, Int.not_lt, Decidable.not_not] at h)))
    | (with_reducible refine z_r ?_ ?_)
    | (with_reducible refine z_wg ?_ ?_)
    | (with_reducible refine z_w ?_ ?_)
    | ((with_reducible apply sh_nil); (intro _))
    | ((with_reducible apply sh_int); (intro _))
    | ((with_reducible apply sh_bool); (intro _))
    | ((with_reducible apply sh_sl); (intro _))
    | ((with_reducible refine z_xf ?zc ?zx ?_); (case zc => decide +kernel); (case zx => decide +kernel))
    | (with_reducible refine z_k (l01New_fn l hl) ?_)
    | (refine z_mm [_] (l34Lesson_fn l hl _) rfl rfl ⟨rfl, trivial⟩ rfl ?_)
    | ((with_reducible refine z_o ?zo ?_); (case zo => decide +kernel))
    | ((with_reducible refine z_x ?zx ?_); (case zx => decide +kernel))
    | ((refine z_mf (d := ?zD) (f := ?zF) (caps := ?zA) (τ := ?zT) (ps := ?zP) (cs := ?zC) ?zd ?ze ?zt ?za ?zp ?zl ?_); (case zd => exact rfl); (case ze => exact rfl); (case zt => (simp only [frzAll, frz, frzL, frzV, frzS, drp, unSs, unS, unsing, ev, Vq.look, List.map_cons, List.map_nil, List.drop_zero, List.drop_succ_cons, Nat.reduceAdd, Nat.zero_add, Option.map_some, Nat.reduceEqDiff, if_true, if_false, reduceCtorEq, ↓reduceIte]; exact rfl)); (case za => exact rfl); (case zp => exact rfl); (case zl => (simp only [unSs, unS, unsing, List.drop_zero, List.drop_succ_cons, Nat.reduceAdd, Nat.zero_add, Option.map_some, List.length_map, fillTo_zero, Int.toNat_natCast, Option.isSome_some, and_self, fixB, Nat.reduceLeDiff, false_implies, true_implies, forall_const, St.le0, St.swaps, St.ren, mapV, renO, V.ren, Sc.ren, Ob.ren, swp, slsLe, obsLe, vLe, scLe, scsLe, obLe, Vq.look, Nat.reduceEqDiff, if_true, if_false, reduceCtorEq, ↓reduceIte, true_and, and_true] <;> (and_intros <;> first | rfl | omega))))
    | fail)
  all_goals ((try simp only [Int.toNat_natCast, tn1, tp1, List.length_map, eq_self, true_and, and_true] at *); (try simp (disch := omega) only [wr, Int.toNat_natCast, tn1, tp1, List.length_map, eq_self, true_and, and_true] at *))
  all_goals (first
    | (refine z_e rfl ?_; simp only [fin, finP, finM, ids, nodupB, tupP, tupM, memN, List.length_cons, List.length_nil, List.nil_append, List.append_nil, List.cons_append, Nat.zero_add, Nat.reduceAdd, ne_eq, not_false_eq_true, eq_self, ev, Vq.look, List.map_cons, List.map_nil, and_true, true_and, Nat.reduceEqDiff, if_true, if_false, reduceCtorEq, ↓reduceIte]; first | done | rfl | (and_intros <;> rfl))
    | (trace_state; fail))
/-- a lesson as it is drawn -/
def drawnL (x : Int) (p w : List Int) : Prop := (0 ≤ x ∧ x ≤ 7) ∧ p.length ≤ x ∧ p.length + w.length ≤ 9 ∧ (p ++ w).Nodup ∧ (∀ y ∈ p ++ w, 1 ≤ y ∧ y ≤ 97) ∧ (w.length = 0 ∨ p.length = x)
theorem drawn_ok (l : List Int) (c : TCur) : drawnL (lsX l c) (lsP l c) (lsW l c) := by
  have hX := lsX_bd l c
  have hLl := lsL_len l c
  have hg := ls_good l (curN l c) (lsN l c) (by have hb := belV_bd l c (n := 10) (by omega); unfold lsN; omega)
  have e : lsP l c ++ lsW l c = lsL l c := List.take_append_drop _ _
  have e2 : (lsP l c).length + (lsW l c).length = (lsL l c).length := by rw [← e, List.length_append]
  have e3 : (lsP l c).length = fillM (lsL l c) (lsX l c) := by
    unfold lsP; rw [List.length_take]; unfold fillM; split <;> omega
  have e4 : (fillM (lsL l c) (lsX l c) : Int) ≤ lsX l c ∧ (fillM (lsL l c) (lsX l c) = (lsL l c).length ∨ (fillM (lsL l c) (lsX l c) : Int) = lsX l c) := by
    unfold fillM; split <;> omega
  refine ⟨hX, by omega, by omega, ?_, ?_, by omega⟩
  · rw [e]; exact hg.2.2.1
  · rw [e]; intro y hy
    obtain ⟨a, ha, rfl⟩ := hg.2.2.2 y hy
    omega
theorem drawn_les {x : Int} {p w : List Int} (h : drawnL x p w) : lesOk x p w := by
  obtain ⟨h1, h2, h3, h4, h5, h6⟩ := h
  exact ⟨by omega, h2, by omega, ⟨h4, fun y hy => by have := h5 y hy; omega⟩, h6⟩
theorem drawn_700 {x : Int} {p w : List Int} (h : drawnL x p w) {n : Int} (hn : 97 < n) : n ∉ p ∧ n ∉ w := by
  obtain ⟨h1, h2, h3, h4, h5, h6⟩ := h
  exact ⟨fun hp => by have := h5 n (List.mem_append.2 (.inl hp)); omega, fun hw => by have := h5 n (List.mem_append.2 (.inr hw)); omega⟩
theorem drawn_en {x : Int} {p w : List Int} (h : drawnL x p w) : enOk x p w 700 := by
  obtain ⟨hn1, hn2⟩ := drawn_700 h (n := 700) (by omega)
  refine ⟨drawn_les h, ?_⟩
  obtain ⟨h1, h2, h3, h4, h5, h6⟩ := h
  have hnd := List.nodup_append.1 h4
  unfold enP enW
  by_cases hc : (p.length : Int) < x
  · have hw0 : w = [] := List.eq_nil_of_length_eq_zero (by omega)
    subst hw0
    rw [if_pos hc, if_pos hc]
    refine ⟨by omega, by simp; omega, by simp, ⟨?_, ?_⟩, .inl rfl⟩
    · rw [List.append_nil]
      exact List.nodup_append.2 ⟨hnd.1, by simp, fun a ha b hb e => by rw [List.mem_singleton.1 hb] at e; subst e; exact hn1 ha⟩
    · intro y hy
      rw [List.append_nil] at hy
      rcases List.mem_append.1 hy with hy | hy
      · have := h5 y (List.mem_append.2 (.inl hy)); omega
      · rw [List.mem_singleton.1 hy]; omega
  · rw [if_neg hc, if_neg hc]
    refine ⟨by omega, by omega, by simp; omega, ⟨?_, ?_⟩, .inr (by omega)⟩
    · rw [← List.append_assoc]
      refine List.nodup_append.2 ⟨h4, by simp, fun a ha b hb e => ?_⟩
      rw [List.mem_singleton.1 hb] at e; subst e
      rcases List.mem_append.1 ha with ha | ha
      · exact hn1 ha
      · exact hn2 ha
    · intro y hy
      rw [← List.append_assoc] at hy
      rcases List.mem_append.1 hy with hy | hy
      · have := h5 y hy; omega
      · rw [List.mem_singleton.1 hy]; omega
theorem woL_no {l : List Int} {n : Int} (h : n ∉ l) : woL l n = l := by
  unfold woL
  refine List.filter_eq_self.2 fun a ha => ?_
  have : a ≠ n := fun e => h (e ▸ ha)
  simp [this]
theorem woL_one (l : List Int) {n : Int} (h : n ∉ l) : woL (l ++ [n]) n = l := by
  rw [show woL (l ++ [n]) n = woL l n ++ woL [n] n by simp [woL], woL_no h]
  simp [woL]
theorem woL_mem_no (l : List Int) (n : Int) : n ∉ woL l n := by simp [woL]
theorem woL_cut : ∀ {l : List Int} {n : Int}, l.Nodup → n ∈ l → (woL l n).length + 1 = l.length
  | [], n, _, hm => by simp at hm
  | a :: l, n, hd, hm => by
    have hd2 := List.nodup_cons.1 hd
    by_cases e : a = n
    · subst e
      rw [show woL (a :: l) a = woL l a by simp [woL], woL_no hd2.1]; simp
    · have hm2 : n ∈ l := by
        rcases List.mem_cons.1 hm with h | h
        · exact absurd h.symm e
        · exact h
      rw [show woL (a :: l) n = a :: woL l n by simp [woL, e]]
      have := woL_cut hd2.2 hm2
      simp; omega
/-- who has enrolled and leaves again -/
theorem drawn_back {x : Int} {p w : List Int} (h : drawnL x p w) : lvOk x (enPR x p w 700) (enWR x p w 700) 700 ∧ lvP x (enPR x p w 700) (enWR x p w 700) 700 = p ∧ lvW x (enPR x p w 700) (enWR x p w 700) 700 = w := by
  obtain ⟨hn1, hn2⟩ := drawn_700 h (n := 700) (by omega)
  have he := drawn_en h
  rw [enPR, if_pos he, enWR, if_pos he]
  have hl : lvOk x (enP x p 700) (enW x p w 700) 700 := by
    refine ⟨he.2, ?_⟩
    unfold enP enW
    by_cases hc : (p.length : Int) < x
    · rw [if_pos hc]; left; simp
    · rw [if_neg hc, if_neg hc]; right; simp
  refine ⟨hl, ?_⟩
  rw [lvP, if_pos hl, lvW, if_pos hl]
  obtain ⟨h1, h2, h3, h4, h5, h6⟩ := h
  unfold enP enW
  by_cases hc : (p.length : Int) < x
  · have hw0 : w = [] := List.eq_nil_of_length_eq_zero (by omega)
    subst hw0
    rw [if_pos hc, if_pos hc, woL_one p hn1]
    simp [woL]
  · rw [if_neg hc, if_neg hc, woL_one w hn2, woL_no hn1]
    have hf : flN x p w = 0 := by unfold flN; omega
    rw [hf]; simp
theorem drawn_wait {x : Int} {p w : List Int} (h : drawnL x p w) : waitR x (enPR x p w 700) (enWR x p w 700) 700 = if (p.length : Int) < x then 0 else (w.length : Int) + 1 := by
  obtain ⟨hn1, hn2⟩ := drawn_700 h (n := 700) (by omega)
  have he := drawn_en h
  rw [enPR, if_pos he, enWR, if_pos he, waitR, if_pos he.2]
  unfold enP enW
  by_cases hc : (p.length : Int) < x
  · rw [if_pos hc, if_pos hc, if_pos (by simp), if_pos hc]
  · rw [if_neg hc, if_neg hc, if_neg hn1, if_pos (by simp), if_neg hc]
    congr 1
    rw [List.idxOf_append, if_neg hn2]
    simp
theorem drawn_leave {x : Int} {p w : List Int} (h : drawnL x p w) {n : Int} (hn : n ∈ p) : lvOk x p w n ∧ n ∉ lvP x p w n ∧ n ∉ lvW x p w n ∧ (0 < w.length → ((lvP x p w n).length : Int) = x ∧ (lvP x p w n).getD ((lvP x p w n).length - 1) default = w.getD 0 default ∧ (lvW x p w n).length = w.length - 1) := by
  have hok : lvOk x p w n := ⟨drawn_les h, .inl hn⟩
  obtain ⟨h1, h2, h3, h4, h5, h6⟩ := h
  have hnd := List.nodup_append.1 h4
  have hnw : n ∉ w := fun hw => hnd.2.2 n hn n hw rfl
  have hc := woL_cut hnd.1 hn
  rw [lvP, if_pos hok, lvW, if_pos hok, woL_no hnw]
  refine ⟨hok, ?_, fun hh => hnw (List.mem_of_mem_drop hh), fun hw => ?_⟩
  · intro hh
    rcases List.mem_append.1 hh with hh | hh
    · exact woL_mem_no p n hh
    · exact hnw (List.mem_of_mem_take hh)
  · have hf : flN x (woL p n) w = 1 := by unfold flN; omega
    rw [hf]
    have hl : (woL p n ++ w.take 1).length = (woL p n).length + 1 := by rw [List.length_append, List.length_take]; omega
    refine ⟨by rw [hl]; omega, ?_, by simp⟩
    rw [hl, Nat.add_sub_cancel]
    obtain ⟨a, v, rfl⟩ : ∃ a v, w = a :: v := by
      cases w with
      | nil => simp at hw
      | cons a v => exact ⟨a, v, rfl⟩
    simp [List.getD]
theorem waitR_no {x : Int} {p w : List Int} {n : Int} (h1 : n ∉ p) (h2 : n ∉ w) : waitR x p w n = -1 := by
  unfold waitR
  rw [if_neg h1, if_neg h2]
  split <;> rfl
theorem drawn_set {x : Int} {p w : List Int} (h : drawnL x p w) {n : Int} (hn : 0 ≤ n ∧ n ≤ 20) : stOk x p w n ∧ stX x p w n = n ∧ stOk n (stP x p w n) (stW x p w n) x ∧ stP n (stP x p w n) (stW x p w n) x = p ∧ stW n (stP x p w n) (stW x p w n) x = w := by
  have hl := drawn_les h
  obtain ⟨h1, h2, h3, h4, h5, h6⟩ := h
  have gen : ∀ m : Int, 0 ≤ m ∧ m ≤ 20 → lesOk m (stA m p w) (stB m p w) := fun m hm => by
    have e : stA m p w ++ stB m p w = p ++ w := List.take_append_drop _ _
    have e2 := st_len m p w
    have e3 : (stA m p w).length = fillM (p ++ w) m := by
      unfold stA; rw [List.length_take]; unfold fillM; rw [List.length_append]; split <;> omega
    have e4 : (fillM (p ++ w) m : Int) ≤ m ∧ (fillM (p ++ w) m = p.length + w.length ∨ (fillM (p ++ w) m : Int) = m) := by
      unfold fillM; rw [List.length_append]; split <;> omega
    refine ⟨hm, by omega, by omega, ?_, by omega⟩
    rw [e]; exact hl.2.2.2.1
  have hs : stOk x p w n := ⟨hl, hn, gen n hn⟩
  have e : stA n p w ++ stB n p w = p ++ w := List.take_append_drop _ _
  have hfe := fill_eq (p := p) (w := w) h2
  have hf : flN x p w = 0 := by unfold flN; omega
  rw [hf, List.take_zero, List.append_nil, List.drop_zero] at hfe
  have eA : stA x (stA n p w) (stB n p w) = p := by unfold stA at e ⊢; rw [e]; exact hfe.1
  have eB : stB x (stA n p w) (stB n p w) = w := by unfold stB at e ⊢; rw [e]; exact hfe.2
  have hs2 : stOk n (stA n p w) (stB n p w) x := ⟨hs.2.2, by omega, by rw [eA, eB]; exact hl⟩
  refine ⟨hs, by rw [stX, if_pos hs], ?_⟩
  rw [show stP x p w n = stA n p w by rw [stP, if_pos hs], show stW x p w n = stB n p w by rw [stW, if_pos hs], stP, if_pos hs2, stW, if_pos hs2]
  exact ⟨hs2, eA, eB⟩
end Go.Proofs.Ytgoimoadaeijkaa
