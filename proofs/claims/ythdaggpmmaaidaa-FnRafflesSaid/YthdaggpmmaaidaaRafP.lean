/- Drawn tickets, and what holds of winners. No conditions. -/
import Derived.Test.YthdaggpmmaaidaaCurM
import Derived.Test.YthdaggpmmaaidaaRafW
namespace Go.Proofs.Ythdaggpmmaaidaa
open Go.Vq
set_option linter.unusedSimpArgs false
set_option maxHeartbeats 1000000
theorem getD_app_lt {α : Type} [Inhabited α] {l m : List α} {i : Nat} (h : i < l.length) : (l ++ m).getD i default = l.getD i default := by
  simp [List.getD, List.getElem?_append_left h]
theorem getD_app_eq {α : Type} [Inhabited α] {l : List α} {x : α} : (l ++ [x]).getD l.length default = x := by
  simp [List.getD]
abbrev STk := TCur × Int × List Tk
def tkStep (l : List Int) (s : STk) : STk :=
  let a := s.2.1 + 1 + belV l s.1 9
  (curN l (curN l s.1), a, s.2.2 ++ [(a, 1 + belV l (curN l s.1) 5)])
def tkK (l : List Int) (c : TCur) : Nat → STk
  | 0 => (c, -1, [])
  | k + 1 => tkStep l (tkK l c k)
def tkGood (s : STk) (k : Nat) : Prop := s.2.2.length = k ∧ (-1 ≤ s.2.1 ∧ s.2.1 ≤ 9 * k) ∧ (∀ i, i < k → TkAt s.2.2 i ∧ (s.2.2.getD i default).1 ≤ s.2.1 ∧ (s.2.2.getD i default).2 ≤ 5)
theorem tkAt_app {l : List Tk} {x : Tk} {i : Nat} (h : i < l.length) : TkAt (l ++ [x]) i ↔ TkAt l i := by
  unfold TkAt
  rw [getD_app_lt h]
  by_cases hi : 0 < i
  · rw [getD_app_lt (show i - 1 < l.length by omega)]
  · simp [hi]
theorem tk_good (l : List Int) (c : TCur) : ∀ k, k ≤ 60 → tkGood (tkK l c k) k
  | 0, _ => ⟨rfl, ⟨by simp [tkK], by simp [tkK]⟩, fun i hi => by omega⟩
  | k + 1, hk => by
    obtain ⟨h1, h2, h3⟩ := tk_good l c k (by omega)
    generalize hs : tkK l c k = s at *
    have b1 := belV_bd l s.1 (n := 9) (by omega)
    have b2 := belV_bd l (curN l s.1) (n := 5) (by omega)
    rw [show tkK l c (k + 1) = tkStep l s by simp only [tkK, hs]]
    refine ⟨by simp [tkStep, h1], ⟨by simp only [tkStep]; omega, by simp only [tkStep]; omega⟩, fun i hi => ?_⟩
    simp only [tkStep]
    by_cases hi2 : i < s.2.2.length
    · obtain ⟨ha, hb, hc⟩ := h3 i (by omega)
      rw [tkAt_app hi2, getD_app_lt hi2]
      exact ⟨ha, by omega, hc⟩
    · have hi' : i = s.2.2.length := by omega
      subst hi'
      unfold TkAt
      rw [getD_app_eq]
      refine ⟨⟨⟨by dsimp only; omega, by dsimp only; omega⟩, ⟨by dsimp only; omega, by dsimp only; omega⟩, fun h0 => ?_⟩, by dsimp only; omega, by dsimp only; omega⟩
      rw [getD_app_lt (show s.2.2.length - 1 < s.2.2.length by omega)]
      have := (h3 (s.2.2.length - 1) (by omega)).2.1
      dsimp only; omega
def drawTk (l : List Int) (c : TCur) : List Tk := (tkK l (curN l c) (belV l c 12).toNat).2.2
theorem l35List_fn (l : List Int) (hl : l.length ≤ 1048576) (c : TCur) : FnMC Try.prog 34 [(false, [.ptr 0])] [.box (eCur l c)] [.box (eCur l (tkK l (curN l c) (belV l c 12).toNat).1)] (.one (.own 40 dTicket ((drawTk l c).map eTicket))) := by
  have hb := belV_bd l c (n := 12) (by omega)
  refine fn_zm (ty := ty) (ts := [.tmp 2]) [0, 2, 3, 4, 5, 6, 12] mixed ty_ok Try.func34 (by kernel_rfl) rfl (by kernel_rfl) (by kernel_rfl) rfl (.inl rfl) (Nat.le_of_ble_eq_true rfl) (by simp only [likes, Mo.like, and_self]) rfl (by simp only [entryM, maV, Ma.sc, C.toS, Nat.zero_add, Nat.reduceAdd, List.map_cons, List.map_nil]; exact rfl) (by simp only [numb, Mo.ob, C.toS, List.map_cons, List.map_nil]; exact rfl) ?_
  repeat' (first
    | ((with_reducible refine z_run ?_); (conv => whnf))
    | (with_reducible apply z_t)
    | (with_reducible apply z_f)
    | ((with_reducible apply z_b); ((intro h); (try simp only [beq_self_eq_true, eq_self, not_true_eq_false, not_false_eq_true, decide_true, cond_true, cond_false, Bool.not_true, Bool.not_false, Bool.not_eq_true', Bool.not_eq_false', Bool.and_eq_true, Bool.and_eq_false_imp, Bool.or_eq_true, Bool.or_eq_false_iff, decide_eq_true_eq, decide_eq_false_iff_not, Bool.false_eq_true, reduceCtorEq, Int.not_le, Int.not_lt, Decidable.not_not] at h)); rotate_left; ((intro h); (try simp only [beq_self_eq_true, eq_self, not_true_eq_false, not_false_eq_true, decide_true, cond_true, cond_false, Bool.not_true, Bool.not_false, Bool.not_eq_true', Bool.not_eq_false', Bool.and_eq_true, Bool.and_eq_false_imp, Bool.or_eq_true, Bool.or_eq_false_iff, decide_eq_true_eq, decide_eq_false_iff_not, Bool.false_eq_true, reduceCtorEq, Int.not_le, Int.not_lt, Decidable.not_not] at h)))
    | (with_reducible refine z_r ?_ ?_)
    | (with_reducible refine z_wg ?_ ?_)
    | (with_reducible refine z_w ?_ ?_)
    | ((with_reducible apply sh_nil); (intro _))
    | ((with_reducible apply sh_int); (intro _))
    | ((with_reducible apply sh_bool); (intro _))
    | ((with_reducible apply sh_sl); (intro _))
    | ((with_reducible refine z_xf ?zc ?zx ?_); (case zc => decide +kernel); (case zx => decide +kernel))
    | (refine z_mm [_] (l01Below_fn l hl _ (by omega)) rfl rfl ⟨rfl, trivial⟩ rfl ?_)
    | ((with_reducible refine z_o ?zo ?_); (case zo => decide +kernel))
    | ((with_reducible refine z_x ?zx ?_); (case zx => decide +kernel))
    | ((refine z_mf (d := ?zD) (f := ?zF) (caps := ?zA) (τ := ?zT) (ps := ?zP) (cs := ?zC) ?zd ?ze ?zt ?za ?zp ?zl ?_); (case zd => exact rfl); (case ze => exact rfl); (case zt => (simp only [frzAll, frz, frzL, frzV, frzS, drp, unSs, unS, unsing, ev, Vq.look, List.map_cons, List.map_nil, List.drop_zero, List.drop_succ_cons, Nat.reduceAdd, Nat.zero_add, Option.map_some, Nat.reduceEqDiff, if_true, if_false, reduceCtorEq, ↓reduceIte]; exact rfl)); (case za => exact rfl); (case zp => exact rfl); (case zl => (simp only [unSs, unS, unsing, List.drop_zero, List.drop_succ_cons, Nat.reduceAdd, Nat.zero_add, Option.map_some, List.length_map, fillTo_zero, Int.toNat_natCast, Option.isSome_some, and_self, fixB, Nat.reduceLeDiff, false_implies, true_implies, forall_const, St.le0, St.swaps, St.ren, mapV, renO, V.ren, Sc.ren, Ob.ren, swp, slsLe, obsLe, vLe, scLe, scsLe, obLe, Vq.look, Nat.reduceEqDiff, if_true, if_false, reduceCtorEq, ↓reduceIte, true_and, and_true] <;> (and_intros <;> first | rfl | omega))))
    | fail)
  refine z_li (fun k : Nat => k ≤ (belV l c 12).toNat) (0 : Nat) (fun k => (belV l c 12).toNat - k) (fun k => ⟨[(0, .one (.bx 500000 0)), (3, .one (.root 7)), (4, .one (.int .i64 (tkK l (curN l c) k).2.1)), (5, .one (.int .i64 (belV l c 12))), (6, .one (.int .i64 k))], [(500000, .box ((eCur l (tkK l (curN l c) k).1).map C.toS)), (7, .row 40 dTicket ((tkK l (curN l c) k).2.2.map eTicket))]⟩) (by omega) ?_ ?_
  · simp only [List.length_map, fillTo_zero, Int.toNat_natCast, Option.isSome_some, and_self, fixB, Nat.reduceLeDiff, false_implies, true_implies, forall_const, St.le0, St.swaps, St.ren, mapV, renO, V.ren, Sc.ren, Ob.ren, swp, slsLe, obsLe, vLe, scLe, scsLe, obLe, Vq.look, Nat.reduceEqDiff, if_true, if_false, reduceCtorEq, ↓reduceIte, true_and, and_true, tkK, eCur, C.toS, List.map_cons, List.map_nil]; and_intros <;> first | rfl | omega | (trace_state; fail)
  · intro k hk
    obtain ⟨h1, h2, h3⟩ := tk_good l (curN l c) k (by omega)
    have b1 := belV_bd l (tkK l (curN l c) k).1 (n := 9) (by omega)
    have b2 := belV_bd l (curN l (tkK l (curN l c) k).1) (n := 5) (by omega)
    repeat' (first
    | ((with_reducible refine z_run ?_); (conv => whnf))
    | (with_reducible apply z_t)
    | (with_reducible apply z_f)
    | ((with_reducible apply z_b); ((intro h); (try simp only [beq_self_eq_true, eq_self, not_true_eq_false, not_false_eq_true, decide_true, cond_true, cond_false, Bool.not_true, Bool.not_false, Bool.not_eq_true', Bool.not_eq_false', Bool.and_eq_true, Bool.and_eq_false_imp, Bool.or_eq_true, Bool.or_eq_false_iff, decide_eq_true_eq, decide_eq_false_iff_not, Bool.false_eq_true, reduceCtorEq, Int.not_le, Int.not_lt, Decidable.not_not] at h)); rotate_left; ((intro h); (try simp only [beq_self_eq_true, eq_self, not_true_eq_false, not_false_eq_true, decide_true, cond_true, cond_false, Bool.not_true, Bool.not_false, Bool.not_eq_true', Bool.not_eq_false', Bool.and_eq_true, Bool.and_eq_false_imp, Bool.or_eq_true, Bool.or_eq_false_iff, decide_eq_true_eq, decide_eq_false_iff_not, Bool.false_eq_true, reduceCtorEq, Int.not_le, Int.not_lt, Decidable.not_not] at h)))
    | (with_reducible refine z_r ?_ ?_)
    | (with_reducible refine z_wg ?_ ?_)
    | (with_reducible refine z_w ?_ ?_)
    | ((with_reducible apply sh_nil); (intro _))
    | ((with_reducible apply sh_int); (intro _))
    | ((with_reducible apply sh_bool); (intro _))
    | ((with_reducible apply sh_sl); (intro _))
    | ((with_reducible refine z_xf ?zc ?zx ?_); (case zc => decide +kernel); (case zx => decide +kernel))
    | (refine z_mm [_] (l01Below_fn l hl _ (by omega)) rfl rfl ⟨rfl, trivial⟩ rfl ?_)
    | ((with_reducible refine z_o ?zo ?_); (case zo => decide +kernel))
    | ((with_reducible refine z_x ?zx ?_); (case zx => decide +kernel))
    | ((refine z_mf (d := ?zD) (f := ?zF) (caps := ?zA) (τ := ?zT) (ps := ?zP) (cs := ?zC) ?zd ?ze ?zt ?za ?zp ?zl ?_); (case zd => exact rfl); (case ze => exact rfl); (case zt => (simp only [frzAll, frz, frzL, frzV, frzS, drp, unSs, unS, unsing, ev, Vq.look, List.map_cons, List.map_nil, List.drop_zero, List.drop_succ_cons, Nat.reduceAdd, Nat.zero_add, Option.map_some, Nat.reduceEqDiff, if_true, if_false, reduceCtorEq, ↓reduceIte]; exact rfl)); (case za => exact rfl); (case zp => exact rfl); (case zl => (simp only [unSs, unS, unsing, List.drop_zero, List.drop_succ_cons, Nat.reduceAdd, Nat.zero_add, Option.map_some, List.length_map, fillTo_zero, Int.toNat_natCast, Option.isSome_some, and_self, fixB, Nat.reduceLeDiff, false_implies, true_implies, forall_const, St.le0, St.swaps, St.ren, mapV, renO, V.ren, Sc.ren, Ob.ren, swp, slsLe, obsLe, vLe, scLe, scsLe, obLe, Vq.look, Nat.reduceEqDiff, if_true, if_false, reduceCtorEq, ↓reduceIte, true_and, and_true] <;> (and_intros <;> first | rfl | omega))))
    | fail)
    all_goals ((try simp only [Int.toNat_natCast, tn1, tp1, List.length_map, eq_self, true_and, and_true] at *); (try simp (disch := omega) only [wr, Int.toNat_natCast, tn1, tp1, List.length_map, eq_self, true_and, and_true] at *))
    all_goals (first
      | omega
      | (simp only [List.length_map, List.length_cons, List.length_nil]; omega)
      | (refine z_em rfl rfl ?_ ?_ <;> simp only [fin, finP, finM, finO, Mo.ob, ids, nodupB, tupP, tupM, memN, ev, Vq.look, List.map_cons, List.map_nil, and_true, true_and, Nat.reduceEqDiff, if_true, if_false, reduceCtorEq, ↓reduceIte]
         · rw [show k = (belV l c 12).toNat by omega]; rfl
         · rw [show k = (belV l c 12).toNat by omega])
      | (refine z_n (k + 1) ⟨by omega, by omega⟩ ?_
         rw [show tkK l (curN l c) (k + 1) = tkStep l (tkK l (curN l c) k) from rfl]
         simp only [tkStep, List.map_append, eCur, C.toS, List.map_cons, List.map_nil]
         simp only [List.length_map, fillTo_zero, Int.toNat_natCast, Option.isSome_some, and_self, fixB, Nat.reduceLeDiff, false_implies, true_implies, forall_const, St.le0, St.swaps, St.ren, mapV, renO, V.ren, Sc.ren, Ob.ren, swp, slsLe, obsLe, vLe, scLe, scsLe, obLe, Vq.look, Nat.reduceEqDiff, if_true, if_false, reduceCtorEq, ↓reduceIte, true_and, and_true] <;> (and_intros <;> first | rfl | omega | assumption); done)
      | (trace_state; fail))
theorem draw_fn (l : List Int) (hl : l.length ≤ 1048576) : FnC Try.prog 21 [(false, [.sq dU (l.map eU)])] (.one (.own 40 dTicket ((drawTk l (curZ l)).map eTicket))) := by
  refine fn_z (ty := ty) (ts := [.tmp 2]) [0, 2] mixed ty_ok Try.func21 (by kernel_rfl) rfl (by kernel_rfl) (by kernel_rfl) rfl (.inl rfl) (Nat.le_of_ble_eq_true rfl) (by simp only [entry, entryV, C.toS, Nat.zero_add, Nat.reduceAdd, List.map_cons, List.map_nil]; exact rfl) ?_
  repeat' (first
    | ((with_reducible refine z_run ?_); (conv => whnf))
    | (with_reducible apply z_t)
    | (with_reducible apply z_f)
    | ((with_reducible apply z_b); ((intro h); (try simp only [beq_self_eq_true, eq_self, not_true_eq_false, not_false_eq_true, decide_true, cond_true, cond_false, Bool.not_true, Bool.not_false, Bool.not_eq_true', Bool.not_eq_false', Bool.and_eq_true, Bool.and_eq_false_imp, Bool.or_eq_true, Bool.or_eq_false_iff, decide_eq_true_eq, decide_eq_false_iff_not, Bool.false_eq_true, reduceCtorEq, Int.not_le, Int.not_lt, Decidable.not_not] at h)); rotate_left; ((intro h); (try simp only [beq_self_eq_true, eq_self, not_true_eq_false, not_false_eq_true, decide_true, cond_true, cond_false, Bool.not_true, Bool.not_false, Bool.not_eq_true', Bool.not_eq_false', Bool.and_eq_true, Bool.and_eq_false_imp, Bool.or_eq_true, Bool.or_eq_false_iff, decide_eq_true_eq, decide_eq_false_iff_not, Bool.false_eq_true, reduceCtorEq, Int.not_le, Int.not_lt, Decidable.not_not] at h)))
    | (with_reducible refine z_r ?_ ?_)
    | (with_reducible refine z_wg ?_ ?_)
    | (with_reducible refine z_w ?_ ?_)
    | ((with_reducible apply sh_nil); (intro _))
    | ((with_reducible apply sh_int); (intro _))
    | ((with_reducible apply sh_bool); (intro _))
    | ((with_reducible apply sh_sl); (intro _))
    | ((with_reducible refine z_xf ?zc ?zx ?_); (case zc => decide +kernel); (case zx => decide +kernel))
    | (with_reducible refine z_k (l01New_fn l hl) ?_)
    | (refine z_mm [_] (l35List_fn l hl _) rfl rfl ⟨rfl, trivial⟩ rfl ?_)
    | ((with_reducible refine z_o ?zo ?_); (case zo => decide +kernel))
    | ((with_reducible refine z_x ?zx ?_); (case zx => decide +kernel))
    | ((refine z_mf (d := ?zD) (f := ?zF) (caps := ?zA) (τ := ?zT) (ps := ?zP) (cs := ?zC) ?zd ?ze ?zt ?za ?zp ?zl ?_); (case zd => exact rfl); (case ze => exact rfl); (case zt => (simp only [frzAll, frz, frzL, frzV, frzS, drp, unSs, unS, unsing, ev, Vq.look, List.map_cons, List.map_nil, List.drop_zero, List.drop_succ_cons, Nat.reduceAdd, Nat.zero_add, Option.map_some, Nat.reduceEqDiff, if_true, if_false, reduceCtorEq, ↓reduceIte]; exact rfl)); (case za => exact rfl); (case zp => exact rfl); (case zl => (simp only [unSs, unS, unsing, List.drop_zero, List.drop_succ_cons, Nat.reduceAdd, Nat.zero_add, Option.map_some, List.length_map, fillTo_zero, Int.toNat_natCast, Option.isSome_some, and_self, fixB, Nat.reduceLeDiff, false_implies, true_implies, forall_const, St.le0, St.swaps, St.ren, mapV, renO, V.ren, Sc.ren, Ob.ren, swp, slsLe, obsLe, vLe, scLe, scsLe, obLe, Vq.look, Nat.reduceEqDiff, if_true, if_false, reduceCtorEq, ↓reduceIte, true_and, and_true] <;> (and_intros <;> first | rfl | omega))))
    | fail)
  all_goals refine z_e rfl ?_; simp only [fin, finP, finM, ids, nodupB, tupP, tupM, memN, List.length_cons, List.length_nil, List.nil_append, List.append_nil, List.cons_append, Nat.zero_add, Nat.reduceAdd, ne_eq, not_false_eq_true, eq_self, ev, Vq.look, List.map_cons, List.map_nil, and_true, true_and, Nat.reduceEqDiff, if_true, if_false, reduceCtorEq, ↓reduceIte]
theorem drawTk_ok (l : List Int) (c : TCur) : TkOk (drawTk l c) ∧ (drawTk l c).length ≤ 11 ∧ ∀ i, i < (drawTk l c).length → 1 ≤ ((drawTk l c).getD i default).2 ∧ ((drawTk l c).getD i default).2 ≤ 5 := by
  have hb := belV_bd l c (n := 12) (by omega)
  obtain ⟨h1, h2, h3⟩ := tk_good l (curN l c) (belV l c 12).toNat (by omega)
  unfold drawTk
  refine ⟨⟨by omega, fun i hi => (h3 i (by omega)).1⟩, by omega, fun i hi => ⟨(h3 i (by omega)).1.2.1.1, (h3 i (by omega)).2.2⟩⟩
/-! ### winners -/
theorem perm_cut {l : List Tk} {k : Nat} (h : k < l.length) : (l.getD k default :: (l.take k ++ l.drop (k + 1))).Perm l := by
  have e : l = l.take k ++ (l.getD k default :: l.drop (k + 1)) := by
    conv => lhs; rw [← List.take_append_drop k l]
    congr 1
    rw [List.drop_eq_getElem_cons h, List.getD_eq_getElem?_getD, List.getElem?_eq_getElem h]; rfl
  conv => rhs; rw [e]
  exact List.perm_middle.symm
theorem out_perm (s : Int) (l : List Tk) : ∀ k, k ≤ l.length → (outL s l k ++ (remL s l k).map (·.1)).Perm (l.map (·.1))
  | 0, _ => by simp [outL, remL]
  | k + 1, hk => by
    refine List.Perm.trans ?_ (out_perm s l k (by omega))
    have hr := remL_len s l k (by omega)
    have ha := (atN_lt (s := s) (k := k) (l := remL s l k) (by omega)).1
    simp only [outL, remL, List.append_assoc]
    refine List.Perm.append_left _ ?_
    have := (perm_cut ha).map (fun t : Tk => t.1)
    simpa using this
theorem out_all (s : Int) (l : List Tk) {k : Nat} (hk : k < l.length) : (l.getD k default).1 ∈ outL s l l.length := by
  have h := out_perm s l l.length (Nat.le_refl _)
  have hr := remL_len s l l.length (Nat.le_refl _)
  rw [List.eq_nil_of_length_eq_zero (l := remL s l l.length) (by omega), List.map_nil, List.append_nil] at h
  exact h.mem_iff.2 (List.mem_map.2 ⟨_, getD_mem hk, rfl⟩)
theorem out_get (s : Int) (l : List Tk) (j : Nat) : ∀ k, j < k → (outL s l k).getD j default = (outL s l (j + 1)).getD j default
  | 0, h => by omega
  | k + 1, h => by
    by_cases e : j = k
    · rw [e]
    · simp only [outL]
      rw [getD_app_lt (by rw [outL_len]; omega), out_get s l j k (by omega)]
      simp only [outL]
theorem out_first {s : Int} {l : List Tk} {k : Nat} (h : 0 < k) : (outL s l k).getD 0 default = (l.getD (atN s 0 l) default).1 := by
  rw [out_get s l 0 k h]; simp [outL, remL]
def own5 (l : List Tk) : Nat → Int
  | 0 => 0
  | k + 1 => own5 l k + cntT ((k : Int) + 1) l
theorem own5_bd (l : List Tk) : ∀ k : Nat, 0 ≤ own5 l k ∧ own5 l k ≤ k * l.length
  | 0 => by simp [own5]
  | k + 1 => by
    have h1 := own5_bd l k
    have h2 := cntT_bd ((k : Int) + 1) l
    simp only [own5]
    rw [show ((k + 1 : Nat) : Int) * (l.length : Int) = k * l.length + l.length by rw [Int.natCast_add, Int.add_mul]; simp]
    omega
theorem own5_all : ∀ (l : List Tk), (∀ i, i < l.length → 1 ≤ (l.getD i default).2 ∧ (l.getD i default).2 ≤ 5) → own5 l 5 = l.length
  | [], _ => by simp [own5, cntT]
  | t :: l, h => by
    have ih := own5_all l fun i hi => h (i + 1) (by simp; omega)
    have h0 := h 0 (by simp)
    simp only [own5, cntT, List.length_cons] at ih ⊢
    simp at h0
    have e : t.2 = 1 ∨ t.2 = 2 ∨ t.2 = 3 ∨ t.2 = 4 ∨ t.2 = 5 := by omega
    rcases e with e | e | e | e | e <;> simp only [e] <;> simp <;> simp at ih <;> omega
end Go.Proofs.Ythdaggpmmaaidaa
