/- Drawn members, and what holds of dues and good standing. No conditions. -/
import Derived.Test.YtjaeandgeefpdaaCurM
import Derived.Test.YtjaeandgeefpdaaMemC
namespace Go.Proofs.Ytjaeandgeefpdaa
open Go.Vq
set_option linter.unusedSimpArgs false
set_option linter.unnecessarySimpa false
set_option maxHeartbeats 1000000
theorem getD_app_lt {α : Type} [Inhabited α] {l m : List α} {i : Nat} (h : i < l.length) : (l ++ m).getD i default = l.getD i default := by
  simp [List.getD, List.getElem?_append_left h]
theorem getD_app_eq {α : Type} [Inhabited α] {l : List α} {x : α} : (l ++ [x]).getD l.length default = x := by
  simp [List.getD]
theorem memAt_app {l : List TMember} {x : TMember} {i : Nat} (h : i < l.length) : memAt (l ++ [x]) i ↔ memAt l i := by
  unfold memAt
  rw [getD_app_lt h]
  by_cases hi : 0 < i
  · rw [getD_app_lt (show i - 1 < l.length by omega)]
  · simp [hi]
theorem memOk_app {l : List TMember} {x : TMember} (h : memOk l) (hlen : l.length < 40) (hx : (1 ≤ x.1 ∧ x.1 ≤ 999) ∧ (1900 ≤ x.2.1 ∧ x.2.1 ≤ 2999) ∧ (x.2.1 - 1 ≤ x.2.2 ∧ x.2.2 ≤ 2999)) (hd : ∀ i, i < l.length → (l.getD i default).1 < x.1) : memOk (l ++ [x]) := by
  refine ⟨by simp; omega, fun i hi => ?_⟩
  by_cases h1 : i < l.length
  · exact (memAt_app h1).2 (h.2 i h1)
  · have hi' : i = l.length := by simp at hi; omega
    subst hi'
    unfold memAt
    rw [getD_app_eq]
    refine ⟨hx.1, hx.2.1, hx.2.2, fun h0 => ?_⟩
    rw [getD_app_lt (show l.length - 1 < l.length by omega)]
    exact hd _ (by omega)
/-! ### drawn members -/
abbrev SMb := TCur × Int × List TMember
def mbStep (l : List Int) (s : SMb) : SMb :=
  let c2 := curN l s.1
  let c3 := curN l c2
  let a := s.2.1 + 1 + belV l s.1 4
  let y := 1990 + belV l c2 30
  (curN l c3, a, s.2.2 ++ [(a, y, y - 1 + belV l c3 12)])
def mbK (l : List Int) (c : TCur) : Nat → SMb
  | 0 => (c, 0, [])
  | k + 1 => mbStep l (mbK l c k)
def mbAt (m : List TMember) (i : Nat) : Prop := memAt m i ∧ ((m.getD i default).1 ≤ 40 ∧ (m.getD i default).2.1 ≤ 2020 ∧ (m.getD i default).2.2 ≤ 2030)
def mbGood (l : List Int) (s : SMb) (k : Nat) : Prop := s.2.2.length = k ∧ (0 ≤ s.2.1 ∧ s.2.1 ≤ 4 * k) ∧ (∀ i, i < k → mbAt s.2.2 i ∧ (s.2.2.getD i default).1 ≤ s.2.1) ∧ s.1.1 ≤ l.length
theorem mb_good (l : List Int) {c : TCur} (hc : c.1 ≤ l.length) : ∀ k, k ≤ 8 → mbGood l (mbK l c k) k
  | 0, _ => ⟨rfl, ⟨by simp [mbK], by simp [mbK]⟩, fun i hi => by omega, hc⟩
  | k + 1, hk => by
    obtain ⟨h1, h2, h3, h4⟩ := mb_good l hc k (by omega)
    generalize hs : mbK l c k = s at *
    have b1 := belV_bd l s.1 (n := 4) (by omega)
    have b2 := belV_bd l (curN l s.1) (n := 30) (by omega)
    have b3 := belV_bd l (curN l (curN l s.1)) (n := 12) (by omega)
    rw [show mbK l c (k + 1) = mbStep l s by simp only [mbK, hs]]
    refine ⟨by simp [mbStep, h1], ⟨by simp only [mbStep]; omega, by simp only [mbStep]; omega⟩, fun i hi => ?_, curN_le (curN_le (curN_le h4))⟩
    have hx := memOk_app (l := s.2.2) (x := (s.2.1 + 1 + belV l s.1 4, 1990 + belV l (curN l s.1) 30, 1990 + belV l (curN l s.1) 30 - 1 + belV l (curN l (curN l s.1)) 12))
      ⟨by omega, fun i hi => (h3 i (by omega)).1.1⟩ (by omega) ⟨⟨by simp only []; omega, by simp only []; omega⟩, ⟨by simp only []; omega, by simp only []; omega⟩, ⟨by simp only []; omega, by simp only []; omega⟩⟩
      (fun i hi => by have := (h3 i (by omega)).2; simp only []; omega)
    simp only [mbStep]
    unfold mbAt
    by_cases hi2 : i < s.2.2.length
    · have h5 := h3 i (by omega)
      unfold mbAt at h5
      refine ⟨⟨hx.2 i (by simp; omega), ?_⟩, ?_⟩
      · rw [getD_app_lt hi2]; exact h5.1.2
      · rw [getD_app_lt hi2]; omega
    · have hi3 : i = s.2.2.length := by omega
      refine ⟨⟨hx.2 i (by simp; omega), ?_⟩, ?_⟩
      · rw [hi3, getD_app_eq]; simp only []; omega
      · rw [hi3, getD_app_eq]; simp only []; omega
def drawMb (l : List Int) (c : TCur) : List TMember := (mbK l (curN l c) (belV l c 7).toNat).2.2
theorem l33List_fn (l : List Int) (hl : l.length ≤ 1048576) (c : TCur) (hc : c.1 ≤ l.length) : FnMC Try.prog 39 [(false, [.ptr 0])] [.box (eCur l c)] [.box (eCur l (mbK l (curN l c) (belV l c 7).toNat).1)] (.one (.own 45 dMember ((drawMb l c).map eMember))) := by
  have hb := belV_bd l c (n := 7) (by omega)
  have hc' := curN_le hc
  refine fn_zm (ty := ty) (ts := [.tmp 2]) [0, 2, 3, 4, 5, 6, 7, 13] mixed ty_ok Try.func39 (by kernel_rfl) rfl (by kernel_rfl) (by kernel_rfl) rfl (.inl rfl) (Nat.le_of_ble_eq_true rfl) (by simp only [likes, Mo.like, and_self]) rfl (by simp only [entryM, maV, Ma.sc, C.toS, Nat.zero_add, Nat.reduceAdd, List.map_cons, List.map_nil]; exact rfl) (by simp only [numb, Mo.ob, C.toS, List.map_cons, List.map_nil]; exact rfl) ?_
  repeat' (first
    | ((with_reducible refine z_run ?_); (conv => whnf))
    | (with_reducible apply z_t)
    | (with_reducible apply z_f)
    | ((with_reducible apply z_b); ((intro h); (try simp only [beq_self_eq_true, eq_self, not_true_eq_false, not_false_eq_true, decide_true, cond_true, cond_false, Bool.not_true, Bool.not_false, Bool.not_eq_true', Bool.not_eq_false', Bool.and_eq_true, Bool.and_eq_false_imp, Bool.or_eq_true, Bool.or_eq_false_iff, decide_eq_true_eq, decide_eq_false_iff_not, Bool.false_eq_true, reduceCtorEq, Int.not_le, Int.not_lt, Decidable.not_not] at h)); rotate_left; ((intro h); (try simp only [beq_self_eq_true, eq_self, not_true_eq_false, not_false_eq_true, decide_true, cond_true, cond_false, Bool.not_true, Bool.not_false, Bool.not_eq_true', Bool.not_eq_false', Bool.and_eq_true, Bool.and_eq_false_imp, Bool.or_eq_true, Bool.or_eq_false_iff, decide_eq_true_eq, decide_eq_false_iff_not, Bool.false_eq_true, reduceCtorEq, Int.not_le, Int.not_lt, Decidable.not_not] at h)))
    | (with_reducible refine z_r ?_ ?_)
    | (with_reducible refine z_wg ?_ ?_)
    | (with_reducible refine z_w ?_ ?_)
    | ((with_reducible apply sh_nil); (intro _))
    | ((with_reducible apply sh_int); (intro _))
    | ((with_reducible apply sh_bool); (intro _))
    | ((with_reducible apply sh_sl); (intro _))
    | (refine z_mm [_] (l01Below_fn l hl _ (by omega)) rfl rfl ⟨rfl, trivial⟩ rfl ?_)
    | ((with_reducible refine z_o ?zo ?_); (case zo => decide +kernel))
    | fail)
  refine z_li (fun k => k ≤ (belV l c 7).toNat) (0 : Nat) (fun k => (belV l c 7).toNat - k) (fun k => ⟨[(0, .one (.bx 500000 0)), (3, .one (.root 8)), (4, .one (.int .i64 (mbK l (curN l c) k).2.1)), (5, .one (.int .i64 (belV l c 7))), (6, .one (.int .i64 k))], [(500000, .box ((eCur l (mbK l (curN l c) k).1).map C.toS)), (8, .row 45 dMember ((mbK l (curN l c) k).2.2.map eMember))]⟩) (by omega) ?_ ?_
  · simp only [List.length_map, fillTo_zero, Int.toNat_natCast, Option.isSome_some, and_self, fixB, Nat.reduceLeDiff, false_implies, true_implies, forall_const, St.le0, St.swaps, St.ren, mapV, renO, V.ren, Sc.ren, Ob.ren, swp, slsLe, obsLe, vLe, scLe, scsLe, obLe, Vq.look, Nat.reduceEqDiff, if_true, if_false, reduceCtorEq, ↓reduceIte, true_and, and_true, mbK, eCur, C.toS, List.map_cons, List.map_nil]; and_intros <;> first | rfl | omega
  · intro k hk
    obtain ⟨h1, h2, h3, h4⟩ := mb_good l hc' k (by omega)
    have b1 := belV_bd l (mbK l (curN l c) k).1 (n := 4) (by omega)
    have b2 := belV_bd l (curN l (mbK l (curN l c) k).1) (n := 30) (by omega)
    have b3 := belV_bd l (curN l (curN l (mbK l (curN l c) k).1)) (n := 12) (by omega)
    repeat' (first
    | ((with_reducible refine z_run ?_); (conv => whnf))
    | (with_reducible apply z_t)
    | (with_reducible apply z_f)
    | ((with_reducible apply z_b); ((intro h); (try simp only [beq_self_eq_true, eq_self, not_true_eq_false, not_false_eq_true, decide_true, cond_true, cond_false, Bool.not_true, Bool.not_false, Bool.not_eq_true', Bool.not_eq_false', Bool.and_eq_true, Bool.and_eq_false_imp, Bool.or_eq_true, Bool.or_eq_false_iff, decide_eq_true_eq, decide_eq_false_iff_not, Bool.false_eq_true, reduceCtorEq, Int.not_le, Int.not_lt, Decidable.not_not] at h)); rotate_left; ((intro h); (try simp only [beq_self_eq_true, eq_self, not_true_eq_false, not_false_eq_true, decide_true, cond_true, cond_false, Bool.not_true, Bool.not_false, Bool.not_eq_true', Bool.not_eq_false', Bool.and_eq_true, Bool.and_eq_false_imp, Bool.or_eq_true, Bool.or_eq_false_iff, decide_eq_true_eq, decide_eq_false_iff_not, Bool.false_eq_true, reduceCtorEq, Int.not_le, Int.not_lt, Decidable.not_not] at h)))
    | (with_reducible refine z_r ?_ ?_)
    | (with_reducible refine z_wg ?_ ?_)
    | (with_reducible refine z_w ?_ ?_)
    | ((with_reducible apply sh_nil); (intro _))
    | ((with_reducible apply sh_int); (intro _))
    | ((with_reducible apply sh_bool); (intro _))
    | ((with_reducible apply sh_sl); (intro _))
    | (refine z_mm [_] (l01Below_fn l hl _ (by omega)) rfl rfl ⟨rfl, trivial⟩ rfl ?_)
    | ((with_reducible refine z_o ?zo ?_); (case zo => decide +kernel))
    | fail)
    all_goals ((try simp only [Int.toNat_natCast, tn1, tp1, List.length_map, eq_self, true_and, and_true] at *); (try simp (disch := omega) only [wr, Int.toNat_natCast, tn1, tp1, List.length_map, eq_self, true_and, and_true] at *))
    all_goals (first
      | omega
      | (simp only [List.length_map, List.length_cons, List.length_nil]; omega)
      | (refine z_em rfl rfl ?_ ?_ <;> simp only [fin, finP, finM, finO, Mo.ob, ids, nodupB, tupP, tupM, memN, ev, Vq.look, List.map_cons, List.map_nil, and_true, true_and, Nat.reduceEqDiff, if_true, if_false, reduceCtorEq, ↓reduceIte]
         · rw [show k = (belV l c 7).toNat by omega]; rfl
         · rw [show k = (belV l c 7).toNat by omega])
      | (refine z_n (k + 1) ⟨by omega, by omega⟩ ?_
         rw [show mbK l (curN l c) (k + 1) = mbStep l (mbK l (curN l c) k) from rfl]
         simp only [mbStep, List.map_append, eCur, C.toS, List.map_cons, List.map_nil]
         simp only [List.length_map, fillTo_zero, Int.toNat_natCast, Option.isSome_some, and_self, fixB, Nat.reduceLeDiff, false_implies, true_implies, forall_const, St.le0, St.swaps, St.ren, mapV, renO, V.ren, Sc.ren, Ob.ren, swp, slsLe, obsLe, vLe, scLe, scsLe, obLe, Vq.look, Nat.reduceEqDiff, if_true, if_false, reduceCtorEq, ↓reduceIte, true_and, and_true] <;> (and_intros <;> first | rfl | omega | assumption)))
theorem draw_fn (l : List Int) (hl : l.length ≤ 1048576) : FnC Try.prog 31 [(false, [.sq dU (l.map eU)])] (.one (.own 45 dMember ((drawMb l (curZ l)).map eMember))) := by
  refine fn_z (ty := ty) (ts := [.tmp 2]) [0, 2] mixed ty_ok Try.func31 (by kernel_rfl) rfl (by kernel_rfl) (by kernel_rfl) rfl (.inl rfl) (Nat.le_of_ble_eq_true rfl) (by simp only [entry, entryV, C.toS, Nat.zero_add, Nat.reduceAdd, List.map_cons, List.map_nil]; exact rfl) ?_
  repeat' (first
    | ((with_reducible refine z_run ?_); (conv => whnf))
    | (with_reducible apply z_t)
    | (with_reducible apply z_f)
    | ((with_reducible apply z_b); ((intro h); (try simp only [beq_self_eq_true, eq_self, not_true_eq_false, not_false_eq_true, decide_true, cond_true, cond_false, Bool.not_true, Bool.not_false, Bool.not_eq_true', Bool.not_eq_false', Bool.and_eq_true, Bool.and_eq_false_imp, Bool.or_eq_true, Bool.or_eq_false_iff, decide_eq_true_eq, decide_eq_false_iff_not, Bool.false_eq_true, reduceCtorEq, Int.not_le, Int.not_lt, Decidable.not_not] at h)); rotate_left; ((intro h); (try simp only [beq_self_eq_true, eq_self, not_true_eq_false, not_false_eq_true, decide_true, cond_true, cond_false, Bool.not_true, Bool.not_false, Bool.not_eq_true', Bool.not_eq_false', Bool.and_eq_true, Bool.and_eq_false_imp, Bool.or_eq_true, Bool.or_eq_false_iff, decide_eq_true_eq, decide_eq_false_iff_not, Bool.false_eq_true, reduceCtorEq, Int.not_le, Int.not_lt, Decidable.not_not] at h)))
    | (with_reducible refine z_r ?_ ?_)
    | (with_reducible refine z_wg ?_ ?_)
    | (with_reducible refine z_w ?_ ?_)
    | ((with_reducible apply sh_nil); (intro _))
    | ((with_reducible apply sh_int); (intro _))
    | ((with_reducible apply sh_bool); (intro _))
    | ((with_reducible apply sh_sl); (intro _))
    | (with_reducible refine z_k (l01New_fn l hl) ?_)
    | (refine z_mm [_] (l33List_fn l hl _ (by simp [curZ])) rfl rfl ⟨rfl, trivial⟩ rfl ?_)
    | ((with_reducible refine z_o ?zo ?_); (case zo => decide +kernel))
    | fail)
  all_goals refine z_e rfl ?_; simp only [fin, finP, finM, ids, nodupB, tupP, tupM, memN, List.length_cons, List.length_nil, List.nil_append, List.append_nil, List.cons_append, Nat.zero_add, Nat.reduceAdd, ne_eq, not_false_eq_true, eq_self, ev, Vq.look, List.map_cons, List.map_nil, and_true, true_and, Nat.reduceEqDiff, if_true, if_false, reduceCtorEq, ↓reduceIte]
/-! ### numbers are different -/
theorem mem_lt {l : List TMember} (h : memOk l) {i : Nat} : ∀ d, i + d + 1 < l.length → (l.getD i default).1 < (l.getD (i + d + 1) default).1
  | 0, hd => by have := (h.2 (i + 0 + 1) hd).2.2.2 (by omega); simpa using this
  | d + 1, hd => by
    have h1 := mem_lt h (i := i) d (by omega)
    have h2 := (h.2 (i + (d + 1) + 1) hd).2.2.2 (by omega)
    rw [show i + (d + 1) + 1 - 1 = i + d + 1 by omega] at h2
    omega
theorem mem_inj {l : List TMember} (h : memOk l) {i j : Nat} (hi : i < l.length) (hj : j < l.length) (he : (l.getD i default).1 = (l.getD j default).1) : i = j := by
  rcases Nat.lt_trichotomy i j with hlt | heq | hgt
  · have := mem_lt h (i := i) (j - i - 1) (by omega)
    rw [show i + (j - i - 1) + 1 = j by omega] at this; omega
  · exact heq
  · have := mem_lt h (i := j) (i - j - 1) (by omega)
    rw [show j + (i - j - 1) + 1 = i by omega] at this; omega
theorem mem_getD {l : List TMember} {m : TMember} : m ∈ l ↔ ∃ i, i < l.length ∧ l.getD i default = m := by
  constructor
  · intro h
    obtain ⟨i, hi, he⟩ := List.getElem_of_mem h
    exact ⟨i, hi, by rw [List.getD, List.getElem?_eq_getElem hi]; exact he⟩
  · rintro ⟨i, hi, rfl⟩
    rw [List.getD, List.getElem?_eq_getElem hi]; exact List.getElem_mem hi
theorem good_iff {l : List TMember} (h : memOk l) {k : Nat} (hk : k < l.length) (y : Int) : (l.getD k default).1 ∈ goodL l y ↔ y ≤ (l.getD k default).2.2 := by
  unfold goodL
  simp only [List.mem_map, List.mem_filter, decide_eq_true_eq]
  constructor
  · rintro ⟨m, ⟨hm, hy⟩, he⟩
    obtain ⟨i, hi, rfl⟩ := mem_getD.1 hm
    rw [mem_inj h hi hk he] at hy; exact hy
  · intro hy
    exact ⟨_, ⟨mem_getD.2 ⟨k, hk, rfl⟩, hy⟩, rfl⟩
theorem goodR_eq {l : List TMember} (h : memOk l) (y : Int) : goodR l y = goodL l y := if_pos h
theorem sen_le (l : List TMember) : ∀ k i, i < k → (l.getD (sen l k) default).2.1 ≤ (l.getD i default).2.1
  | 0, i, h => by omega
  | k + 1, i, h => by
    simp only [sen]
    by_cases hi : i < k
    · have := sen_le l k i hi
      split <;> omega
    · rw [show i = k by omega]
      split <;> omega
end Go.Proofs.Ytjaeandgeefpdaa
