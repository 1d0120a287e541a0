/- Drawn bookings, and what holds of balances. No conditions. -/
import Derived.Test.YtodjdpdnamfkjaaCurM
import Derived.Test.YtodjdpdnamfkjaaLedD
namespace Go.Proofs.Ytodjdpdnamfkjaa
open Go.Vq
set_option linter.unusedSimpArgs false
set_option maxHeartbeats 1000000
abbrev SBk := TCur × Int × List TBooking
def bkStep (l : List Int) (s : SBk) : SBk :=
  let c1 := s.1
  let c2 := curN l c1
  let c3 := curN l c2
  let c4 := curN l c3
  let d := s.2.1 + belV l c1 4
  let f := belV l c2 5
  (curN l c4, d, s.2.2 ++ [(d, f, (f + 1 + belV l c3 4) % 5, 1 + belV l c4 200)])
def bkK (l : List Int) (c : TCur) : Nat → SBk
  | 0 => (c, 0, [])
  | k + 1 => bkStep l (bkK l c k)
def bkGood (l : List Int) (s : SBk) (k : Nat) : Prop := s.2.2.length = k ∧ (0 ≤ s.2.1 ∧ s.2.1 ≤ 3 * k) ∧ (∀ i, i < k → bookAt s.2.2 i ∧ (s.2.2.getD i default).1 ≤ s.2.1) ∧ (s.1.1 ≤ l.length)
theorem getD_app_lt {α : Type} [Inhabited α] {l m : List α} {i : Nat} (h : i < l.length) : (l ++ m).getD i default = l.getD i default := by
  simp [List.getD, List.getElem?_append_left h]
theorem getD_app_eq {α : Type} [Inhabited α] {l : List α} {x : α} : (l ++ [x]).getD l.length default = x := by
  simp [List.getD]
theorem bookAt_app {l : List TBooking} {x : TBooking} {i : Nat} (h : i < l.length) : bookAt (l ++ [x]) i ↔ bookAt l i := by
  unfold bookAt
  rw [getD_app_lt h]
  by_cases hi : 0 < i
  · rw [getD_app_lt (show i - 1 < l.length by omega)]
  · simp [hi]
theorem ledOk_app {l : List TBooking} {x : TBooking} (h : ledOk l) (hlen : l.length < 60) (hx : (0 ≤ x.1 ∧ x.1 ≤ 9999) ∧ (0 ≤ x.2.1 ∧ x.2.1 ≤ 4) ∧ (0 ≤ x.2.2.1 ∧ x.2.2.1 ≤ 4) ∧ x.2.1 ≠ x.2.2.1 ∧ (1 ≤ x.2.2.2 ∧ x.2.2.2 ≤ 100000))
    (hd : ∀ i, i < l.length → (l.getD i default).1 ≤ x.1) : ledOk (l ++ [x]) := by
  refine ⟨by simp; omega, fun i hi => ?_⟩
  by_cases h1 : i < l.length
  · exact (bookAt_app h1).2 (h.2 i h1)
  · have hi' : i = l.length := by simp at hi; omega
    subst hi'
    unfold bookAt
    rw [getD_app_eq]
    refine ⟨hx.1, hx.2.1, hx.2.2.1, hx.2.2.2.1, hx.2.2.2.2, fun h0 => ?_⟩
    rw [getD_app_lt (show l.length - 1 < l.length by omega)]
    exact hd _ (by omega)
theorem bk_good (l : List Int) {c : TCur} (hc : c.1 ≤ l.length) : ∀ k, k ≤ 60 → bkGood l (bkK l c k) k
  | 0, _ => ⟨rfl, ⟨by simp [bkK], by simp [bkK]⟩, fun i hi => by omega, hc⟩
  | k + 1, hk => by
    obtain ⟨h1, h2, h3, h4⟩ := bk_good l hc k (by omega)
    generalize hs : bkK l c k = s at *
    have b1 := belV_bd l s.1 (n := 4) (by omega)
    have b2 := belV_bd l (curN l s.1) (n := 5) (by omega)
    have b3 := belV_bd l (curN l (curN l s.1)) (n := 4) (by omega)
    have b4 := belV_bd l (curN l (curN l (curN l s.1))) (n := 200) (by omega)
    have hx := ledOk_app (l := s.2.2) (x := (s.2.1 + belV l s.1 4, belV l (curN l s.1) 5, (belV l (curN l s.1) 5 + 1 + belV l (curN l (curN l s.1)) 4) % 5, 1 + belV l (curN l (curN l (curN l s.1))) 200))
      ⟨by omega, fun i hi => (h3 i (by omega)).1⟩ (by omega) ⟨⟨by simp only []; omega, by simp only []; omega⟩, ⟨by simp only []; omega, by simp only []; omega⟩, ⟨by simp only []; omega, by simp only []; omega⟩, by simp only []; omega, ⟨by simp only []; omega, by simp only []; omega⟩⟩
      (fun i hi => by have := (h3 i (by omega)).2; simp only []; omega)
    have hcn : ∀ c : TCur, c.1 ≤ l.length → (curN l c).1 ≤ l.length := fun c h => by unfold curN; simp only []; split <;> omega
    rw [show bkK l c (k + 1) = bkStep l s by simp only [bkK, hs]]
    refine ⟨by simp [bkStep, h1], ⟨by simp only [bkStep]; omega, by simp only [bkStep]; omega⟩, fun i hi => ⟨hx.2 i (by simp; omega), ?_⟩, ?_⟩
    · simp only [bkStep]
      by_cases hi2 : i < s.2.2.length
      · rw [getD_app_lt hi2]; have := (h3 i (by omega)).2; omega
      · rw [show i = s.2.2.length by omega, getD_app_eq]; simp only []; omega
    · simp only [bkStep]
      exact hcn _ (hcn _ (hcn _ (hcn _ h4)))
def drawBk (l : List Int) (c : TCur) : List TBooking := (bkK l (curN l c) (belV l c 9).toNat).2.2
theorem l37List_fn (l : List Int) (hl : l.length ≤ 1048576) (c : TCur) (hc : c.1 ≤ l.length) : FnMC Try.prog 38 [(false, [.ptr 0])] [.box (eCur l c)] [.box (eCur l (bkK l (curN l c) (belV l c 9).toNat).1)] (.one (.own 37 dBooking ((drawBk l c).map eBooking))) := by
  have hb := belV_bd l c (n := 9) (by omega)
  have hc' : (curN l c).1 ≤ l.length := by unfold curN; simp only []; split <;> omega
  refine fn_zm (ty := ty) (ts := [.tmp 2]) [0, 2, 3, 4, 5, 6, 7, 13] mixed ty_ok Try.func38 (by kernel_rfl) rfl (by kernel_rfl) (by kernel_rfl) rfl (.inl rfl) (Nat.le_of_ble_eq_true rfl) (by simp only [likes, Mo.like, and_self]) rfl (by simp only [entryM, maV, Ma.sc, C.toS, Nat.zero_add, Nat.reduceAdd, List.map_cons, List.map_nil]; exact rfl) (by simp only [numb, Mo.ob, C.toS, List.map_cons, List.map_nil]; exact rfl) ?_
  repeat' (first
    | ((with_reducible refine z_run ?_); (conv => whnf))
    | (with_reducible apply z_t)
    | (with_reducible apply z_f)
    | ((with_reducible apply z_b); ((intro h); (try simp only [beq_self_eq_true, eq_self, not_true_eq_false, not_false_eq_true, decide_true, cond_true, cond_false, Bool.not_true, Bool.not_false, Bool.not_eq_true', Bool.not_eq_false', Bool.and_eq_true, Bool.and_eq_false_imp, Bool.or_eq_true, Bool.or_eq_false_iff, decide_eq_true_eq, decide_eq_false_iff_not, Bool.false_eq_true, reduceCtorEq, Int.not_le, Int.not_lt, Decidable.not_not] at h)); rotate_left; ((intro h); (try simp only [beq_self_eq_true, eq_self, not_true_eq_false, not_false_eq_true, decide_true, cond_true, cond_false, Bool.not_true, Bool.not_false, Bool.not_eq_true', Bool.not_eq_false', Bool.and_eq_true, Bool.and_eq_false_imp, Bool.or_eq_true, Bool.or_eq_false_iff, decide_eq_true_eq, decide_eq_false_iff_not, Bool.false_eq_true, reduceCtorEq, Int.not_le, Int.not_lt, Decidable.not_not] at h)))
    | (with_reducible refine z_r ?_ ?_)
    | (with_reducible refine z_wg ?_ ?_)
    | (with_reducible refine z_w ?_ ?_)
    | ((with_reducible apply sh_nil); (intro _))
    | ((with_reducible apply sh_int); (intro _))
    | ((with_reducible apply sh_bool); (intro _))
    | ((with_reducible apply sh_sl); (intro _))
    | (refine z_mm [_] (l01Below_fn l hl _ (by omega)) rfl rfl ⟨rfl, trivial⟩ rfl ?_)
    | ((with_reducible refine z_o ?zo ?_); (case zo => decide +kernel))
    | fail)
  refine z_li (fun k => k ≤ (belV l c 9).toNat) (0 : Nat) (fun k => (belV l c 9).toNat - k) (fun k => ⟨[(0, .one (.bx 500000 0)), (3, .one (.root 8)), (4, .one (.int .i64 (bkK l (curN l c) k).2.1)), (5, .one (.int .i64 (belV l c 9))), (6, .one (.int .i64 k))], [(500000, .box ((eCur l (bkK l (curN l c) k).1).map C.toS)), (8, .row 37 dBooking ((bkK l (curN l c) k).2.2.map eBooking))]⟩) (by omega) ?_ ?_
  · simp only [List.length_map, fillTo_zero, Int.toNat_natCast, Option.isSome_some, and_self, fixB, Nat.reduceLeDiff, false_implies, true_implies, forall_const, St.le, slsLe, obsLe, vLe, scLe, scsLe, obLe, Vq.look, Nat.reduceEqDiff, if_true, if_false, reduceCtorEq, ↓reduceIte, true_and, and_true, bkK, eCur, C.toS, List.map_cons, List.map_nil]; and_intros <;> first | rfl | omega
  · intro k hk
    obtain ⟨h1, h2, h3, h4⟩ := bk_good l hc' k (by omega)
    have b1 := belV_bd l (bkK l (curN l c) k).1 (n := 4) (by omega)
    have b2 := belV_bd l (curN l (bkK l (curN l c) k).1) (n := 5) (by omega)
    have b3 := belV_bd l (curN l (curN l (bkK l (curN l c) k).1)) (n := 4) (by omega)
    have b4 := belV_bd l (curN l (curN l (curN l (bkK l (curN l c) k).1))) (n := 200) (by omega)
    repeat' (first
    | ((with_reducible refine z_run ?_); (conv => whnf))
    | (with_reducible apply z_t)
    | (with_reducible apply z_f)
    | ((with_reducible apply z_b); ((intro h); (try simp only [beq_self_eq_true, eq_self, not_true_eq_false, not_false_eq_true, decide_true, cond_true, cond_false, Bool.not_true, Bool.not_false, Bool.not_eq_true', Bool.not_eq_false', Bool.and_eq_true, Bool.and_eq_false_imp, Bool.or_eq_true, Bool.or_eq_false_iff, decide_eq_true_eq, decide_eq_false_iff_not, Bool.false_eq_true, reduceCtorEq, Int.not_le, Int.not_lt, Decidable.not_not] at h)); rotate_left; ((intro h); (try simp only [beq_self_eq_true, eq_self, not_true_eq_false, not_false_eq_true, decide_true, cond_true, cond_false, Bool.not_true, Bool.not_false, Bool.not_eq_true', Bool.not_eq_false', Bool.and_eq_true, Bool.and_eq_false_imp, Bool.or_eq_true, Bool.or_eq_false_iff, decide_eq_true_eq, decide_eq_false_iff_not, Bool.false_eq_true, reduceCtorEq, Int.not_le, Int.not_lt, Decidable.not_not] at h)))
    | (with_reducible refine z_r ?_ ?_)
    | (with_reducible refine z_wg ?_ ?_)
    | (with_reducible refine z_w ?_ ?_)
    | ((with_reducible apply sh_nil); (intro _))
    | ((with_reducible apply sh_int); (intro _))
    | ((with_reducible apply sh_bool); (intro _))
    | ((with_reducible apply sh_sl); (intro _))
    | (refine z_mm [_] (l01Below_fn l hl _ (by omega)) rfl rfl ⟨rfl, trivial⟩ rfl ?_)
    | ((with_reducible refine z_o ?zo ?_); (case zo => decide +kernel))
    | fail)
    all_goals ((try simp only [Int.toNat_natCast, tn1, tp1, List.length_map, eq_self, true_and, and_true] at *); (try simp (disch := omega) only [wr, Int.toNat_natCast, tn1, tp1, List.length_map, eq_self, true_and, and_true] at *))
    all_goals (try simp (disch := omega) only [Int.tmod_eq_emod_of_nonneg] at *)
    all_goals (first
      | omega
      | (simp only [List.length_map, List.length_cons, List.length_nil]; omega)
      | (refine z_em rfl rfl ?_ ?_ <;> simp only [fin, finP, finM, finO, Mo.ob, ids, nodupB, tupP, tupM, memN, ev, Vq.look, List.map_cons, List.map_nil, and_true, true_and, Nat.reduceEqDiff, if_true, if_false, reduceCtorEq, ↓reduceIte]
         · rw [show k = (belV l c 9).toNat by omega]; rfl
         · rw [show k = (belV l c 9).toNat by omega])
      | (refine z_n (k + 1) ⟨by omega, by omega⟩ ?_
         rw [show bkK l (curN l c) (k + 1) = bkStep l (bkK l (curN l c) k) from rfl]
         simp only [bkStep, List.map_append, eCur, C.toS, List.map_cons, List.map_nil]
         simp only [List.length_map, fillTo_zero, Int.toNat_natCast, Option.isSome_some, and_self, fixB, Nat.reduceLeDiff, false_implies, true_implies, forall_const, St.le, slsLe, obsLe, vLe, scLe, scsLe, obLe, Vq.look, Nat.reduceEqDiff, if_true, if_false, reduceCtorEq, ↓reduceIte, true_and, and_true] <;> (and_intros <;> first | rfl | omega | assumption)))
theorem draw_fn (l : List Int) (hl : l.length ≤ 1048576) : FnC Try.prog 32 [(false, [.sq dU (l.map eU)])] (.one (.own 37 dBooking ((drawBk l (curZ l)).map eBooking))) := by
  refine fn_z (ty := ty) (ts := [.tmp 2]) [0, 2] mixed ty_ok Try.func32 (by kernel_rfl) rfl (by kernel_rfl) (by kernel_rfl) rfl (.inl rfl) (Nat.le_of_ble_eq_true rfl) (by simp only [entry, entryV, C.toS, Nat.zero_add, Nat.reduceAdd, List.map_cons, List.map_nil]; exact rfl) ?_
  repeat' (first
    | ((with_reducible refine z_run ?_); (conv => whnf))
    | (with_reducible apply z_t)
    | (with_reducible apply z_f)
    | ((with_reducible apply z_b); ((intro h); (try simp only [beq_self_eq_true, eq_self, not_true_eq_false, not_false_eq_true, decide_true, cond_true, cond_false, Bool.not_true, Bool.not_false, Bool.not_eq_true', Bool.not_eq_false', Bool.and_eq_true, Bool.and_eq_false_imp, Bool.or_eq_true, Bool.or_eq_false_iff, decide_eq_true_eq, decide_eq_false_iff_not, Bool.false_eq_true, reduceCtorEq, Int.not_le, Int.not_lt, Decidable.not_not] at h)); rotate_left; ((intro h); (try simp only [beq_self_eq_true, eq_self, not_true_eq_false, not_false_eq_true, decide_true, cond_true, cond_false, Bool.not_true, Bool.not_false, Bool.not_eq_true', Bool.not_eq_false', Bool.and_eq_true, Bool.and_eq_false_imp, Bool.or_eq_true, Bool.or_eq_false_iff, decide_eq_true_eq, decide_eq_false_iff_not, Bool.false_eq_true, reduceCtorEq, Int.not_le, Int.not_lt, Decidable.not_not] at h)))
    | (with_reducible refine z_r ?_ ?_)
    | (with_reducible refine z_wg ?_ ?_)
    | (with_reducible refine z_w ?_ ?_)
    | ((with_reducible apply sh_nil); (intro _))
    | ((with_reducible apply sh_int); (intro _))
    | ((with_reducible apply sh_bool); (intro _))
    | ((with_reducible apply sh_sl); (intro _))
    | (with_reducible refine z_k (l01New_fn l hl) ?_)
    | (refine z_mm [_] (l37List_fn l hl _ (by simp [curZ])) rfl rfl ⟨rfl, trivial⟩ rfl ?_)
    | ((with_reducible refine z_o ?zo ?_); (case zo => decide +kernel))
    | fail)
  all_goals refine z_e rfl ?_; simp only [fin, finP, finM, ids, nodupB, tupP, tupM, memN, List.length_cons, List.length_nil, List.nil_append, List.append_nil, List.cons_append, Nat.zero_add, Nat.reduceAdd, ne_eq, not_false_eq_true, eq_self, ev, Vq.look, List.map_cons, List.map_nil, and_true, true_and, Nat.reduceEqDiff, if_true, if_false, reduceCtorEq, ↓reduceIte]
end Go.Proofs.Ytodjdpdnamfkjaa
