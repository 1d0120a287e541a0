/- Drawn offers, and what holds of steps and costs. No conditions. -/
import Derived.Test.YtloeibdplgcgbaaStockP
namespace Go.Proofs.Ytloeibdplgcgbaa
open Go.Vq
set_option linter.unusedSimpArgs false
set_option linter.unnecessarySimpa false
set_option maxHeartbeats 1000000
theorem getD_app_lt {α : Type} [Inhabited α] {l m : List α} {i : Nat} (h : i < l.length) : (l ++ m).getD i default = l.getD i default := by
  simp [List.getD, List.getElem?_append_left h]
theorem getD_app_eq {α : Type} [Inhabited α] {l : List α} {x : α} : (l ++ [x]).getD l.length default = x := by
  simp [List.getD]
/-! ### drawn offers -/
def ofN (l : List Int) (c : TCur) : TCur := curN l (curN l (curN l c))
def ofV (l : List Int) (c : TCur) : TOffer := (belV l c 6, 1 + belV l (curN l c) 40, belV l (curN l (curN l c)) 100)
abbrev SOf := TCur × List TOffer
def ofA (l : List Int) (c : TCur) : Nat → SOf
  | 0 => (c, [])
  | k + 1 => (ofN l (ofA l c k).1, (ofA l c k).2 ++ [((k : Int), (ofV l (ofA l c k).1).2)])
def ofB (l : List Int) (s : SOf) : Nat → SOf
  | 0 => s
  | k + 1 => (ofN l (ofB l s k).1, (ofB l s k).2 ++ [ofV l (ofB l s k).1])
def drawOf (l : List Int) (c : TCur) : SOf := ofB l (curN l (ofA l c 6).1, (ofA l c 6).2) (belV l (ofA l c 6).1 5).toNat
def smallO (o : TOffer) : Prop := (0 ≤ o.1 ∧ o.1 ≤ 5) ∧ (1 ≤ o.2.1 ∧ o.2.1 ≤ 40) ∧ (0 ≤ o.2.2 ∧ o.2.2 ≤ 99)
theorem ofV_small (l : List Int) (c : TCur) : smallO (ofV l c) := by
  have b1 := belV_bd l c (n := 6) (by omega)
  have b2 := belV_bd l (curN l c) (n := 40) (by omega)
  have b3 := belV_bd l (curN l (curN l c)) (n := 100) (by omega)
  unfold smallO ofV; simp only []; omega
theorem ofN_le {l : List Int} {c : TCur} (h : c.1 ≤ l.length) : (ofN l c).1 ≤ l.length := curN_le (curN_le (curN_le h))
theorem ofA_good (l : List Int) {c : TCur} (hc : c.1 ≤ l.length) : ∀ k, k ≤ 6 → (ofA l c k).2.length = k ∧ (∀ i, i < k → smallO ((ofA l c k).2.getD i default) ∧ ((ofA l c k).2.getD i default).1 = i) ∧ (ofA l c k).1.1 ≤ l.length
  | 0, _ => ⟨rfl, fun i hi => by omega, hc⟩
  | k + 1, hk => by
    obtain ⟨h1, h2, h3⟩ := ofA_good l hc k (by omega)
    refine ⟨by simp [ofA, h1], fun i hi => ?_, ofN_le h3⟩
    simp only [ofA]
    by_cases hi2 : i < k
    · rw [getD_app_lt (by omega)]; exact h2 i hi2
    · have e : ((ofA l c k).2 ++ [((k : Int), (ofV l (ofA l c k).1).2)]).getD i default = ((k : Int), (ofV l (ofA l c k).1).2) := by
        rw [show i = (ofA l c k).2.length by omega, getD_app_eq]
      have := ofV_small l (ofA l c k).1
      rw [e]
      unfold smallO at this ⊢
      simp only []; omega
theorem ofB_good (l : List Int) {s : SOf} (hc : s.1.1 ≤ l.length) (hs : ∀ i, i < s.2.length → smallO (s.2.getD i default)) : ∀ k, (ofB l s k).2.length = s.2.length + k ∧ (∀ i, i < s.2.length + k → smallO ((ofB l s k).2.getD i default)) ∧ (∀ i, i < s.2.length → (ofB l s k).2.getD i default = s.2.getD i default) ∧ (ofB l s k).1.1 ≤ l.length
  | 0 => ⟨rfl, hs, fun i hi => rfl, hc⟩
  | k + 1 => by
    obtain ⟨h1, h2, h4, h3⟩ := ofB_good l hc hs k
    refine ⟨by simp [ofB, h1]; omega, fun i hi => ?_, fun i hi => ?_, ofN_le h3⟩
    · simp only [ofB]
      by_cases hi2 : i < s.2.length + k
      · rw [getD_app_lt (by omega)]; exact h2 i hi2
      · rw [show i = (ofB l s k).2.length by omega, getD_app_eq]
        exact ofV_small l _
    · simp only [ofB]
      rw [getD_app_lt (by omega)]; exact h4 i hi
def sixOf (L : List TOffer) : Prop := 6 ≤ L.length ∧ L.length ≤ 10 ∧ (∀ i, i < L.length → smallO (L.getD i default)) ∧ (∀ i, i < 6 → (L.getD i default).1 = i)
theorem drawOf_good (l : List Int) : sixOf (drawOf l (curZ l)).2 := by
  have h0 : (curZ l).1 ≤ l.length := by simp [curZ]
  obtain ⟨h1, h2, h3⟩ := ofA_good l h0 6 (by omega)
  have hb := belV_bd l (ofA l (curZ l) 6).1 (n := 5) (by omega)
  obtain ⟨h4, h5, h6, _⟩ := ofB_good l (s := (curN l (ofA l (curZ l) 6).1, (ofA l (curZ l) 6).2)) (curN_le h3) (fun i hi => (h2 i (by simp only [] at hi; omega)).1) (belV l (ofA l (curZ l) 6).1 5).toNat
  simp only [] at h4 h5 h6
  unfold sixOf drawOf
  refine ⟨by omega, by omega, fun i hi => h5 i (by omega), fun i hi => ?_⟩
  rw [h6 i (by omega)]; exact (h2 i hi).2
theorem l32Offer_fn (l : List Int) (hl : l.length ≤ 1048576) (c : TCur) : FnMC Try.prog 58 [(false, [.ptr 0])] [.box (eCur l c)] [.box (eCur l (ofN l c))] (.agg [.int .i64 (ofV l c).1, .int .i64 (ofV l c).2.1, .int .i64 (ofV l c).2.2]) := by
  have b2 := belV_bd l (curN l c) (n := 40) (by omega)
  refine fn_zm (ty := ty) (ts := [.cell 2 25 3]) [0, 2, 2] mixed ty_ok Try.func58 (by kernel_rfl) rfl (by kernel_rfl) (by kernel_rfl) rfl (.inl rfl) (Nat.le_of_ble_eq_true rfl) (by simp only [likes, Mo.like, and_self]) rfl (by simp only [entryM, maV, Ma.sc, C.toS, Nat.zero_add, Nat.reduceAdd, List.map_cons, List.map_nil]; exact rfl) (by simp only [numb, Mo.ob, C.toS, List.map_cons, List.map_nil]; exact rfl) ?_
  repeat' (first
    | ((with_reducible refine z_run ?_); (conv => whnf))
    | (with_reducible apply z_t)
    | (with_reducible apply z_f)
    | ((with_reducible apply z_b); ((intro h); (try simp only [beq_self_eq_true, eq_self, not_true_eq_false, not_false_eq_true, decide_true, cond_true, cond_false, Bool.not_true, Bool.not_false, Bool.not_eq_true', Bool.not_eq_false', Bool.and_eq_true, Bool.and_eq_false_imp, Bool.or_eq_true, Bool.or_eq_false_iff, decide_eq_true_eq, decide_eq_false_iff_not, Bool.false_eq_true, reduceCtorEq, Int.not_le, Int.not_lt, Decidable.not_not] at h)); rotate_left; ((intro h); (try simp only [beq_self_eq_true, eq_self, not_true_eq_false, not_false_eq_true, decide_true, cond_true, cond_false, Bool.not_true, Bool.not_false, Bool.not_eq_true', Bool.not_eq_false', Bool.and_eq_true, Bool.and_eq_false_imp, Bool.or_eq_true, Bool.or_eq_false_iff, decide_eq_true_eq, decide_eq_false_iff_not, Bool.false_eq_true, reduceCtorEq, Int.not_le, Int.not_lt, Decidable.not_not] at h)))
    | (with_reducible refine z_r ?_ ?_)
    | (with_reducible refine z_wg ?_ ?_)
    | (with_reducible refine z_w ?_ ?_)
    | ((with_reducible apply sh_nil); (intro _))
    | ((with_reducible apply sh_int); (intro _))
    | ((with_reducible apply sh_bool); (intro _))
    | ((with_reducible apply sh_sl); (intro _))
    | (refine z_mm [_] (l01Below_fn l hl _ (by omega)) rfl rfl ⟨rfl, trivial⟩ rfl ?_)
    | ((with_reducible refine z_o ?zo ?_); (case zo => decide +kernel))
    | fail)
  all_goals ((try simp only [Int.toNat_natCast, tn1, tp1, List.length_map, eq_self, true_and, and_true] at *); (try simp (disch := omega) only [wr, Int.toNat_natCast, tn1, tp1, List.length_map, eq_self, true_and, and_true] at *))
  all_goals (first
    | omega
    | (refine z_em rfl rfl ?_ ?_ <;> simp only [fin, finP, finM, finO, Mo.ob, ids, nodupB, tupP, tupM, memN, ev, Vq.look, List.map_cons, List.map_nil, and_true, true_and, Nat.reduceEqDiff, if_true, if_false, reduceCtorEq, ↓reduceIte]
       · exact ⟨rfl, rfl, rfl⟩
       · rfl))
theorem l32List_fn (l : List Int) (hl : l.length ≤ 1048576) (c : TCur) (hc : c.1 ≤ l.length) : FnMC Try.prog 55 [(false, [.ptr 0])] [.box (eCur l c)] [.box (eCur l (drawOf l c).1)] (.one (.own 25 dOffer ((drawOf l c).2.map eOffer))) := by
  refine fn_zm (ty := ty) (ts := [.tmp 2]) [0, 2, 3, 4, 5, 6, 7, 10, 24] mixed ty_ok Try.func55 (by kernel_rfl) rfl (by kernel_rfl) (by kernel_rfl) rfl (.inl rfl) (Nat.le_of_ble_eq_true rfl) (by simp only [likes, Mo.like, and_self]) rfl (by simp only [entryM, maV, Ma.sc, C.toS, Nat.zero_add, Nat.reduceAdd, List.map_cons, List.map_nil]; exact rfl) (by simp only [numb, Mo.ob, C.toS, List.map_cons, List.map_nil]; exact rfl) ?_
  repeat' (first
    | ((with_reducible refine z_run ?_); (conv => whnf))
    | (with_reducible apply z_t)
    | (with_reducible apply z_f)
    | ((with_reducible apply z_b); ((intro h); (try simp only [beq_self_eq_true, eq_self, not_true_eq_false, not_false_eq_true, decide_true, cond_true, cond_false, Bool.not_true, Bool.not_false, Bool.not_eq_true', Bool.not_eq_false', Bool.and_eq_true, Bool.and_eq_false_imp, Bool.or_eq_true, Bool.or_eq_false_iff, decide_eq_true_eq, decide_eq_false_iff_not, Bool.false_eq_true, reduceCtorEq, Int.not_le, Int.not_lt, Decidable.not_not] at h)); rotate_left; ((intro h); (try simp only [beq_self_eq_true, eq_self, not_true_eq_false, not_false_eq_true, decide_true, cond_true, cond_false, Bool.not_true, Bool.not_false, Bool.not_eq_true', Bool.not_eq_false', Bool.and_eq_true, Bool.and_eq_false_imp, Bool.or_eq_true, Bool.or_eq_false_iff, decide_eq_true_eq, decide_eq_false_iff_not, Bool.false_eq_true, reduceCtorEq, Int.not_le, Int.not_lt, Decidable.not_not] at h)))
    | (with_reducible refine z_r ?_ ?_)
    | (with_reducible refine z_wg ?_ ?_)
    | (with_reducible refine z_w ?_ ?_)
    | ((with_reducible apply sh_nil); (intro _))
    | ((with_reducible apply sh_int); (intro _))
    | ((with_reducible apply sh_bool); (intro _))
    | ((with_reducible apply sh_sl); (intro _))
    | (refine z_mm [_] (l01Below_fn l hl _ (by omega)) rfl rfl ⟨rfl, trivial⟩ rfl ?_)
    | (refine z_mm [_] (l32Offer_fn l hl _) rfl rfl ⟨rfl, trivial⟩ rfl ?_)
    | ((with_reducible refine z_o ?zo ?_); (case zo => decide +kernel))
    | fail)
  have h6 := fun k hk => ofA_good l hc k hk
  refine z_li (fun k => k ≤ 6) (0 : Nat) (fun k => 6 - k) (fun k => ⟨[(0, .one (.bx 500000 0)), (3, .one (.root 8)), (4, .one (.int .i64 k))], [(500000, .box ((eCur l (ofA l c k).1).map C.toS)), (8, .row 25 dOffer ((ofA l c k).2.map eOffer))]⟩) (by omega) ?_ ?_
  · simp only [List.length_map, fillTo_zero, Int.toNat_natCast, Option.isSome_some, and_self, fixB, Nat.reduceLeDiff, false_implies, true_implies, forall_const, St.le0, St.swaps, St.ren, mapV, renO, V.ren, Sc.ren, Ob.ren, swp, slsLe, obsLe, vLe, scLe, scsLe, obLe, Vq.look, Nat.reduceEqDiff, if_true, if_false, reduceCtorEq, ↓reduceIte, true_and, and_true, ofA, eCur, C.toS, List.map_cons, List.map_nil]; and_intros <;> first | rfl | omega
  · intro k hk
    obtain ⟨h1, h2, h3⟩ := h6 k hk
    have hb := belV_bd l (ofA l c 6).1 (n := 5) (by omega)
    repeat' (first
    | ((with_reducible refine z_run ?_); (conv => whnf))
    | (with_reducible apply z_t)
    | (with_reducible apply z_f)
    | ((with_reducible apply z_b); ((intro h); (try simp only [beq_self_eq_true, eq_self, not_true_eq_false, not_false_eq_true, decide_true, cond_true, cond_false, Bool.not_true, Bool.not_false, Bool.not_eq_true', Bool.not_eq_false', Bool.and_eq_true, Bool.and_eq_false_imp, Bool.or_eq_true, Bool.or_eq_false_iff, decide_eq_true_eq, decide_eq_false_iff_not, Bool.false_eq_true, reduceCtorEq, Int.not_le, Int.not_lt, Decidable.not_not] at h)); rotate_left; ((intro h); (try simp only [beq_self_eq_true, eq_self, not_true_eq_false, not_false_eq_true, decide_true, cond_true, cond_false, Bool.not_true, Bool.not_false, Bool.not_eq_true', Bool.not_eq_false', Bool.and_eq_true, Bool.and_eq_false_imp, Bool.or_eq_true, Bool.or_eq_false_iff, decide_eq_true_eq, decide_eq_false_iff_not, Bool.false_eq_true, reduceCtorEq, Int.not_le, Int.not_lt, Decidable.not_not] at h)))
    | (with_reducible refine z_r ?_ ?_)
    | (with_reducible refine z_wg ?_ ?_)
    | (with_reducible refine z_w ?_ ?_)
    | ((with_reducible apply sh_nil); (intro _))
    | ((with_reducible apply sh_int); (intro _))
    | ((with_reducible apply sh_bool); (intro _))
    | ((with_reducible apply sh_sl); (intro _))
    | (refine z_mm [_] (l01Below_fn l hl _ (by omega)) rfl rfl ⟨rfl, trivial⟩ rfl ?_)
    | (refine z_mm [_] (l32Offer_fn l hl _) rfl rfl ⟨rfl, trivial⟩ rfl ?_)
    | ((with_reducible refine z_o ?zo ?_); (case zo => decide +kernel))
    | fail)
    all_goals ((try simp only [Int.toNat_natCast, tn1, tp1, List.length_map, eq_self, true_and, and_true] at *); (try simp (disch := omega) only [wr, Int.toNat_natCast, tn1, tp1, List.length_map, eq_self, true_and, and_true] at *))
    all_goals (first
      | omega
      | (simp only [List.length_map, List.length_cons, List.length_nil, h1]; omega)
      | (refine z_n (k + 1) ⟨by omega, by omega⟩ ?_
         simp only [ofA, List.map_append, eCur, C.toS, List.map_cons, List.map_nil]
         simp only [List.length_map, fillTo_zero, Int.toNat_natCast, Option.isSome_some, and_self, fixB, Nat.reduceLeDiff, false_implies, true_implies, forall_const, St.le0, St.swaps, St.ren, mapV, renO, V.ren, Sc.ren, Ob.ren, swp, slsLe, obsLe, vLe, scLe, scsLe, obLe, Vq.look, Nat.reduceEqDiff, if_true, if_false, reduceCtorEq, ↓reduceIte, true_and, and_true] <;> (and_intros <;> first | rfl | omega | assumption))
      | (have hk6 : k = 6 := by omega
         subst hk6
         have hB := fun j => ofB_good l (s := (curN l (ofA l c 6).1, (ofA l c 6).2)) (curN_le h3) (fun i hi => (h2 i (by simp only [] at hi; omega)).1) j
         refine z_li (fun j => j ≤ (belV l (ofA l c 6).1 5).toNat) (0 : Nat) (fun j => (belV l (ofA l c 6).1 5).toNat - j) (fun j => ⟨[(0, .one (.bx 500000 0)), (3, .one (.root 8)), (6, .one (.int .i64 (belV l (ofA l c 6).1 5 - j)))], [(500000, .box ((eCur l (ofB l (curN l (ofA l c 6).1, (ofA l c 6).2) j).1).map C.toS)), (8, .row 25 dOffer ((ofB l (curN l (ofA l c 6).1, (ofA l c 6).2) j).2.map eOffer))]⟩) (by omega) ?_ ?_
         · simp only [List.length_map, fillTo_zero, Int.toNat_natCast, Option.isSome_some, and_self, fixB, Nat.reduceLeDiff, false_implies, true_implies, forall_const, St.le0, St.swaps, St.ren, mapV, renO, V.ren, Sc.ren, Ob.ren, swp, slsLe, obsLe, vLe, scLe, scsLe, obLe, Vq.look, Nat.reduceEqDiff, if_true, if_false, reduceCtorEq, ↓reduceIte, true_and, and_true, ofB, eCur, C.toS, List.map_cons, List.map_nil]; and_intros <;> first | rfl | omega
         · intro j hj
           obtain ⟨g1, _⟩ := hB j
           simp only [] at g1
           repeat' (first
    | ((with_reducible refine z_run ?_); (conv => whnf))
    | (with_reducible apply z_t)
    | (with_reducible apply z_f)
    | ((with_reducible apply z_b); ((intro h); (try simp only [beq_self_eq_true, eq_self, not_true_eq_false, not_false_eq_true, decide_true, cond_true, cond_false, Bool.not_true, Bool.not_false, Bool.not_eq_true', Bool.not_eq_false', Bool.and_eq_true, Bool.and_eq_false_imp, Bool.or_eq_true, Bool.or_eq_false_iff, decide_eq_true_eq, decide_eq_false_iff_not, Bool.false_eq_true, reduceCtorEq, Int.not_le, Int.not_lt, Decidable.not_not] at h)); rotate_left; ((intro h); (try simp only [beq_self_eq_true, eq_self, not_true_eq_false, not_false_eq_true, decide_true, cond_true, cond_false, Bool.not_true, Bool.not_false, Bool.not_eq_true', Bool.not_eq_false', Bool.and_eq_true, Bool.and_eq_false_imp, Bool.or_eq_true, Bool.or_eq_false_iff, decide_eq_true_eq, decide_eq_false_iff_not, Bool.false_eq_true, reduceCtorEq, Int.not_le, Int.not_lt, Decidable.not_not] at h)))
    | (with_reducible refine z_r ?_ ?_)
    | (with_reducible refine z_wg ?_ ?_)
    | (with_reducible refine z_w ?_ ?_)
    | ((with_reducible apply sh_nil); (intro _))
    | ((with_reducible apply sh_int); (intro _))
    | ((with_reducible apply sh_bool); (intro _))
    | ((with_reducible apply sh_sl); (intro _))
    | (refine z_mm [_] (l01Below_fn l hl _ (by omega)) rfl rfl ⟨rfl, trivial⟩ rfl ?_)
    | (refine z_mm [_] (l32Offer_fn l hl _) rfl rfl ⟨rfl, trivial⟩ rfl ?_)
    | ((with_reducible refine z_o ?zo ?_); (case zo => decide +kernel))
    | fail)
           all_goals ((try simp only [Int.toNat_natCast, tn1, tp1, List.length_map, eq_self, true_and, and_true] at *); (try simp (disch := omega) only [wr, Int.toNat_natCast, tn1, tp1, List.length_map, eq_self, true_and, and_true] at *))
           all_goals (first
             | omega
             | (simp only [List.length_map, List.length_cons, List.length_nil, g1, h1]; omega)
             | (refine z_em rfl rfl ?_ ?_ <;> simp only [fin, finP, finM, finO, Mo.ob, ids, nodupB, tupP, tupM, memN, ev, Vq.look, List.map_cons, List.map_nil, and_true, true_and, Nat.reduceEqDiff, if_true, if_false, reduceCtorEq, ↓reduceIte]
                · rw [drawOf, show (belV l (ofA l c 6).1 5).toNat = j by omega]
                · rw [drawOf, show (belV l (ofA l c 6).1 5).toNat = j by omega])
             | (refine z_n (j + 1) ⟨by omega, by omega⟩ ?_
                simp only [ofB, List.map_append, eCur, C.toS, List.map_cons, List.map_nil]
                simp only [List.length_map, fillTo_zero, Int.toNat_natCast, Option.isSome_some, and_self, fixB, Nat.reduceLeDiff, false_implies, true_implies, forall_const, St.le0, St.swaps, St.ren, mapV, renO, V.ren, Sc.ren, Ob.ren, swp, slsLe, obsLe, vLe, scLe, scsLe, obLe, Vq.look, Nat.reduceEqDiff, if_true, if_false, reduceCtorEq, ↓reduceIte, true_and, and_true] <;> (and_intros <;> first | rfl | omega | assumption)))))
theorem drawO_fn (l : List Int) (hl : l.length ≤ 1048576) : FnC Try.prog 38 [(false, [.sq dU (l.map eU)])] (.one (.own 25 dOffer ((drawOf l (curZ l)).2.map eOffer))) := by
  refine fn_z (ty := ty) (ts := [.tmp 2]) [0, 2] mixed ty_ok Try.func38 (by kernel_rfl) rfl (by kernel_rfl) (by kernel_rfl) rfl (.inl rfl) (Nat.le_of_ble_eq_true rfl) (by simp only [entry, entryV, C.toS, Nat.zero_add, Nat.reduceAdd, List.map_cons, List.map_nil]; exact rfl) ?_
  repeat' (first
    | ((with_reducible refine z_run ?_); (conv => whnf))
    | (with_reducible apply z_t)
    | (with_reducible apply z_f)
    | ((with_reducible apply z_b); ((intro h); (try simp only [beq_self_eq_true, eq_self, not_true_eq_false, not_false_eq_true, decide_true, cond_true, cond_false, Bool.not_true, Bool.not_false, Bool.not_eq_true', Bool.not_eq_false', Bool.and_eq_true, Bool.and_eq_false_imp, Bool.or_eq_true, Bool.or_eq_false_iff, decide_eq_true_eq, decide_eq_false_iff_not, Bool.false_eq_true, reduceCtorEq, Int.not_le, Int.not_lt, Decidable.not_not] at h)); rotate_left; ((intro h); (try simp only [beq_self_eq_true, eq_self, not_true_eq_false, not_false_eq_true, decide_true, cond_true, cond_false, Bool.not_true, Bool.not_false, Bool.not_eq_true', Bool.not_eq_false', Bool.and_eq_true, Bool.and_eq_false_imp, Bool.or_eq_true, Bool.or_eq_false_iff, decide_eq_true_eq, decide_eq_false_iff_not, Bool.false_eq_true, reduceCtorEq, Int.not_le, Int.not_lt, Decidable.not_not] at h)))
    | (with_reducible refine z_r ?_ ?_)
    | (with_reducible refine z_wg ?_ ?_)
    | (with_reducible refine z_w ?_ ?_)
    | ((with_reducible apply sh_nil); (intro _))
    | ((with_reducible apply sh_int); (intro _))
    | ((with_reducible apply sh_bool); (intro _))
    | ((with_reducible apply sh_sl); (intro _))
    | (with_reducible refine z_k (l01New_fn l hl) ?_)
    | (refine z_mm [_] (l32List_fn l hl _ (by simp [curZ])) rfl rfl ⟨rfl, trivial⟩ rfl ?_)
    | ((with_reducible refine z_o ?zo ?_); (case zo => decide +kernel))
    | fail)
  all_goals refine z_e rfl ?_; simp only [fin, finP, finM, ids, nodupB, tupP, tupM, memN, List.length_cons, List.length_nil, List.nil_append, List.append_nil, List.cons_append, Nat.zero_add, Nat.reduceAdd, ne_eq, not_false_eq_true, eq_self, ev, Vq.look, List.map_cons, List.map_nil, and_true, true_and, Nat.reduceEqDiff, if_true, if_false, reduceCtorEq, ↓reduceIte]
/-! ### steps and costs -/
theorem steps_facts {s n : Int} (hs : 1 ≤ s) : n ≤ stepsV s n * s ∧ stepsV s n * s ≤ n + s - 1 := by
  unfold stepsV
  have h1 := Int.ediv_mul_le (n + s - 1) (b := s) (by omega)
  have h2 := Int.lt_ediv_add_one_mul_self (n + s - 1) (b := s) (by omega)
  rw [Int.add_mul] at h2
  omega
theorem steps_zero {s : Int} (hs : 1 ≤ s) : stepsV s 0 = 0 := by
  unfold stepsV; exact Int.ediv_eq_zero_of_lt (by omega) (by omega)
theorem best_facts (l : List TOffer) (a n : Int) : ∀ k, (0 ≤ bestI l a n k → (l.getD (bestI l a n k).toNat default).1 = a) ∧ (∀ i, i < k → (l.getD i default).1 = a → 0 ≤ bestI l a n k ∧ costA l n (bestI l a n k).toNat ≤ costA l n i)
  | 0 => ⟨fun h => by simp [bestI] at h, fun i hi => by omega⟩
  | k + 1 => by
    obtain ⟨h1, h2⟩ := best_facts l a n k
    simp only [bestI]
    split
    · rename_i hc
      refine ⟨fun _ => by simpa using hc.1, fun i hi hia => ⟨by omega, ?_⟩⟩
      rw [Int.toNat_natCast]
      by_cases hk : i < k
      · have h3 := h2 i hk hia
        have h4 := hc.2
        omega
      · rw [show i = k by omega]; exact Int.le_refl _
    · rename_i hc
      refine ⟨h1, fun i hi hia => ?_⟩
      by_cases hk : i < k
      · exact h2 i hk hia
      · rw [show i = k by omega] at hia ⊢
        have h5 : ¬(bestI l a n k < 0 ∨ costA l n k < costA l n (bestI l a n k).toNat) := fun h => hc ⟨hia, h⟩
        omega
end Go.Proofs.Ytloeibdplgcgbaa
