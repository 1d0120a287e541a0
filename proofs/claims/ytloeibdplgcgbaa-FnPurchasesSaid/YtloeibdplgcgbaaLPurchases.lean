/- The statement Rows.FnPurchasesSaid: for every text of bytes, the law FnPurchases returns true and leaves its argument as it was. No conditions. -/
import Derived.Test.YtloeibdplgcgbaaOffP
namespace Go.Proofs.Ytloeibdplgcgbaa.fnPurchases
open Go.Vq
set_option linter.unusedSimpArgs false
set_option linter.unnecessarySimpa false
set_option maxHeartbeats 1000000
/-- whole numbers of one kind, six of them -/
def six (s : List Int) (t : Int) : Prop := s.length = 6 ∧ ∀ k, 0 ≤ s.getD k default ∧ s.getD k default < t
theorem six_good {s : List Int} {t : Int} (h : six s t) (ht : t ≤ 1000) : stockGood s :=
  ⟨h.1, all_getD.2 fun i _ => by have := h.2 i; omega⟩
theorem six_of {s : List Int} {t : Int} (ht : 1 ≤ t) (h6 : s.length = 6) (h : ∀ x ∈ s, 0 ≤ x ∧ x < t) : six s t := by
  refine ⟨h6, fun k => ?_⟩
  by_cases hk : k < s.length
  · rw [List.getD, List.getElem?_eq_getElem hk]; exact h _ (List.getElem_mem hk)
  · rw [List.getD, List.getElem?_eq_none (by omega)]; simp; omega
theorem small_good {L : List TOffer} {i : Nat} (h : smallO (L.getD i default)) : goodAt L i := by
  unfold smallO at h; unfold goodAt goodO; omega
def buyK (L : List TOffer) (Q : List Int) : Nat → Int
  | 0 => 0
  | a + 1 => buyK L Q a + costA L (Q.getD a default) (pk L Q a).toNat
theorem buyK_bd {L : List TOffer} {Q : List Int} (h : ∀ a, a < 6 → 0 ≤ costA L (Q.getD a default) (pk L Q a).toNat ∧ costA L (Q.getD a default) (pk L Q a).toNat ≤ 10000000000) : ∀ a, a ≤ 6 → 0 ≤ buyK L Q a ∧ buyK L Q a ≤ 10000000000 * a
  | 0, _ => by simp [buyK]
  | a + 1, ha => by have := buyK_bd h a (by omega); have := h a (by omega); simp only [buyK]; omega
theorem buyK_cost {L : List TOffer} {Q : List Int} (_ : stockGood Q) (h : ∀ a, a < 6 → goodAt L (pk L Q a).toNat) : buyK L Q 6 = costK L Q 6 := by
  have : ∀ a, a ≤ 6 → buyK L Q a = costK L Q a := fun a => by
    induction a with
    | zero => exact fun _ => rfl
    | succ a ih =>
      intro ha
      have h1 := h a (by omega)
      unfold goodAt goodO at h1
      simp only [buyK, costK]
      rw [ih (by omega)]
      split
      · rename_i hq
        rw [costA, hq, steps_zero (by omega)]; omega
      · rfl
  exact this 6 (by omega)
theorem body (l : List Int) (hl : l.length ≤ 1048576) (L : List TOffer) (S Q : List Int) (hL : sixOf L) (hQ : six Q 80) (hd1 : FnC Try.prog 38 [(false, [.sq dU (l.map eU)])] (.one (.own 25 dOffer (L.map eOffer)))) (hd2 : FnC Try.prog 31 [(false, [.sq dU (l.map eU)])] (.tup [(false, [.own 3 dI (S.map eI)]), (false, [.own 3 dI (Q.map eI)])])) : FnC Try.prog 9 [(false, [.sq dU (l.map eU)])] (.one (.bool true)) := by
  have hQg := six_good hQ (by omega)
  have hQ6 := hQ.1
  obtain ⟨hL6, hL10, hsm, hcol⟩ := hL
  have hgo : ∀ a, a < 6 → offersGood L (Q.getD a default) := fun a _ => ⟨by omega, by have := hQ.2 a; omega, fun i hi => small_good (hsm i hi)⟩
  have hpk : ∀ a, a < 6 → pk L Q a = bestI L a (Q.getD a default) L.length := fun a ha => by rw [pk, cheapR, if_pos (hgo a ha)]
  have hbest : ∀ a : Nat, a < 6 → (0 ≤ pk L Q a ∧ pk L Q a < L.length) ∧ (L.getD (pk L Q a).toNat default).1 = a ∧ ∀ i, i < L.length → (L.getD i default).1 = a → costA L (Q.getD a default) (pk L Q a).toNat ≤ costA L (Q.getD a default) i := fun a ha => by
    rw [hpk a ha]
    have h1 := best_facts L a (Q.getD a default) L.length
    have h2 := bestI_bd L a (Q.getD a default) L.length
    have h3 := h1.2 a (by omega) (hcol a ha)
    exact ⟨⟨h3.1, h2.2⟩, h1.1 h3.1, fun i hi hia => (h1.2 i hi hia).2⟩
  have hbest1 : ∀ a : Nat, a < 6 → goodAt L (pk L Q a).toNat := fun a ha => small_good (hsm _ (by have := hbest a ha; omega))
  have hbuy : buyOk L Q := ⟨hQg, fun a ha _ => (hbest a ha).1.1⟩
  have cC := implCostOf L (by omega) Q (by omega)
  rw [costR_yes hbuy] at cC
  have cF := implLeftAfter L (by omega) Q (by omega)
  rw [leftR_yes hbuy] at cF
  have hleft : ((List.range 6).map (leftA L Q)).length = 6 := by simp
  have hlg : ∀ a, a < 6 → ((List.range 6).map (leftA L Q)).getD a default = leftA L Q a := fun a ha => by simp [List.getD, ha]
  have hcb := costK_bd 6 hbuy.2
  have hb' : ∀ a, a < 6 → 0 ≤ costA L (Q.getD a default) (pk L Q a).toNat ∧ costA L (Q.getD a default) (pk L Q a).toNat ≤ 10000000000 := fun a ha =>
    costA_bd (small_good (hsm _ (by have := hbest a ha; omega))) (by have := hQ.2 a; omega)
  generalize hLE : (List.range 6).map (leftA L Q) = LE at *
  have hbc := buyK_cost hQg hbest1
  generalize hCK : costK L Q 6 = CK at *
  refine fn_z (ty := ty) (ts := [.tmp 2]) [0, 2, 3, 5, 6, 7, 8, 9, 10, 11, 12, 13, 15, 37, 41, 88, 107, 170, 205] mixed ty_ok Try.func9 (by kernel_rfl) rfl (by kernel_rfl) (by kernel_rfl) rfl (.inl rfl) (Nat.le_of_ble_eq_true rfl) (by simp only [entry, entryV, C.toS, Nat.zero_add, Nat.reduceAdd, List.map_cons, List.map_nil]; exact rfl) ?_
  repeat' (first
    | ((with_reducible refine z_run ?_); (conv => whnf))
    | (with_reducible apply z_t)
    | (with_reducible apply z_f)
    | ((with_reducible apply z_b); ((intro h); (try simp only [beq_self_eq_true, eq_self, not_true_eq_false, not_false_eq_true, decide_true, cond_true, cond_false, Bool.not_true, Bool.not_false, Bool.not_eq_true', Bool.not_eq_false', Bool.and_eq_true, Bool.and_eq_false_imp, Bool.or_eq_true, Bool.or_eq_false_iff, decide_eq_true_eq, decide_eq_false_iff_not, Bool.false_eq_true, reduceCtorEq, Int.not_le, Int.not_lt, Decidable.not_not] at h)); rotate_left; ((intro h); (try simp only [beq_self_eq_true, eq_self, not_true_eq_false, not_false_eq_true, decide_true, cond_true, cond_false, Bool.not_true, Bool.not_false, Bool.not_eq_true', Bool.not_eq_false', Bool.and_eq_true, Bool.and_eq_false_imp, Bool.or_eq_true, Bool.or_eq_false_iff, decide_eq_true_eq, decide_eq_false_iff_not, Bool.false_eq_true, reduceCtorEq, Int.not_le, Int.not_lt, Decidable.not_not] at h)))
    | (with_reducible refine z_r ?_ ?_)
    | (with_reducible refine z_wg ?_ ?_)
    | (with_reducible refine z_w ?_ ?_)
    | ((with_reducible apply sh_nil); (intro _))
    | ((with_reducible apply sh_int); (intro _))
    | ((with_reducible apply sh_bool); (intro _))
    | ((with_reducible apply sh_sl); (intro _))
    | (with_reducible refine z_k (big_fn l hl) ?_)
    | (with_reducible refine z_k hd1 ?_)
    | (with_reducible refine z_k hd2 ?_)
    | (with_reducible refine z_k cC ?_)
    | (with_reducible refine z_k cF ?_)
    | ((with_reducible refine z_o ?zo ?_); (case zo => decide +kernel))
    | fail)
  all_goals ((try simp only [Int.toNat_natCast, tn1, tp1, List.length_map, eq_self, true_and, and_true] at *); (try simp (disch := omega) only [wr, Int.toNat_natCast, tn1, tp1, List.length_map, eq_self, true_and, and_true] at *))
  · refine z_li (fun a => a ≤ 6) (0 : Nat) (fun a => 6 - a) (fun a => ⟨[(0, .one (.ro dU (l.map eU))), (3, .one (.root 17)), (5, .one (.root 1020)), (6, .one (.int .i64 CK)), (7, .one (.root 28)), (8, .one (.int .i64 (buyK L Q a))), (9, .one (.int .i64 a))], [(28, .row 3 dI (LE.map eI)), (1020, .row 3 dI (Q.map eI)), (17, .row 25 dOffer (L.map eOffer))]⟩) (by omega) ?_ ?_
    · simp only [List.length_map, fillTo_zero, Int.toNat_natCast, Option.isSome_some, and_self, fixB, Nat.reduceLeDiff, false_implies, true_implies, forall_const, St.le0, St.swaps, St.ren, mapV, renO, V.ren, Sc.ren, Ob.ren, swp, slsLe, obsLe, vLe, scLe, scsLe, obLe, Vq.look, Nat.reduceEqDiff, if_true, if_false, reduceCtorEq, ↓reduceIte, true_and, and_true, nxt, Nat.reduceAdd, buyK]; and_intros <;> first | rfl | omega
    · intro a ha
      by_cases ha6 : a < 6
      · have hb := hbest a ha6
        have hq := hQ.2 a
        have hlga := hlg a ha6
        have hbk := buyK_bd hb' a ha
        have hck : ∀ x, x = Q.getD a default → FnC Try.prog 20 [(false, [.sq dOffer (L.map eOffer)]), (false, [.int .i64 a]), (false, [.int .i64 x])] (.one (.int .i64 (pk L Q a))) := fun x hx => by
          subst hx; exact implCheapest L (by omega) a _
        have hsp := hsm (pk L Q a).toNat (by omega)
        have gSt : ∀ i, i < L.length → ∀ c s pr x, c = (L.getD i default).1 → s = (L.getD i default).2.1 → pr = (L.getD i default).2.2 → x = Q.getD a default → FnC Try.prog 16 [(true, [.int .i64 c, .int .i64 s, .int .i64 pr]), (false, [.int .i64 x])] (.one (.int .i64 (stepsV (L.getD i default).2.1 (Q.getD a default)))) := fun i hi c s pr x e1 e2 e3 e4 => by
          subst e1; subst e2; subst e3; subst e4
          have := implStepsFor (L.getD i default).1 (L.getD i default).2.1 (L.getD i default).2.2 (Q.getD a default)
          rwa [stepsR, if_pos ⟨small_good (hsm i hi), by omega, by omega⟩] at this
        have hfa : ∀ i, i < L.length → (Q.getD a default ≤ stepsV (L.getD i default).2.1 (Q.getD a default) * (L.getD i default).2.1 ∧ stepsV (L.getD i default).2.1 (Q.getD a default) * (L.getD i default).2.1 ≤ Q.getD a default + (L.getD i default).2.1 - 1) ∧ (0 ≤ stepsV (L.getD i default).2.1 (Q.getD a default) ∧ stepsV (L.getD i default).2.1 (Q.getD a default) ≤ 1000000) ∧ (0 ≤ stepsV (L.getD i default).2.1 (Q.getD a default) * (L.getD i default).2.2 ∧ stepsV (L.getD i default).2.1 (Q.getD a default) * (L.getD i default).2.2 ≤ 100000000) ∧ (stepsV (L.getD i default).2.1 (Q.getD a default) - 1) * (L.getD i default).2.1 = stepsV (L.getD i default).2.1 (Q.getD a default) * (L.getD i default).2.1 - (L.getD i default).2.1 := fun i hi => by
          have h1 := hsm i hi
          unfold smallO at h1
          have h2 := stepsV_bd (s := (L.getD i default).2.1) (n := Q.getD a default) (by omega) (by omega)
          refine ⟨steps_facts (by omega), h2, mul_bd (B := 100) h2 (by omega), ?_⟩
          rw [Int.sub_mul]; omega
        have hfp := hfa (pk L Q a).toNat (by omega)
        have hbu : buyK L Q (a + 1) = buyK L Q a + costA L (Q.getD a default) (pk L Q a).toNat := rfl
        have hca := hb' a ha6
        have hlv : leftA L Q a = if Q.getD a default = 0 then 0 else stepsV (L.getD (pk L Q a).toNat default).2.1 (Q.getD a default) * (L.getD (pk L Q a).toNat default).2.1 - Q.getD a default := rfl
        have hmod : (stepsV (L.getD (pk L Q a).toNat default).2.1 (Q.getD a default) * (L.getD (pk L Q a).toNat default).2.1).tmod (L.getD (pk L Q a).toNat default).2.1 = 0 := Int.mul_tmod_left _ _
        generalize hP : pk L Q a = p at *
        obtain ⟨p, rfl⟩ : ∃ k : Nat, p = k := ⟨p.toNat, by omega⟩
        rw [Int.toNat_natCast] at hfp hsp hb hbu hca hlv hmod
        have hlv2 : 0 ≤ LE.getD a default ∧ LE.getD a default ≤ 10000 ∧ (Q.getD a default = 0 → LE.getD a default = 0) ∧ (Q.getD a default ≠ 0 → LE.getD a default + Q.getD a default = stepsV (L.getD p default).2.1 (Q.getD a default) * (L.getD p default).2.1) := by
          rw [hlga, hlv]
          unfold smallO at hsp
          split <;> omega
        clear hlv hlga
        have hmod2 : Q.getD a default ≠ 0 → (LE.getD a default + Q.getD a default).tmod (L.getD p default).2.1 = 0 := fun h => by rw [hlv2.2.2.2 h]; exact hmod
        unfold smallO at hsp
        repeat' (first
    | ((with_reducible refine z_run ?_); (conv => whnf))
    | (with_reducible apply z_t)
    | (with_reducible apply z_f)
    | ((with_reducible apply z_b); ((intro h); (try simp only [beq_self_eq_true, eq_self, not_true_eq_false, not_false_eq_true, decide_true, cond_true, cond_false, Bool.not_true, Bool.not_false, Bool.not_eq_true', Bool.not_eq_false', Bool.and_eq_true, Bool.and_eq_false_imp, Bool.or_eq_true, Bool.or_eq_false_iff, decide_eq_true_eq, decide_eq_false_iff_not, Bool.false_eq_true, reduceCtorEq, Int.not_le, Int.not_lt, Decidable.not_not] at h)); rotate_left; ((intro h); (try simp only [beq_self_eq_true, eq_self, not_true_eq_false, not_false_eq_true, decide_true, cond_true, cond_false, Bool.not_true, Bool.not_false, Bool.not_eq_true', Bool.not_eq_false', Bool.and_eq_true, Bool.and_eq_false_imp, Bool.or_eq_true, Bool.or_eq_false_iff, decide_eq_true_eq, decide_eq_false_iff_not, Bool.false_eq_true, reduceCtorEq, Int.not_le, Int.not_lt, Decidable.not_not] at h)))
    | (with_reducible refine z_r ?_ ?_)
    | (with_reducible refine z_wg ?_ ?_)
    | (with_reducible refine z_w ?_ ?_)
    | ((with_reducible apply sh_nil); (intro _))
    | ((with_reducible apply sh_int); (intro _))
    | ((with_reducible apply sh_bool); (intro _))
    | ((with_reducible apply sh_sl); (intro _))
    | (with_reducible refine z_k (hck _ (by simp only [Int.toNat_natCast])) ?_)
    | (with_reducible refine z_k (gSt p (by omega) _ _ _ _ (by simp only [Int.toNat_natCast]) (by simp only [Int.toNat_natCast]) (by simp only [Int.toNat_natCast]) (by simp only [Int.toNat_natCast])) ?_)
    | ((with_reducible refine z_o ?zo ?_); (case zo => decide +kernel))
    | fail)
        all_goals ((try simp only [Int.toNat_natCast, tn1, tp1, List.length_map, eq_self, true_and, and_true] at *); (try simp (disch := omega) only [wr, Int.toNat_natCast, tn1, tp1, List.length_map, eq_self, true_and, and_true] at *))
        all_goals (first
          | omega
          | (refine z_li (fun i => i ≤ L.length) (0 : Nat) (fun i => L.length - i) (fun i => ⟨[(0, .one (.ro dU (l.map eU))), (3, .one (.root 17)), (5, .one (.root 1020)), (6, .one (.int .i64 CK)), (7, .one (.root 28)), (8, .one (.int .i64 (buyK L Q a))), (9, .one (.int .i64 a)), (10, .one (.int .i64 p)), (11, .one (.int .i64 (costA L (Q.getD a default) p))), (12, .one (.int .i64 i))], [(28, .row 3 dI (LE.map eI)), (1020, .row 3 dI (Q.map eI)), (17, .row 25 dOffer (L.map eOffer))]⟩) (by omega) ?_ ?_
             · simp only [List.length_map, fillTo_zero, Int.toNat_natCast, Option.isSome_some, and_self, fixB, Nat.reduceLeDiff, false_implies, true_implies, forall_const, St.le0, St.swaps, St.ren, mapV, renO, V.ren, Sc.ren, Ob.ren, swp, slsLe, obsLe, vLe, scLe, scsLe, obLe, Vq.look, Nat.reduceEqDiff, if_true, if_false, reduceCtorEq, ↓reduceIte, true_and, and_true] <;> (and_intros <;> first | rfl | omega | assumption)
             · intro i hi
               by_cases hil : i < L.length
               · have hfi := hfa i hil
                 have hsi := hsm i hil
                 unfold smallO at hsi
                 have hbi := hb.2.2 i hil
                 rw [show costA L (Q.getD a default) i = stepsV (L.getD i default).2.1 (Q.getD a default) * (L.getD i default).2.2 from rfl] at hbi
                 repeat' (first
    | ((with_reducible refine z_run ?_); (conv => whnf))
    | (with_reducible apply z_t)
    | (with_reducible apply z_f)
    | ((with_reducible apply z_b); ((intro h); (try simp only [beq_self_eq_true, eq_self, not_true_eq_false, not_false_eq_true, decide_true, cond_true, cond_false, Bool.not_true, Bool.not_false, Bool.not_eq_true', Bool.not_eq_false', Bool.and_eq_true, Bool.and_eq_false_imp, Bool.or_eq_true, Bool.or_eq_false_iff, decide_eq_true_eq, decide_eq_false_iff_not, Bool.false_eq_true, reduceCtorEq, Int.not_le, Int.not_lt, Decidable.not_not] at h)); rotate_left; ((intro h); (try simp only [beq_self_eq_true, eq_self, not_true_eq_false, not_false_eq_true, decide_true, cond_true, cond_false, Bool.not_true, Bool.not_false, Bool.not_eq_true', Bool.not_eq_false', Bool.and_eq_true, Bool.and_eq_false_imp, Bool.or_eq_true, Bool.or_eq_false_iff, decide_eq_true_eq, decide_eq_false_iff_not, Bool.false_eq_true, reduceCtorEq, Int.not_le, Int.not_lt, Decidable.not_not] at h)))
    | (with_reducible refine z_r ?_ ?_)
    | (with_reducible refine z_wg ?_ ?_)
    | (with_reducible refine z_w ?_ ?_)
    | ((with_reducible apply sh_nil); (intro _))
    | ((with_reducible apply sh_int); (intro _))
    | ((with_reducible apply sh_bool); (intro _))
    | ((with_reducible apply sh_sl); (intro _))
    | (with_reducible refine z_k (gSt i hil _ _ _ _ (by simp only [Int.toNat_natCast]) (by simp only [Int.toNat_natCast]) (by simp only [Int.toNat_natCast]) (by simp only [Int.toNat_natCast])) ?_)
    | ((with_reducible refine z_o ?zo ?_); (case zo => decide +kernel))
    | fail)
                 all_goals ((try simp only [Int.toNat_natCast, tn1, tp1, List.length_map, eq_self, true_and, and_true] at *); (try simp (disch := omega) only [wr, Int.toNat_natCast, tn1, tp1, List.length_map, eq_self, true_and, and_true] at *))
                 all_goals (first
                   | omega
                   | (refine z_n (i + 1) ⟨by omega, by omega⟩ ?_; simp only [List.length_map, fillTo_zero, Int.toNat_natCast, Option.isSome_some, and_self, fixB, Nat.reduceLeDiff, false_implies, true_implies, forall_const, St.le0, St.swaps, St.ren, mapV, renO, V.ren, Sc.ren, Ob.ren, swp, slsLe, obsLe, vLe, scLe, scsLe, obLe, Vq.look, Nat.reduceEqDiff, if_true, if_false, reduceCtorEq, ↓reduceIte, true_and, and_true] <;> (and_intros <;> first | rfl | omega | assumption); done))
               · repeat' (first
    | ((with_reducible refine z_run ?_); (conv => whnf))
    | (with_reducible apply z_t)
    | (with_reducible apply z_f)
    | ((with_reducible apply z_b); ((intro h); (try simp only [beq_self_eq_true, eq_self, not_true_eq_false, not_false_eq_true, decide_true, cond_true, cond_false, Bool.not_true, Bool.not_false, Bool.not_eq_true', Bool.not_eq_false', Bool.and_eq_true, Bool.and_eq_false_imp, Bool.or_eq_true, Bool.or_eq_false_iff, decide_eq_true_eq, decide_eq_false_iff_not, Bool.false_eq_true, reduceCtorEq, Int.not_le, Int.not_lt, Decidable.not_not] at h)); rotate_left; ((intro h); (try simp only [beq_self_eq_true, eq_self, not_true_eq_false, not_false_eq_true, decide_true, cond_true, cond_false, Bool.not_true, Bool.not_false, Bool.not_eq_true', Bool.not_eq_false', Bool.and_eq_true, Bool.and_eq_false_imp, Bool.or_eq_true, Bool.or_eq_false_iff, decide_eq_true_eq, decide_eq_false_iff_not, Bool.false_eq_true, reduceCtorEq, Int.not_le, Int.not_lt, Decidable.not_not] at h)))
    | (with_reducible refine z_r ?_ ?_)
    | (with_reducible refine z_wg ?_ ?_)
    | (with_reducible refine z_w ?_ ?_)
    | ((with_reducible apply sh_nil); (intro _))
    | ((with_reducible apply sh_int); (intro _))
    | ((with_reducible apply sh_bool); (intro _))
    | ((with_reducible apply sh_sl); (intro _))
    | ((with_reducible refine z_o ?zo ?_); (case zo => decide +kernel))
    | fail)
                 all_goals ((try simp only [Int.toNat_natCast, tn1, tp1, List.length_map, eq_self, true_and, and_true] at *); (try simp (disch := omega) only [wr, Int.toNat_natCast, tn1, tp1, List.length_map, eq_self, true_and, and_true] at *))
                 all_goals (first
                   | omega
                   | (refine z_n (a + 1) ⟨by omega, by omega⟩ ?_; rw [hbu]; simp only [List.length_map, fillTo_zero, Int.toNat_natCast, Option.isSome_some, and_self, fixB, Nat.reduceLeDiff, false_implies, true_implies, forall_const, St.le0, St.swaps, St.ren, mapV, renO, V.ren, Sc.ren, Ob.ren, swp, slsLe, obsLe, vLe, scLe, scsLe, obLe, Vq.look, Nat.reduceEqDiff, if_true, if_false, reduceCtorEq, ↓reduceIte, true_and, and_true] <;> (and_intros <;> first | rfl | omega | assumption); done)))
          )
      · have ha6' : a = 6 := by omega
        subst ha6'
        have h00 := hsm 0 (by omega)
        have cO := implOfferOk (L.getD 0 default).1 (L.getD 0 default).2.1 (L.getD 0 default).2.2
        rw [decide_eq_true (show goodO (L.getD 0 default).1 (L.getD 0 default).2.1 (L.getD 0 default).2.2 from small_good h00)] at cO
        have cO : ∀ c s p, c = (L.getD 0 default).1 → s = (L.getD 0 default).2.1 → p = (L.getD 0 default).2.2 → FnC Try.prog 14 [(true, [.int .i64 c, .int .i64 s, .int .i64 p])] (.one (.bool true)) := fun c s p e1 e2 e3 => by
          subst e1; subst e2; subst e3; exact cO
        have c0 := implCostOf [] (by simp) [0, 0, 0, 0, 0, 0] (by simp)
        rw [show costR [] [0, 0, 0, 0, 0, 0] = 0 by decide] at c0
        have c1 := implCostOf [] (by simp) [1, 0, 0, 0, 0, 0] (by simp)
        rw [show costR [] [1, 0, 0, 0, 0, 0] = -1 by decide] at c1
        have cN0 : FnMC Try.prog 39 [(false, [.nil]), (false, [.ref 0])] [.row 3 dI ([0, 0, 0, 0, 0, 0].map eI)] [.row 3 dI ([0, 0, 0, 0, 0, 0].map eI)] (.one (.int .i64 0)) := c0.nilM (vs := [.one (.ro dOffer []), .one (.root 500000)]) ⟨rfl, rfl, trivial⟩ rfl rfl rfl
        have cN1 : FnMC Try.prog 39 [(false, [.nil]), (false, [.ref 0])] [.row 3 dI ([1, 0, 0, 0, 0, 0].map eI)] [.row 3 dI ([1, 0, 0, 0, 0, 0].map eI)] (.one (.int .i64 (-1))) := c1.nilM (vs := [.one (.ro dOffer []), .one (.root 500000)]) ⟨rfl, rfl, trivial⟩ rfl rfl rfl
        repeat' (first
    | ((with_reducible refine z_run ?_); (conv => whnf))
    | (with_reducible apply z_t)
    | (with_reducible apply z_f)
    | ((with_reducible apply z_b); ((intro h); (try simp only [beq_self_eq_true, eq_self, not_true_eq_false, not_false_eq_true, decide_true, cond_true, cond_false, Bool.not_true, Bool.not_false, Bool.not_eq_true', Bool.not_eq_false', Bool.and_eq_true, Bool.and_eq_false_imp, Bool.or_eq_true, Bool.or_eq_false_iff, decide_eq_true_eq, decide_eq_false_iff_not, Bool.false_eq_true, reduceCtorEq, Int.not_le, Int.not_lt, Decidable.not_not] at h)); rotate_left; ((intro h); (try simp only [beq_self_eq_true, eq_self, not_true_eq_false, not_false_eq_true, decide_true, cond_true, cond_false, Bool.not_true, Bool.not_false, Bool.not_eq_true', Bool.not_eq_false', Bool.and_eq_true, Bool.and_eq_false_imp, Bool.or_eq_true, Bool.or_eq_false_iff, decide_eq_true_eq, decide_eq_false_iff_not, Bool.false_eq_true, reduceCtorEq, Int.not_le, Int.not_lt, Decidable.not_not] at h)))
    | (with_reducible refine z_r ?_ ?_)
    | (with_reducible refine z_wg ?_ ?_)
    | (with_reducible refine z_w ?_ ?_)
    | ((with_reducible apply sh_nil); (intro _))
    | ((with_reducible apply sh_int); (intro _))
    | ((with_reducible apply sh_bool); (intro _))
    | ((with_reducible apply sh_sl); (intro _))
    | (with_reducible refine z_k (cO _ _ _ rfl rfl rfl) ?_)
    | (refine z_mm [_] cN0 rfl rfl ⟨rfl, trivial⟩ rfl ?_)
    | (refine z_mm [_] cN1 rfl rfl ⟨rfl, trivial⟩ rfl ?_)
    | ((with_reducible refine z_o ?zo ?_); (case zo => decide +kernel))
    | fail)
        all_goals ((try simp only [Int.toNat_natCast, tn1, tp1, List.length_map, eq_self, true_and, and_true] at *); (try simp (disch := omega) only [wr, Int.toNat_natCast, tn1, tp1, List.length_map, eq_self, true_and, and_true] at *))
        all_goals (first | omega | (refine z_e rfl ?_; simp only [fin, finP, finM, ids, nodupB, tupP, tupM, memN, List.length_cons, List.length_nil, List.nil_append, List.append_nil, List.cons_append, Nat.zero_add, Nat.reduceAdd, ne_eq, not_false_eq_true, eq_self, ev, Vq.look, List.map_cons, List.map_nil, and_true, true_and, Nat.reduceEqDiff, if_true, if_false, reduceCtorEq, ↓reduceIte]; done) | (refine z_e rfl ?_; simp only [fin, finP, finM, ids, nodupB, tupP, tupM, memN, List.length_cons, List.length_nil, List.nil_append, List.append_nil, List.cons_append, Nat.zero_add, Nat.reduceAdd, ne_eq, not_false_eq_true, eq_self, ev, Vq.look, List.map_cons, List.map_nil, and_true, true_and, Nat.reduceEqDiff, if_true, if_false, reduceCtorEq, ↓reduceIte]; rfl) | (exfalso; exact absurd hbc (by assumption)))
  · exfalso; omega
  · exfalso; omega
theorem law : LawFn Try.prog 9 [(false, [.sl dU])] := by
  intro caps hk hok
  obtain ⟨cs0, q0, rfl, e0, hk0⟩ := caps_cons hk
  obtain rfl := caps_nil hk0
  obtain ⟨c0_0, r0_0, rfl, f0_0, g0_0⟩ := kds_cons e0
  obtain rfl := kds_nil g0_0
  have ok0_0 := hok _ (List.getElem_mem (n := 0) (by simp)) _ (List.getElem_mem (n := 0) (by simp))
  simp only [List.getElem_cons_zero, List.getElem_cons_succ] at ok0_0
  obtain ⟨rows0_0, rfl⟩ := kd_sl f0_0
  obtain ⟨l, rfl⟩ := rows_map (e := eU) rowU ok0_0.rows.1
  have wl := ok0_0.len
  rw [List.length_map] at wl
  by_cases hl : l.length ≤ 1048576
  · exact body l hl _ _ _ (drawOf_good l) (six_of (by omega) (stK_len ..) (stK_bd l _ (by omega) 6)) (drawO_fn l hl) (draw_fn l hl)
  · refine fn_z (ty := ty) (ts := [.tmp 2]) [0, 2, 3, 5, 6, 7, 8, 9, 10, 11, 12, 13, 15, 37, 41, 88, 107, 170, 205] mixed ty_ok Try.func9 (by kernel_rfl) rfl (by kernel_rfl) (by kernel_rfl) rfl (.inl rfl) (Nat.le_of_ble_eq_true rfl) (by simp only [entry, entryV, C.toS, Nat.zero_add, Nat.reduceAdd, List.map_cons, List.map_nil]; exact rfl) ?_
    repeat' (first
    | ((with_reducible refine z_run ?_); (conv => whnf))
    | (with_reducible apply z_t)
    | (with_reducible apply z_f)
    | ((with_reducible apply z_b); ((intro h); (try simp only [beq_self_eq_true, eq_self, not_true_eq_false, not_false_eq_true, decide_true, cond_true, cond_false, Bool.not_true, Bool.not_false, Bool.not_eq_true', Bool.not_eq_false', Bool.and_eq_true, Bool.and_eq_false_imp, Bool.or_eq_true, Bool.or_eq_false_iff, decide_eq_true_eq, decide_eq_false_iff_not, Bool.false_eq_true, reduceCtorEq, Int.not_le, Int.not_lt, Decidable.not_not] at h)); rotate_left; ((intro h); (try simp only [beq_self_eq_true, eq_self, not_true_eq_false, not_false_eq_true, decide_true, cond_true, cond_false, Bool.not_true, Bool.not_false, Bool.not_eq_true', Bool.not_eq_false', Bool.and_eq_true, Bool.and_eq_false_imp, Bool.or_eq_true, Bool.or_eq_false_iff, decide_eq_true_eq, decide_eq_false_iff_not, Bool.false_eq_true, reduceCtorEq, Int.not_le, Int.not_lt, Decidable.not_not] at h)))
    | (with_reducible refine z_r ?_ ?_)
    | (with_reducible refine z_wg ?_ ?_)
    | (with_reducible refine z_w ?_ ?_)
    | ((with_reducible apply sh_nil); (intro _))
    | ((with_reducible apply sh_int); (intro _))
    | ((with_reducible apply sh_bool); (intro _))
    | ((with_reducible apply sh_sl); (intro _))
    | (with_reducible refine z_k (big_no l hl) ?_)
    | ((with_reducible refine z_o ?zo ?_); (case zo => decide +kernel))
    | fail)
    all_goals (first | omega | refine z_e rfl ?_; simp only [fin, finP, finM, ids, nodupB, tupP, tupM, memN, List.length_cons, List.length_nil, List.nil_append, List.append_nil, List.cons_append, Nat.zero_add, Nat.reduceAdd, ne_eq, not_false_eq_true, eq_self, ev, Vq.look, List.map_cons, List.map_nil, and_true, true_and, Nat.reduceEqDiff, if_true, if_false, reduceCtorEq, ↓reduceIte])
set_option maxRecDepth 100000 in
theorem lifted (os : Os) (started : os.Started) (H : Type) (enc : TypeId × Value → H) :
    ReturnsInHanded {} Try.checked os 9 .any (Rows.fnPurchasesSpec.pre6 enc Try.prog Try.f9 Rows.fnPurchasesRow.domain false) (Rows.fnPurchasesSpec.post enc Try.prog Try.f9 false true false false) :=
  law_lift 9 [(false, [.sl [.int .u8]])] (by kernel_rfl) started (by kernel_rfl) Try.func9
    (ChangeSpec.witness6 (enc := enc) (C := Try.checked) false ⟨#[], #[.slice none 0 0], []⟩ 8 (by kernel_rfl) (by kernel_rfl) (by kernel_rfl) (by kernel_rfl))
    rfl (by kernel_rfl) (show Try.checked.prog.underlying 4 = some .bool by kernel_rfl) (by intro ds h; obtain ⟨d0, rfl⟩ := len1 (h.trans (show Try.f9.params.size = 1 by kernel_rfl)); rfl) (by kernel_rfl) (by kernel_rfl) (by kernel_rfl) (by kernel_rfl) (by kernel_rfl) law
theorem over : Rows.fnPurchasesRow.holds Try.pinned (OpenSpec.ofChange Rows.fnPurchasesSpec) :=
  OpenClaim.holds_of_wide 9 Try.f9 rfl rfl rfl rfl rfl rfl rfl ⟨rfl, rfl, rfl, rfl, rfl⟩ rfl rfl rfl rfl rfl (by kernel_rfl) Try.func9 (by kernel_rfl)
    (of_decide_eq_true (by kernel_rfl)) (by unfold Func.isWrapper; first | (rw [if_pos (by decide +kernel)]; kernel_rfl) | (rw [if_neg (by decide +kernel)]; exact ⟨rfl, rfl⟩))
    (fun os started H enc _ => lifted os started H enc)
/-- THE STATEMENT -/
theorem proved : Rows.FnPurchasesSaid := over
#print axioms proved
end Go.Proofs.Ytloeibdplgcgbaa.fnPurchases
