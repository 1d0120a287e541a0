/- The statement Rows.FnMembersSaid: for every text of bytes, the law FnMembers returns true and leaves its argument as it was. No conditions. -/
import Derived.Test.YtjaeandgeefpdaaMemP
namespace Go.Proofs.Ytjaeandgeefpdaa.fnMembers
open Go.Vq
set_option linter.unusedSimpArgs false
set_option linter.unnecessarySimpa false
set_option maxHeartbeats 1000000
theorem map_getD {α β : Type} [Inhabited α] [Inhabited β] (f : α → β) {l : List α} {i : Nat} (h : i < l.length) : (l.map f).getD i default = f (l.getD i default) := by
  simp [List.getD, h]
theorem owed_get {L : List TMember} {y : Int} {k : Nat} (h : k < L.length) : (owedL L y).getD k default = if y - (L.getD k default).2.2 > 0 then y - (L.getD k default).2.2 else 0 := by
  unfold owedL; rw [map_getD _ h]
theorem pay_ok {L : List TMember} (hL : memOk L) {k : Nat} (hk : k < L.length) {y : Int} (hy : 1 ≤ y - (L.getD k default).2.2) (hy2 : y ≤ 2999) :
    memOk (L.map (pay1 (L.getD k default).1 (y - (L.getD k default).2.2))) ∧ (L.map (pay1 (L.getD k default).1 (y - (L.getD k default).2.2))).getD k default = ((L.getD k default).1, (L.getD k default).2.1, y) := by
  have hbk := hL.2 k hk
  unfold memAt at hbk
  have hw : IntKind.i64.wrap ((L.getD k default).2.2 + (y - (L.getD k default).2.2)) = y := by rw [wr ⟨by omega, by omega⟩]; omega
  refine ⟨⟨by simpa using hL.1, fun i hi => ?_⟩, by rw [map_getD _ hk, pay1, if_pos rfl, hw]⟩
  have hi' : i < L.length := by simpa using hi
  have hbi := hL.2 i hi'
  have hn : ∀ j, j < L.length → ((L.map (pay1 (L.getD k default).1 (y - (L.getD k default).2.2))).getD j default).1 = (L.getD j default).1 := fun j hj => by
    rw [map_getD _ hj]; unfold pay1; split <;> rfl
  unfold memAt at hbi ⊢
  rw [hn i hi']
  refine ⟨hbi.1, ?_, ?_, fun h0 => by rw [hn (i - 1) (by omega)]; exact hbi.2.2.2 h0⟩
  · rw [map_getD _ hi']; unfold pay1; split
    · exact hbi.2.1
    · exact hbi.2.1
  · rw [map_getD _ hi']; unfold pay1; split
    · rename_i he
      have : i = k := mem_inj hL hi' hk he
      subst this
      simp only [hw]; omega
    · exact hbi.2.2.1
theorem join1 {L : List TMember} (hL : memOk L) (hL8 : L.length ≤ 8) (h40 : ∀ i, i < L.length → (L.getD i default).1 ≤ 40) {y : Int} (hy : 1995 ≤ y ∧ y ≤ 2034) : joinR L 500 y = (L ++ [(500, y, y - 1)], true) ∧ memOk (L ++ [(500, y, y - 1)]) ∧ joinR (L ++ [(500, y, y - 1)]) 500 y = (L ++ [(500, y, y - 1)], false) := by
  have hw : IntKind.i64.wrap (y - 1) = y - 1 := wr ⟨by omega, by omega⟩
  have hp : posI L 500 = L.length := posI_all L 500 fun i hi => by have := h40 i hi; omega
  have hm : memOk (L ++ [(500, y, y - 1)]) := memOk_app hL (by omega) ⟨by simp, ⟨by simp only []; omega, by simp only []; omega⟩, ⟨by simp only []; omega, by simp only []; omega⟩⟩ (fun i hi => by have := h40 i hi; simp only []; omega)
  have hj : joinL L 500 y = L ++ [(500, y, y - 1)] := by simp [joinL, hp, hw]
  refine ⟨by rw [joinR, hj, if_pos ⟨hL, hm⟩], hm, ?_⟩
  have hp2 : posI (L ++ [(500, y, y - 1)]) 500 = L.length := posI_step _ 500 L.length (by simp) (fun i hi => by rw [getD_app_lt hi]; have := h40 i hi; omega) (by rw [getD_app_eq]; simp)
  rw [joinR, if_neg]
  rintro ⟨_, h2⟩
  have e : joinL (L ++ [(500, y, y - 1)]) 500 y = (L ++ [(500, y, y - 1)]) ++ [(500, y, y - 1)] := by simp [joinL, hp2, hw]
  rw [e] at h2
  have h3 := (h2.2 (L.length + 1) (by simp)).2.2.2 (by omega)
  rw [show L.length + 1 - 1 = L.length by omega, getD_app_lt (by simp), getD_app_eq] at h3
  have h4 : ((L ++ [(500, y, y - 1)]) ++ [(500, y, y - 1)]).getD (L.length + 1) default = (500, y, y - 1) := by
    have := getD_app_eq (l := L ++ [(500, y, y - 1)]) (x := ((500, y, y - 1) : TMember))
    simpa using this
  rw [h4] at h3
  simp at h3
def anyK (L : List TMember) (S : Int) : Nat → Bool
  | 0 => decide (L.length = 0)
  | k + 1 => bif anyK L S k then true else decide ((L.getD k default).1 = S)
theorem anyK_yes {L : List TMember} {S : Int} {i : Nat} (hi : (L.getD i default).1 = S) : ∀ k, i < k → anyK L S k = true
  | 0, h => by omega
  | k + 1, h => by
    simp only [anyK]
    by_cases h2 : i < k
    · rw [anyK_yes hi k h2]; rfl
    · rw [show i = k by omega] at hi
      rw [decide_eq_true hi]; cases anyK L S k <;> rfl
theorem anyK_no {L : List TMember} {S : Int} (h0 : L.length = 0) : anyK L S L.length = true := by rw [h0]; simp [anyK, h0]
theorem body (l : List Int) (hl : l.length ≤ 1048576) (hb : bytes l) (L : List TMember) (hL : memOk L) (hL8 : L.length ≤ 8) (hd8 : ∀ i, i < L.length → mbAt L i) (hd : FnC Try.prog 31 [(false, [.sq dU (l.map eU)])] (.one (.own 45 dMember (L.map eMember)))) : FnC Try.prog 9 [(false, [.sq dU (l.map eU)])] (.one (.bool true)) := by
  have b0 := atV_bd hb 0
  have e0 : (atV l 0).tmod 40 = atV l 0 % 40 := Int.tmod_eq_emod_of_nonneg b0.1
  have e3 : IntKind.i64.wrap (1995 + (atV l 0).tmod 40) = 1995 + (atV l 0).tmod 40 := wr ⟨by omega, by omega⟩
  have hy : 1995 ≤ IntKind.i64.wrap (1995 + (atV l 0).tmod 40) ∧ IntKind.i64.wrap (1995 + (atV l 0).tmod 40) ≤ 2034 := by omega
  generalize hY : IntKind.i64.wrap (1995 + (atV l 0).tmod 40) = y at *
  have cO := implOwedBy L (by omega) y
  rw [show owedR L y = owedL L y by rw [owedR, if_pos ⟨hL, by omega, by omega⟩]] at cO
  have cG := implGoodStanding L (by omega) y
  rw [goodR_eq hL] at cG
  have hol : (owedL L y).length = L.length := by simp [owedL]
  subst hY
  refine fn_z (ty := ty) (ts := [.tmp 2]) [0, 2, 3, 4, 5, 6, 7, 8, 9, 10, 11, 13, 14, 15, 16, 17, 18, 20, 37, 41, 71, 83, 123, 148, 164, 170, 192] mixed ty_ok Try.func9 (by kernel_rfl) rfl (by kernel_rfl) (by kernel_rfl) rfl (.inl rfl) (Nat.le_of_ble_eq_true rfl) (by simp only [entry, entryV, C.toS, Nat.zero_add, Nat.reduceAdd, List.map_cons, List.map_nil]; exact rfl) ?_
  repeat' (first
    | ((with_reducible refine z_run ?_); (conv => whnf))
    | (with_reducible apply z_t)
    | (with_reducible apply z_f)
    | ((with_reducible apply z_b); ((intro h); (try simp only [beq_self_eq_true, eq_self, not_true_eq_false, not_false_eq_true, decide_true, cond_true, cond_false, Bool.not_true, Bool.not_false, Bool.not_eq_true', Bool.not_eq_false', Bool.and_eq_true, Bool.and_eq_false_imp, Bool.or_eq_true, Bool.or_eq_false_iff, decide_eq_true_eq, decide_eq_false_iff_not, Bool.false_eq_true, reduceCtorEq, Int.not_le, Int.not_lt, Decidable.not_not] at h)); rotate_left; ((intro h); (try simp only [beq_self_eq_true, eq_self, not_true_eq_false, not_false_eq_true, decide_true, cond_true, cond_false, Bool.not_true, Bool.not_false, Bool.not_eq_true', Bool.not_eq_false', Bool.and_eq_true, Bool.and_eq_false_imp, Bool.or_eq_true, Bool.or_eq_false_iff, decide_eq_true_eq, decide_eq_false_iff_not, Bool.false_eq_true, reduceCtorEq, Int.not_le, Int.not_lt, Decidable.not_not] at h)))
    | (with_reducible refine z_r ?_ ?_)
    | (with_reducible refine z_wg ?_ ?_)
    | (with_reducible refine z_w ?_ ?_)
    | ((with_reducible apply sh_nil); (intro _))
    | ((with_reducible apply sh_int); (intro _))
    | ((with_reducible apply sh_bool); (intro _))
    | ((with_reducible apply sh_sl); (intro _))
    | (with_reducible refine z_k (big_fn l hl) ?_)
    | (with_reducible refine z_k hd ?_)
    | (with_reducible refine z_k (at_fn l hl hb _ (by omega)) ?_)
    | (with_reducible refine z_k cO ?_)
    | (with_reducible refine z_k cG ?_)
    | ((with_reducible refine z_o ?zo ?_); (case zo => decide +kernel))
    | fail)
  all_goals ((try simp only [Int.toNat_natCast, tn1, tp1, List.length_map, eq_self, true_and, and_true] at *); (try simp (disch := omega) only [wr, Int.toNat_natCast, tn1, tp1, List.length_map, eq_self, true_and, and_true] at *))
  · refine z_li (fun k => k ≤ L.length) (0 : Nat) (fun k => L.length - k) (fun k => ⟨[(0, .one (.ro dU (l.map eU))), (3, .one (.root 22)), (4, .one (.int .i64 (1995 + (atV l 0).tmod 40))), (5, .one (.root 29)), (6, .one (.root 32)), (7, .one (.int .i64 k))], [(32, .row 3 dI ((goodL L (1995 + (atV l 0).tmod 40)).map eI)), (29, .row 3 dI ((owedL L (1995 + (atV l 0).tmod 40)).map eI)), (22, .row 45 dMember (L.map eMember))]⟩) (by omega) ?_ ?_
    · simp only [List.length_map, fillTo_zero, Int.toNat_natCast, Option.isSome_some, and_self, fixB, Nat.reduceLeDiff, false_implies, true_implies, forall_const, St.le0, St.swaps, St.ren, mapV, renO, V.ren, Sc.ren, Ob.ren, swp, slsLe, obsLe, vLe, scLe, scsLe, obLe, Vq.look, Nat.reduceEqDiff, if_true, if_false, reduceCtorEq, ↓reduceIte, true_and, and_true] <;> (and_intros <;> first | rfl | omega | assumption)
    · generalize hY : 1995 + (atV l 0).tmod 40 = y at *
      intro k hk
      by_cases hlt : k < L.length
      · have hbk := hd8 k hlt
        unfold mbAt memAt at hbk
        have hog := owed_get (y := y) hlt
        have hgi := good_iff hL hlt y
        obtain ⟨P, hP⟩ : ∃ P : List TMember, P = L.map (pay1 (L.getD k default).1 (y - (L.getD k default).2.2)) := ⟨_, rfl⟩
        have hPl : P.length = L.length := by rw [hP]; simp
        have hOO : ((owedL L y).getD k default = 0 ↔ y ≤ (L.getD k default).2.2) ∧ (1 ≤ (owedL L y).getD k default → (owedL L y).getD k default = y - (L.getD k default).2.2) := by
          rw [hog]; split <;> omega
        have cP : ∀ num o, num = (L.getD k default).1 → o = (owedL L y).getD k default → 1 ≤ o → o ≤ 10 → FnC Try.prog 27 [(false, [.sq dMember (L.map eMember)]), (false, [.int .i64 num]), (false, [.int .i64 o])] (.tup [(false, [.own 45 dMember (P.map eMember)]), (false, [.bool true])]) := fun num o e1 e2 h1 h2 => by
          subst e1
          subst e2
          have := implPayDues L (by omega) (L.getD k default).1 ((owedL L y).getD k default)
          have e := hOO.2 h1
          have h3 : 1 ≤ y - (L.getD k default).2.2 := by omega
          have h4 : y - (L.getD k default).2.2 ≤ 10 := by omega
          rw [e] at this ⊢
          rwa [payR, if_pos ⟨hL, ⟨h3, h4⟩, ⟨_, mem_getD.2 ⟨k, hlt, rfl⟩, rfl⟩, (pay_ok hL hlt h3 (by omega)).1⟩, ← hP] at this
        have cQ : 1 ≤ (owedL L y).getD k default → ∀ num z, num = (L.getD k default).1 → FnC Try.prog 29 [(false, [.sq dMember (P.map eMember)]), (false, [.int .i64 z])] (.one (.own 3 dI ((goodL P z).map eI))) ∧ FnC Try.prog 33 [(false, [.sq dI ((goodL P z).map eI)]), (false, [.int .i64 num])] (.one (.bool (decide (z ≤ y)))) := fun h1 num z e1 => by
          subst e1
          have hpo := pay_ok hL hlt (y := y) (by have := hOO.2 h1; omega) (by omega)
          rw [← hP] at hpo
          have h2 := implGoodStanding P (by omega) z
          rw [goodR_eq hpo.1] at h2
          refine ⟨h2, ?_⟩
          have h3 := has_fn (goodL P z) (L.getD k default).1 (by have := goodR_len P z; rw [goodR_eq hpo.1] at this; omega)
          have h4 := good_iff hpo.1 (k := k) (by omega) z
          rw [hpo.2] at h4
          rwa [decide_eq_decide.2 h4] at h3
        have hgl : (goodL L y).length ≤ 2097152 := by have := goodR_len L y; rw [goodR_eq hL] at this; omega
        repeat' (first
    | ((with_reducible refine z_run ?_); (conv => whnf))
    | (with_reducible apply z_t)
    | (with_reducible apply z_f)
    | ((with_reducible apply z_b); ((intro h); (try simp only [beq_self_eq_true, eq_self, not_true_eq_false, not_false_eq_true, decide_true, cond_true, cond_false, Bool.not_true, Bool.not_false, Bool.not_eq_true', Bool.not_eq_false', Bool.and_eq_true, Bool.and_eq_false_imp, Bool.or_eq_true, Bool.or_eq_false_iff, decide_eq_true_eq, decide_eq_false_iff_not, Bool.false_eq_true, reduceCtorEq, Int.not_le, Int.not_lt, Decidable.not_not] at h)); rotate_left; ((intro h); (try simp only [beq_self_eq_true, eq_self, not_true_eq_false, not_false_eq_true, decide_true, cond_true, cond_false, Bool.not_true, Bool.not_false, Bool.not_eq_true', Bool.not_eq_false', Bool.and_eq_true, Bool.and_eq_false_imp, Bool.or_eq_true, Bool.or_eq_false_iff, decide_eq_true_eq, decide_eq_false_iff_not, Bool.false_eq_true, reduceCtorEq, Int.not_le, Int.not_lt, Decidable.not_not] at h)))
    | (with_reducible refine z_r ?_ ?_)
    | (with_reducible refine z_wg ?_ ?_)
    | (with_reducible refine z_w ?_ ?_)
    | ((with_reducible apply sh_nil); (intro _))
    | ((with_reducible apply sh_int); (intro _))
    | ((with_reducible apply sh_bool); (intro _))
    | ((with_reducible apply sh_sl); (intro _))
    | (with_reducible refine z_k (has_fn _ _ hgl) ?_)
    | (with_reducible refine z_k (cP _ _ (by simp only [Int.toNat_natCast]) (by simp only [Int.toNat_natCast]) (by simp only [Int.toNat_natCast] at *; omega) (by simp only [Int.toNat_natCast] at *; omega)) ?_)
    | (with_reducible refine z_k ((cQ (by simp only [Int.toNat_natCast] at *; omega) _ _ rfl).1) ?_)
    | (with_reducible refine z_k ((cQ (by simp only [Int.toNat_natCast] at *; omega) _ _ (by simp only [Int.toNat_natCast])).2) ?_)
    | ((with_reducible refine z_o ?zo ?_); (case zo => decide +kernel))
    | fail)
        all_goals ((try simp only [Int.toNat_natCast, tn1, tp1, List.length_map, eq_self, true_and, and_true] at *); (try simp (disch := omega) only [wr, Int.toNat_natCast, tn1, tp1, List.length_map, eq_self, true_and, and_true] at *))
        all_goals (first
          | omega
          | (simp only [hol]; omega)
          | (exfalso
             by_cases hz : (owedL L y).getD k default = 0
             · simp only [decide_eq_true hz, decide_eq_true (hgi.2 (hOO.1.1 hz))] at *; first | omega | contradiction
             · simp only [decide_eq_false hz, decide_eq_false (fun h1 => hz (hOO.1.2 (hgi.1 h1)))] at *; first | omega | contradiction)
          | (refine z_n (k + 1) ⟨by omega, by omega⟩ ?_; simp only [List.length_map, fillTo_zero, Int.toNat_natCast, Option.isSome_some, and_self, fixB, Nat.reduceLeDiff, false_implies, true_implies, forall_const, St.le0, St.swaps, St.ren, mapV, renO, V.ren, Sc.ren, Ob.ren, swp, slsLe, obsLe, vLe, scLe, scsLe, obLe, Vq.look, Nat.reduceEqDiff, if_true, if_false, reduceCtorEq, ↓reduceIte, true_and, and_true] <;> (and_intros <;> first | rfl | omega | assumption)))
      · have hj := join1 hL hL8 (fun i hi => (hd8 i hi).2.1) (y := y) (by omega)
        have cJ := implJoinGuild L (by omega) 500 y
        rw [hj.1] at cJ
        have cK := implJoinGuild (L ++ [(500, y, y - 1)]) (by simp; omega) 500 y
        rw [hj.2.2] at cK
        have cS := implSeniorOf L (by omega)
        have hJm := hj.2.1
        have cH : ∀ z, FnC Try.prog 29 [(false, [.sq dMember ((L ++ [(500, y, y - 1)]).map eMember)]), (false, [.int .i64 z])] (.one (.own 3 dI ((goodL (L ++ [(500, y, y - 1)]) z).map eI))) ∧ FnC Try.prog 33 [(false, [.sq dI ((goodL (L ++ [(500, y, y - 1)]) z).map eI)]), (false, [.int .i64 500])] (.one (.bool (decide (z ≤ y - 1)))) := fun z => by
          have h2 := implGoodStanding (L ++ [(500, y, y - 1)]) (by simp; omega) z
          rw [goodR_eq hJm] at h2
          refine ⟨h2, ?_⟩
          have h3 := has_fn (goodL (L ++ [(500, y, y - 1)]) z) 500 (by have := goodR_len (L ++ [(500, y, y - 1)]) z; rw [goodR_eq hJm] at this; simp at this; omega)
          have h4 := good_iff hJm (k := L.length) (by simp) z
          rw [getD_app_eq] at h4
          rwa [decide_eq_decide.2 h4] at h3
        have cM := implMembersOk_t (by simp; omega) hJm
        have hJl : (L ++ [(500, y, y - 1)]).length = L.length + 1 := by simp
        have hS0 : seniorR L = -1 ↔ L.length = 0 := by
          by_cases h0 : L.length = 0
          · rw [seniorR, if_neg (fun h => h.2 h0)]; simp [h0]
          · rw [seniorR, if_pos ⟨hL, h0⟩]
            have h1 := hL.2 _ (sen_lt L L.length (by omega))
            unfold memAt at h1
            omega
        have hS1 : L.length ≠ 0 → seniorR L = (L.getD (sen L L.length) default).1 := fun h0 => by rw [seniorR, if_pos ⟨hL, h0⟩]
        generalize hJ : L ++ [(500, y, y - 1)] = J at *
        generalize hS : seniorR L = S at *
        repeat' (first
    | ((with_reducible refine z_run ?_); (conv => whnf))
    | (with_reducible apply z_t)
    | (with_reducible apply z_f)
    | ((with_reducible apply z_b); ((intro h); (try simp only [beq_self_eq_true, eq_self, not_true_eq_false, not_false_eq_true, decide_true, cond_true, cond_false, Bool.not_true, Bool.not_false, Bool.not_eq_true', Bool.not_eq_false', Bool.and_eq_true, Bool.and_eq_false_imp, Bool.or_eq_true, Bool.or_eq_false_iff, decide_eq_true_eq, decide_eq_false_iff_not, Bool.false_eq_true, reduceCtorEq, Int.not_le, Int.not_lt, Decidable.not_not] at h)); rotate_left; ((intro h); (try simp only [beq_self_eq_true, eq_self, not_true_eq_false, not_false_eq_true, decide_true, cond_true, cond_false, Bool.not_true, Bool.not_false, Bool.not_eq_true', Bool.not_eq_false', Bool.and_eq_true, Bool.and_eq_false_imp, Bool.or_eq_true, Bool.or_eq_false_iff, decide_eq_true_eq, decide_eq_false_iff_not, Bool.false_eq_true, reduceCtorEq, Int.not_le, Int.not_lt, Decidable.not_not] at h)))
    | (with_reducible refine z_r ?_ ?_)
    | (with_reducible refine z_wg ?_ ?_)
    | (with_reducible refine z_w ?_ ?_)
    | ((with_reducible apply sh_nil); (intro _))
    | ((with_reducible apply sh_int); (intro _))
    | ((with_reducible apply sh_bool); (intro _))
    | ((with_reducible apply sh_sl); (intro _))
    | (with_reducible refine z_k cJ ?_)
    | (with_reducible refine z_k cK ?_)
    | (with_reducible refine z_k cS ?_)
    | (with_reducible refine z_k (has_fn _ _ (by omega)) ?_)
    | ((with_reducible refine z_o ?zo ?_); (case zo => decide +kernel))
    | fail)
        all_goals ((try simp only [Int.toNat_natCast, tn1, tp1, List.length_map, eq_self, true_and, and_true] at *); (try simp (disch := omega) only [wr, Int.toNat_natCast, tn1, tp1, List.length_map, eq_self, true_and, and_true] at *))
        all_goals (try omega)
        all_goals (
            (refine z_li (fun k => k ≤ L.length) (0 : Nat) (fun k => L.length - k) (fun k => ⟨[(0, .one (.ro dU (l.map eU))), (3, .one (.root 22)), (4, .one (.int .i64 y)), (10, .one (.root 127)), (11, .one (.bool true)), (13, .one (.bool false)), (14, .one (.int .i64 S)), (15, .one (.bool (anyK L S k))), (16, .one (.int .i64 k))], [(127, .row 45 dMember (J.map eMember)), (22, .row 45 dMember (L.map eMember))]⟩) (by omega) ?_ ?_
             · skip
               simp only [List.length_map, fillTo_zero, Int.toNat_natCast, Option.isSome_some, and_self, fixB, Nat.reduceLeDiff, false_implies, true_implies, forall_const, St.le0, St.swaps, St.ren, mapV, renO, V.ren, Sc.ren, Ob.ren, swp, slsLe, obsLe, vLe, scLe, scsLe, obLe, Vq.look, Nat.reduceEqDiff, if_true, if_false, reduceCtorEq, ↓reduceIte, true_and, and_true, anyK]
               and_intros <;> first | rfl | omega | (simp only [cond_true]; exact decide_eq_decide.2 (by omega)) | (exact (decide_eq_false (by omega)).symm) | (exact decide_eq_false (by omega))
             · intro k hk
               repeat' (first
    | ((with_reducible refine z_run ?_); (conv => whnf))
    | (with_reducible apply z_t)
    | (with_reducible apply z_f)
    | ((with_reducible apply z_b); ((intro h); (try simp only [beq_self_eq_true, eq_self, not_true_eq_false, not_false_eq_true, decide_true, cond_true, cond_false, Bool.not_true, Bool.not_false, Bool.not_eq_true', Bool.not_eq_false', Bool.and_eq_true, Bool.and_eq_false_imp, Bool.or_eq_true, Bool.or_eq_false_iff, decide_eq_true_eq, decide_eq_false_iff_not, Bool.false_eq_true, reduceCtorEq, Int.not_le, Int.not_lt, Decidable.not_not] at h)); rotate_left; ((intro h); (try simp only [beq_self_eq_true, eq_self, not_true_eq_false, not_false_eq_true, decide_true, cond_true, cond_false, Bool.not_true, Bool.not_false, Bool.not_eq_true', Bool.not_eq_false', Bool.and_eq_true, Bool.and_eq_false_imp, Bool.or_eq_true, Bool.or_eq_false_iff, decide_eq_true_eq, decide_eq_false_iff_not, Bool.false_eq_true, reduceCtorEq, Int.not_le, Int.not_lt, Decidable.not_not] at h)))
    | (with_reducible refine z_r ?_ ?_)
    | (with_reducible refine z_wg ?_ ?_)
    | (with_reducible refine z_w ?_ ?_)
    | ((with_reducible apply sh_nil); (intro _))
    | ((with_reducible apply sh_int); (intro _))
    | ((with_reducible apply sh_bool); (intro _))
    | ((with_reducible apply sh_sl); (intro _))
    | ((with_reducible refine z_o ?zo ?_); (case zo => decide +kernel))
    | fail)
               all_goals ((try simp only [Int.toNat_natCast, tn1, tp1, List.length_map, eq_self, true_and, and_true] at *); (try simp (disch := omega) only [wr, Int.toNat_natCast, tn1, tp1, List.length_map, eq_self, true_and, and_true] at *))
               all_goals (first
                 | omega
                 | (refine z_n (k + 1) ⟨by omega, by omega⟩ ?_
                    have hak : anyK L S k = true := by assumption
                    simp only [List.length_map, fillTo_zero, Int.toNat_natCast, Option.isSome_some, and_self, fixB, Nat.reduceLeDiff, false_implies, true_implies, forall_const, St.le0, St.swaps, St.ren, mapV, renO, V.ren, Sc.ren, Ob.ren, swp, slsLe, obsLe, vLe, scLe, scsLe, obLe, Vq.look, Nat.reduceEqDiff, if_true, if_false, reduceCtorEq, ↓reduceIte, true_and, and_true, anyK, hak]; and_intros <;> first | rfl | omega)
                 | (refine z_n (k + 1) ⟨by omega, by omega⟩ ?_
                    have hak : anyK L S k = false := by assumption
                    simp only [List.length_map, fillTo_zero, Int.toNat_natCast, Option.isSome_some, and_self, fixB, Nat.reduceLeDiff, false_implies, true_implies, forall_const, St.le0, St.swaps, St.ren, mapV, renO, V.ren, Sc.ren, Ob.ren, swp, slsLe, obsLe, vLe, scLe, scsLe, obLe, Vq.look, Nat.reduceEqDiff, if_true, if_false, reduceCtorEq, ↓reduceIte, true_and, and_true, anyK, hak]; and_intros <;> first | rfl | omega)
                 | (have hany : anyK L S k = true := by
                      rw [show k = L.length by omega]
                      by_cases h0 : L.length = 0
                      · exact anyK_no h0
                      · exact anyK_yes (hS1 h0).symm L.length (sen_lt L L.length (by omega))
                    rw [hany]
                    clear hany
                    refine z_li (fun k => k ≤ L.length) (0 : Nat) (fun k => L.length - k) (fun k => ⟨[(0, .one (.ro dU (l.map eU))), (3, .one (.root 22)), (4, .one (.int .i64 y)), (10, .one (.root 127)), (11, .one (.bool true)), (13, .one (.bool false)), (14, .one (.int .i64 S)), (15, .one (.bool true)), (17, .one (.int .i64 k))], [(127, .row 45 dMember (J.map eMember)), (22, .row 45 dMember (L.map eMember))]⟩) (by omega) ?_ ?_
                    · simp only [List.length_map, fillTo_zero, Int.toNat_natCast, Option.isSome_some, and_self, fixB, Nat.reduceLeDiff, false_implies, true_implies, forall_const, St.le0, St.swaps, St.ren, mapV, renO, V.ren, Sc.ren, Ob.ren, swp, slsLe, obsLe, vLe, scLe, scsLe, obLe, Vq.look, Nat.reduceEqDiff, if_true, if_false, reduceCtorEq, ↓reduceIte, true_and, and_true] <;> (and_intros <;> first | rfl | omega | assumption)
                    · intro k hk
                      repeat' (first
    | ((with_reducible refine z_run ?_); (conv => whnf))
    | (with_reducible apply z_t)
    | (with_reducible apply z_f)
    | ((with_reducible apply z_b); ((intro h); (try simp only [beq_self_eq_true, eq_self, not_true_eq_false, not_false_eq_true, decide_true, cond_true, cond_false, Bool.not_true, Bool.not_false, Bool.not_eq_true', Bool.not_eq_false', Bool.and_eq_true, Bool.and_eq_false_imp, Bool.or_eq_true, Bool.or_eq_false_iff, decide_eq_true_eq, decide_eq_false_iff_not, Bool.false_eq_true, reduceCtorEq, Int.not_le, Int.not_lt, Decidable.not_not] at h)); rotate_left; ((intro h); (try simp only [beq_self_eq_true, eq_self, not_true_eq_false, not_false_eq_true, decide_true, cond_true, cond_false, Bool.not_true, Bool.not_false, Bool.not_eq_true', Bool.not_eq_false', Bool.and_eq_true, Bool.and_eq_false_imp, Bool.or_eq_true, Bool.or_eq_false_iff, decide_eq_true_eq, decide_eq_false_iff_not, Bool.false_eq_true, reduceCtorEq, Int.not_le, Int.not_lt, Decidable.not_not] at h)))
    | (with_reducible refine z_r ?_ ?_)
    | (with_reducible refine z_wg ?_ ?_)
    | (with_reducible refine z_w ?_ ?_)
    | ((with_reducible apply sh_nil); (intro _))
    | ((with_reducible apply sh_int); (intro _))
    | ((with_reducible apply sh_bool); (intro _))
    | ((with_reducible apply sh_sl); (intro _))
    | (with_reducible refine z_k ((cH _).1) ?_)
    | (with_reducible refine z_k ((cH _).2) ?_)
    | (with_reducible refine z_k cM ?_)
    | ((with_reducible refine z_o ?zo ?_); (case zo => decide +kernel))
    | fail)
                      all_goals ((try simp only [Int.toNat_natCast, tn1, tp1, List.length_map, eq_self, true_and, and_true] at *); (try simp (disch := omega) only [wr, Int.toNat_natCast, tn1, tp1, List.length_map, eq_self, true_and, and_true] at *))
                      all_goals (first
                        | omega
                        | (refine z_e rfl ?_; simp only [fin, finP, finM, ids, nodupB, tupP, tupM, memN, List.length_cons, List.length_nil, List.nil_append, List.append_nil, List.cons_append, Nat.zero_add, Nat.reduceAdd, ne_eq, not_false_eq_true, eq_self, ev, Vq.look, List.map_cons, List.map_nil, and_true, true_and, Nat.reduceEqDiff, if_true, if_false, reduceCtorEq, ↓reduceIte]; done)
                        | (refine z_e rfl ?_; simp only [fin, finP, finM, ids, nodupB, tupP, tupM, memN, List.length_cons, List.length_nil, List.nil_append, List.append_nil, List.cons_append, Nat.zero_add, Nat.reduceAdd, ne_eq, not_false_eq_true, eq_self, ev, Vq.look, List.map_cons, List.map_nil, and_true, true_and, Nat.reduceEqDiff, if_true, if_false, reduceCtorEq, ↓reduceIte]; rfl)
                        | (refine z_li (fun i => i ≤ L.length) (0 : Nat) (fun i => L.length - i) (fun i => ⟨[(0, .one (.ro dU (l.map eU))), (3, .one (.root 22)), (4, .one (.int .i64 y)), (10, .one (.root 127)), (11, .one (.bool true)), (13, .one (.bool false)), (14, .one (.int .i64 S)), (15, .one (.bool true)), (17, .one (.int .i64 k)), (18, .one (.int .i64 i))], [(127, .row 45 dMember (J.map eMember)), (22, .row 45 dMember (L.map eMember))]⟩) (by omega) ?_ ?_
                           · simp only [List.length_map, fillTo_zero, Int.toNat_natCast, Option.isSome_some, and_self, fixB, Nat.reduceLeDiff, false_implies, true_implies, forall_const, St.le0, St.swaps, St.ren, mapV, renO, V.ren, Sc.ren, Ob.ren, swp, slsLe, obsLe, vLe, scLe, scsLe, obLe, Vq.look, Nat.reduceEqDiff, if_true, if_false, reduceCtorEq, ↓reduceIte, true_and, and_true] <;> (and_intros <;> first | rfl | omega | assumption)
                           · intro i hi
                             repeat' (first
    | ((with_reducible refine z_run ?_); (conv => whnf))
    | (with_reducible apply z_t)
    | (with_reducible apply z_f)
    | ((with_reducible apply z_b); ((intro h); (try simp only [beq_self_eq_true, eq_self, not_true_eq_false, not_false_eq_true, decide_true, cond_true, cond_false, Bool.not_true, Bool.not_false, Bool.not_eq_true', Bool.not_eq_false', Bool.and_eq_true, Bool.and_eq_false_imp, Bool.or_eq_true, Bool.or_eq_false_iff, decide_eq_true_eq, decide_eq_false_iff_not, Bool.false_eq_true, reduceCtorEq, Int.not_le, Int.not_lt, Decidable.not_not] at h)); rotate_left; ((intro h); (try simp only [beq_self_eq_true, eq_self, not_true_eq_false, not_false_eq_true, decide_true, cond_true, cond_false, Bool.not_true, Bool.not_false, Bool.not_eq_true', Bool.not_eq_false', Bool.and_eq_true, Bool.and_eq_false_imp, Bool.or_eq_true, Bool.or_eq_false_iff, decide_eq_true_eq, decide_eq_false_iff_not, Bool.false_eq_true, reduceCtorEq, Int.not_le, Int.not_lt, Decidable.not_not] at h)))
    | (with_reducible refine z_r ?_ ?_)
    | (with_reducible refine z_wg ?_ ?_)
    | (with_reducible refine z_w ?_ ?_)
    | ((with_reducible apply sh_nil); (intro _))
    | ((with_reducible apply sh_int); (intro _))
    | ((with_reducible apply sh_bool); (intro _))
    | ((with_reducible apply sh_sl); (intro _))
    | ((with_reducible refine z_o ?zo ?_); (case zo => decide +kernel))
    | fail)
                             all_goals ((try simp only [Int.toNat_natCast, tn1, tp1, List.length_map, eq_self, true_and, and_true] at *); (try simp (disch := omega) only [wr, Int.toNat_natCast, tn1, tp1, List.length_map, eq_self, true_and, and_true] at *))
                             all_goals (first
                               | omega
                               | (refine z_n (i + 1) ⟨by omega, by omega⟩ ?_; simp only [List.length_map, fillTo_zero, Int.toNat_natCast, Option.isSome_some, and_self, fixB, Nat.reduceLeDiff, false_implies, true_implies, forall_const, St.le0, St.swaps, St.ren, mapV, renO, V.ren, Sc.ren, Ob.ren, swp, slsLe, obsLe, vLe, scLe, scsLe, obLe, Vq.look, Nat.reduceEqDiff, if_true, if_false, reduceCtorEq, ↓reduceIte, true_and, and_true] <;> (and_intros <;> first | rfl | omega | assumption); done)
                               | (refine z_n (k + 1) ⟨by omega, by omega⟩ ?_; simp only [List.length_map, fillTo_zero, Int.toNat_natCast, Option.isSome_some, and_self, fixB, Nat.reduceLeDiff, false_implies, true_implies, forall_const, St.le0, St.swaps, St.ren, mapV, renO, V.ren, Sc.ren, Ob.ren, swp, slsLe, obsLe, vLe, scLe, scsLe, obLe, Vq.look, Nat.reduceEqDiff, if_true, if_false, reduceCtorEq, ↓reduceIte, true_and, and_true] <;> (and_intros <;> first | rfl | omega | assumption); done)
                               | (exfalso
                                  have hns := hS1 (by omega)
                                  have his := mem_inj hL (i := i) (by omega) (sen_lt L L.length (by omega)) (by omega)
                                  have hle := sen_le L L.length k (by omega)
                                  rw [← his] at hle
                                  omega))))))))
  all_goals (first | omega | (exfalso; omega))
theorem law : LawFn Try.prog 9 [(false, [.sl dU])] := by
  intro caps hk hok
  obtain ⟨cs0, q0, rfl, e0, hk0⟩ := caps_cons hk
  obtain rfl := caps_nil hk0
  obtain ⟨c0_0, r0_0, rfl, f0_0, g0_0⟩ := kds_cons e0
  obtain rfl := kds_nil g0_0
  have ok0_0 := hok _ (List.getElem_mem (n := 0) (by simp)) _ (List.getElem_mem (n := 0) (by simp))
  simp only [List.getElem_cons_zero, List.getElem_cons_succ] at ok0_0
  obtain ⟨rows0_0, rfl⟩ := kd_sl f0_0
  obtain ⟨l, rfl⟩ := rows_map (e := eU) rowU ok0_0.rows.1
  have wl := ok0_0.len
  rw [List.length_map] at wl
  have hb := bytes_of ok0_0
  by_cases hl : l.length ≤ 1048576
  · have hbv := belV_bd l (curZ l) (n := 7) (by omega)
    have hg := mb_good l (c := curN l (curZ l)) (curN_le (by simp [curZ])) (belV l (curZ l) 7).toNat (by omega)
    obtain ⟨h1, h2, h3, _⟩ := hg
    have hlen : (drawMb l (curZ l)).length ≤ 8 := by unfold drawMb; omega
    have h4 : ∀ i, i < (drawMb l (curZ l)).length → mbAt (drawMb l (curZ l)) i := fun i hi => (h3 i (by unfold drawMb at hi; omega)).1
    exact body l hl hb (drawMb l (curZ l)) ⟨by omega, fun i hi => (h4 i hi).1⟩ hlen h4 (draw_fn l hl)
  · refine fn_z (ty := ty) (ts := [.tmp 2]) [0, 2, 3, 4, 5, 6, 7, 8, 9, 10, 11, 13, 14, 15, 16, 17, 18, 20, 37, 41, 71, 83, 123, 148, 164, 170, 192] mixed ty_ok Try.func9 (by kernel_rfl) rfl (by kernel_rfl) (by kernel_rfl) rfl (.inl rfl) (Nat.le_of_ble_eq_true rfl) (by simp only [entry, entryV, C.toS, Nat.zero_add, Nat.reduceAdd, List.map_cons, List.map_nil]; exact rfl) ?_
    repeat' (first
    | ((with_reducible refine z_run ?_); (conv => whnf))
    | (with_reducible apply z_t)
    | (with_reducible apply z_f)
    | ((with_reducible apply z_b); ((intro h); (try simp only [beq_self_eq_true, eq_self, not_true_eq_false, not_false_eq_true, decide_true, cond_true, cond_false, Bool.not_true, Bool.not_false, Bool.not_eq_true', Bool.not_eq_false', Bool.and_eq_true, Bool.and_eq_false_imp, Bool.or_eq_true, Bool.or_eq_false_iff, decide_eq_true_eq, decide_eq_false_iff_not, Bool.false_eq_true, reduceCtorEq, Int.not_le, Int.not_lt, Decidable.not_not] at h)); rotate_left; ((intro h); (try simp only [beq_self_eq_true, eq_self, not_true_eq_false, not_false_eq_true, decide_true, cond_true, cond_false, Bool.not_true, Bool.not_false, Bool.not_eq_true', Bool.not_eq_false', Bool.and_eq_true, Bool.and_eq_false_imp, Bool.or_eq_true, Bool.or_eq_false_iff, decide_eq_true_eq, decide_eq_false_iff_not, Bool.false_eq_true, reduceCtorEq, Int.not_le, Int.not_lt, Decidable.not_not] at h)))
    | (with_reducible refine z_r ?_ ?_)
    | (with_reducible refine z_wg ?_ ?_)
    | (with_reducible refine z_w ?_ ?_)
    | ((with_reducible apply sh_nil); (intro _))
    | ((with_reducible apply sh_int); (intro _))
    | ((with_reducible apply sh_bool); (intro _))
    | ((with_reducible apply sh_sl); (intro _))
    | (with_reducible refine z_k (big_no l hl) ?_)
    | ((with_reducible refine z_o ?zo ?_); (case zo => decide +kernel))
    | fail)
    all_goals (first | omega | refine z_e rfl ?_; simp only [fin, finP, finM, ids, nodupB, tupP, tupM, memN, List.length_cons, List.length_nil, List.nil_append, List.append_nil, List.cons_append, Nat.zero_add, Nat.reduceAdd, ne_eq, not_false_eq_true, eq_self, ev, Vq.look, List.map_cons, List.map_nil, and_true, true_and, Nat.reduceEqDiff, if_true, if_false, reduceCtorEq, ↓reduceIte])
set_option maxRecDepth 100000 in
theorem lifted (os : Os) (started : os.Started) (H : Type) (enc : TypeId × Value → H) :
    ReturnsInHanded {} Try.checked os 9 .any (Rows.fnMembersSpec.pre6 enc Try.prog Try.f9 Rows.fnMembersRow.domain false) (Rows.fnMembersSpec.post enc Try.prog Try.f9 false true false false) :=
  law_lift 9 [(false, [.sl [.int .u8]])] (by kernel_rfl) started (by kernel_rfl) Try.func9
    (ChangeSpec.witness6 (enc := enc) (C := Try.checked) false ⟨#[], #[.slice none 0 0], []⟩ 8 (by kernel_rfl) (by kernel_rfl) (by kernel_rfl) (by kernel_rfl))
    rfl (by kernel_rfl) (show Try.checked.prog.underlying 4 = some .bool by kernel_rfl) (by intro ds h; obtain ⟨d0, rfl⟩ := len1 (h.trans (show Try.f9.params.size = 1 by kernel_rfl)); rfl) (by kernel_rfl) (by kernel_rfl) (by kernel_rfl) (by kernel_rfl) (by kernel_rfl) law
theorem over : Rows.fnMembersRow.holds Try.pinned (OpenSpec.ofChange Rows.fnMembersSpec) :=
  OpenClaim.holds_of_wide 9 Try.f9 rfl rfl rfl rfl rfl rfl rfl ⟨rfl, rfl, rfl, rfl, rfl⟩ rfl rfl rfl rfl rfl (by kernel_rfl) Try.func9 (by kernel_rfl)
    (of_decide_eq_true (by kernel_rfl)) (by unfold Func.isWrapper; first | (rw [if_pos (by decide +kernel)]; kernel_rfl) | (rw [if_neg (by decide +kernel)]; exact ⟨rfl, rfl⟩))
    (fun os started H enc _ => lifted os started H enc)
/-- THE STATEMENT -/
theorem proved : Rows.FnMembersSaid := over
#print axioms proved
end Go.Proofs.Ytjaeandgeefpdaa.fnMembers
