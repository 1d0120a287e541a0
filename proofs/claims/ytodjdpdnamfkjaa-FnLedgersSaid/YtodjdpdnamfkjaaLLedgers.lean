/- The statement Rows.FnLedgersSaid: for every text of bytes, the law FnLedgers returns true and leaves its argument as it was. No conditions. -/
import Derived.Test.YtodjdpdnamfkjaaLedP
namespace Go.Proofs.Ytodjdpdnamfkjaa.fnLedgers
open Go.Vq
set_option linter.unusedSimpArgs false
set_option maxHeartbeats 1000000
theorem balK_app {l m : List TBooking} {a : Int} : ∀ {k : Nat}, k ≤ l.length → balK (l ++ m) a k = balK l a k
  | 0, _ => rfl
  | k + 1, h => by simp only [balK]; rw [balK_app (by omega), getD_app_lt (by omega)]
theorem movK_app {l m : List TBooking} {a b : Int} : ∀ {k : Nat}, k ≤ l.length → movK (l ++ m) a b k = movK l a b k
  | 0, _ => rfl
  | k + 1, h => by simp only [movK]; rw [movK_app (by omega), getD_app_lt (by omega)]
theorem balR_app {l : List TBooking} {x : TBooking} {a : Int} (h : ledOk l) (h' : ledOk (l ++ [x])) : balR (l ++ [x]) a = balR l a + bal1 a x := by
  rw [balR, if_pos h', balR, if_pos h, show (l ++ [x]).length = l.length + 1 by simp]
  simp only [balK]
  rw [balK_app (Nat.le_refl _), getD_app_eq]
theorem movR_app {l : List TBooking} {x : TBooking} {a b : Int} (h : ledOk l) (h' : ledOk (l ++ [x])) : movR (l ++ [x]) a b = movR l a b + mov1 a b x := by
  rw [movR, if_pos h', movR, if_pos h, show (l ++ [x]).length = l.length + 1 by simp]
  simp only [movK]
  rw [movK_app (Nat.le_refl _), getD_app_eq]
theorem bal_sum {l : List TBooking} (h : ledOk l) : ∀ k, k ≤ l.length → balK l 0 k + balK l 1 k + balK l 2 k + balK l 3 k + balK l 4 k = 0
  | 0, _ => rfl
  | k + 1, hk => by
    have ih := bal_sum h k (by omega)
    have hb := h.2 k (by omega)
    unfold bookAt at hb
    simp only [balK, bal1]
    generalize l.getD k default = x at *
    obtain ⟨_, h1, h2, h3, _⟩ := hb
    have e1 : x.2.1 = 0 ∨ x.2.1 = 1 ∨ x.2.1 = 2 ∨ x.2.1 = 3 ∨ x.2.1 = 4 := by omega
    have e2 : x.2.2.1 = 0 ∨ x.2.2.1 = 1 ∨ x.2.2.1 = 2 ∨ x.2.2.1 = 3 ∨ x.2.2.1 = 4 := by omega
    rcases e1 with e1 | e1 | e1 | e1 | e1 <;> rcases e2 with e2 | e2 | e2 | e2 | e2 <;> simp only [e1, e2] <;> simp <;> omega
def sumK (l : List TBooking) : Nat → Int
  | 0 => 0
  | k + 1 => sumK l k + balR l (k : Int)
theorem balR_bd {l : List TBooking} (h : ledOk l) (a : Int) : -6000000 ≤ balR l a ∧ balR l a ≤ 6000000 := by
  have := balK_bd (a := a) h l.length (Nat.le_refl _)
  have := h.1
  rw [balR, if_pos h]; omega
theorem sumK_bd {l : List TBooking} (h : ledOk l) : ∀ k : Nat, -(6000000 * (k : Int)) ≤ sumK l k ∧ sumK l k ≤ 6000000 * k
  | 0 => by simp [sumK]
  | k + 1 => by have := sumK_bd h k; have := balR_bd h k; simp only [sumK]; omega
theorem sumK5 {l : List TBooking} (h : ledOk l) : sumK l 5 = 0 := by
  have := bal_sum h l.length (Nat.le_refl _)
  simp only [sumK, balR, if_pos h]
  simp; omega
theorem balsR5 {l : List TBooking} (h : ledOk l) : balsR l = balsK l 5 := by rw [balsR, if_pos h]; rfl
theorem balsR_get {l : List TBooking} (h : ledOk l) {k : Nat} (hk : k < 5) : (balsR l).getD k default = balR l k := by
  rw [balsR5 h]; simp [balsK, List.getD, hk]
theorem body (l : List Int) (hl : l.length ≤ 1048576) (hb : bytes l) (L : List TBooking) (hL : ledOk L) (hL8 : L.length ≤ 8) (hday : ∀ i, i < L.length → (L.getD i default).1 ≤ 100) (hd : FnC Try.prog 32 [(false, [.sq dU (l.map eU)])] (.one (.own 37 dBooking (L.map eBooking)))) : FnC Try.prog 9 [(false, [.sq dU (l.map eU)])] (.one (.bool true)) := by
  have b0 := atV_bd hb 0
  have b1 := atV_bd hb 1
  have b2 := atV_bd hb 2
  have e0 : (atV l 0).tmod 5 = atV l 0 % 5 := Int.tmod_eq_emod_of_nonneg b0.1
  have e1 : (atV l 1).tmod 4 = atV l 1 % 4 := Int.tmod_eq_emod_of_nonneg b1.1
  have e2 : (IntKind.i64.wrap (IntKind.i64.wrap (atV l 0 + 1) + (atV l 1).tmod 4)).tmod 5 = (atV l 0 + 1 + atV l 1 % 4) % 5 := by
    rw [e1, wr (x := atV l 0 + 1) ⟨by omega, by omega⟩, wr ⟨by omega, by omega⟩, Int.tmod_eq_emod_of_nonneg (by omega)]
  have e3 : IntKind.i64.wrap (1 + atV l 2) = 1 + atV l 2 := wr ⟨by omega, by omega⟩
  generalize hF : (atV l 0).tmod 5 = F at *
  generalize hT : (IntKind.i64.wrap (IntKind.i64.wrap (atV l 0 + 1) + (atV l 1).tmod 4)).tmod 5 = T at *
  generalize hS : IntKind.i64.wrap (1 + atV l 2) = s at *
  have hF5 : 0 ≤ F ∧ F ≤ 4 := by omega
  have hT5 : 0 ≤ T ∧ T ≤ 4 := by omega
  have hFT : F ≠ T := by omega
  have hs : 1 ≤ s ∧ s ≤ 256 := by omega
  have hm : ledOk (L ++ [(9000, F, T, s)]) := ledOk_app hL (by omega) ⟨by simp only []; omega, hF5, hT5, hFT, by simp only []; omega⟩ (fun i hi => by have := hday i hi; simp only []; omega)
  have ht : ledOk ((L ++ [(9000, F, T, s)]) ++ [(9001, T, F, s)]) := by
    refine ledOk_app hm (by simp; omega) ⟨by simp only []; omega, hT5, hF5, (Ne.symm hFT), by simp only []; omega⟩ (fun i hi => ?_)
    by_cases h1 : i < L.length
    · rw [getD_app_lt h1]; have := hday i h1; simp only []; omega
    · rw [show i = L.length by simp at hi; omega, getD_app_eq]; simp
  have cB : FnC Try.prog 21 [(false, [.sq dBooking (L.map eBooking)]), (true, [.int .i64 9000, .int .i64 F, .int .i64 T, .int .i64 s])] (.tup [(false, [.own 37 dBooking ((L ++ [(9000, F, T, s)]).map eBooking)]), (false, [.bool true])]) := by
    have := implBookSum L (by omega) 9000 F T s
    rwa [bookR, if_pos ⟨hL, hm⟩] at this
  have cT : FnC Try.prog 25 [(false, [.sq dBooking ((L ++ [(9000, F, T, s)]).map eBooking)]), (false, [.int .i64 (L.map eBooking).length]), (false, [.int .i64 9001])] (.tup [(false, [.own 37 dBooking (((L ++ [(9000, F, T, s)]) ++ [(9001, T, F, s)]).map eBooking)]), (false, [.bool true])]) := by
    have := implTurnBack (L ++ [(9000, F, T, s)]) (by simp; omega) (L.map eBooking).length 9001
    rw [turnR, if_pos (by simp; omega)] at this
    rw [show (((L.map eBooking).length : Nat) : Int).toNat = L.length by simp, getD_app_eq] at this
    rwa [bookR, if_pos ⟨hm, ht⟩] at this
  have hbals : balsR ((L ++ [(9000, F, T, s)]) ++ [(9001, T, F, s)]) = balsR L := by
    rw [balsR5 ht, balsR5 hL]
    unfold balsK
    refine List.map_congr_left fun a _ => ?_
    rw [balR_app hm ht, balR_app hL hm]
    simp only [bal1]; omega
  have hbR : balR (L ++ [(9000, F, T, s)]) T = balR L T + s := by
    rw [balR_app hL hm]; simp only [bal1]; rw [if_neg hFT]; simp
  have hmR : movR (L ++ [(9000, F, T, s)]) F T = movR L F T + s := by
    rw [movR_app hL hm]; simp [mov1]
  have hb5 := balsR5 hL
  have hl5 : (balsR L).length = 5 := by rw [hb5, balsK_len]
  have hTb := balR_bd hL T
  have hmb := movK_bd (f := F) (t := T) hL L.length (Nat.le_refl _)
  have hmb2 : 0 ≤ movR L F T ∧ movR L F T ≤ 800000 := by rw [movR, if_pos hL]; omega
  have hmlen : (L ++ [(9000, F, T, s)]).length ≤ 20 := by simp; omega
  have htlen : ((L ++ [(9000, F, T, s)]) ++ [(9001, T, F, s)]).length ≤ 20 := by simp; omega
  have hle : ∀ l, (balsR l).length ≤ 2097152 := fun l => by have := balsR_len l; omega
  subst hS
  subst hT
  subst hF
  refine fn_z (ty := ty) (ts := [.tmp 2]) [0, 2, 3, 4, 5, 6, 7, 8, 9, 10, 11, 12, 14, 22, 38, 45] mixed ty_ok Try.func9 (by kernel_rfl) rfl (by kernel_rfl) (by kernel_rfl) rfl (.inl rfl) (Nat.le_of_ble_eq_true rfl) (by simp only [entry, entryV, C.toS, Nat.zero_add, Nat.reduceAdd, List.map_cons, List.map_nil]; exact rfl) ?_
  repeat' (first
    | ((with_reducible refine z_run ?_); (conv => whnf))
    | (with_reducible apply z_t)
    | (with_reducible apply z_f)
    | ((with_reducible apply z_b); ((intro h); (try simp only [beq_self_eq_true, eq_self, not_true_eq_false, not_false_eq_true, decide_true, cond_true, cond_false, Bool.not_true, Bool.not_false, Bool.not_eq_true', Bool.not_eq_false', Bool.and_eq_true, Bool.and_eq_false_imp, Bool.or_eq_true, Bool.or_eq_false_iff, decide_eq_true_eq, decide_eq_false_iff_not, Bool.false_eq_true, reduceCtorEq, Int.not_le, Int.not_lt, Decidable.not_not] at h)); rotate_left; ((intro h); (try simp only [beq_self_eq_true, eq_self, not_true_eq_false, not_false_eq_true, decide_true, cond_true, cond_false, Bool.not_true, Bool.not_false, Bool.not_eq_true', Bool.not_eq_false', Bool.and_eq_true, Bool.and_eq_false_imp, Bool.or_eq_true, Bool.or_eq_false_iff, decide_eq_true_eq, decide_eq_false_iff_not, Bool.false_eq_true, reduceCtorEq, Int.not_le, Int.not_lt, Decidable.not_not] at h)))
    | (with_reducible refine z_r ?_ ?_)
    | (with_reducible refine z_wg ?_ ?_)
    | (with_reducible refine z_w ?_ ?_)
    | ((with_reducible apply sh_nil); (intro _))
    | ((with_reducible apply sh_int); (intro _))
    | ((with_reducible apply sh_bool); (intro _))
    | ((with_reducible apply sh_sl); (intro _))
    | (with_reducible refine z_k (big_fn l hl) ?_)
    | (with_reducible refine z_k hd ?_)
    | (with_reducible refine z_k (implBalancesOf _ (by omega)) ?_)
    | ((with_reducible refine z_o ?zo ?_); (case zo => decide +kernel))
    | fail)
  refine z_li (fun k => k ≤ 5) (0 : Nat) (fun k => 5 - k) (fun k => ⟨[(0, .one (.ro dU (l.map eU))), (3, .one (.root 16)), (4, .one (.root 18)), (5, .one (.int .i64 (sumK L k))), (6, .one (.int .i64 k))], [(16, .row 37 dBooking (L.map eBooking)), (18, .row 3 dI ((balsR L).map eI))]⟩) (by omega) ?_ ?_
  · simp only [List.length_map, fillTo_zero, Int.toNat_natCast, Option.isSome_some, and_self, fixB, Nat.reduceLeDiff, false_implies, true_implies, forall_const, St.le, slsLe, obsLe, vLe, scLe, scsLe, obLe, Vq.look, Nat.reduceEqDiff, if_true, if_false, reduceCtorEq, ↓reduceIte, true_and, and_true, sumK]; and_intros <;> first | rfl | omega
  · intro k hk
    have hsb := sumK_bd hL k
    have hbb := balR_bd hL k
    have hget := fun h => balsR_get hL (k := k) h
    repeat' (first
    | ((with_reducible refine z_run ?_); (conv => whnf))
    | (with_reducible apply z_t)
    | (with_reducible apply z_f)
    | ((with_reducible apply z_b); ((intro h); (try simp only [beq_self_eq_true, eq_self, not_true_eq_false, not_false_eq_true, decide_true, cond_true, cond_false, Bool.not_true, Bool.not_false, Bool.not_eq_true', Bool.not_eq_false', Bool.and_eq_true, Bool.and_eq_false_imp, Bool.or_eq_true, Bool.or_eq_false_iff, decide_eq_true_eq, decide_eq_false_iff_not, Bool.false_eq_true, reduceCtorEq, Int.not_le, Int.not_lt, Decidable.not_not] at h)); rotate_left; ((intro h); (try simp only [beq_self_eq_true, eq_self, not_true_eq_false, not_false_eq_true, decide_true, cond_true, cond_false, Bool.not_true, Bool.not_false, Bool.not_eq_true', Bool.not_eq_false', Bool.and_eq_true, Bool.and_eq_false_imp, Bool.or_eq_true, Bool.or_eq_false_iff, decide_eq_true_eq, decide_eq_false_iff_not, Bool.false_eq_true, reduceCtorEq, Int.not_le, Int.not_lt, Decidable.not_not] at h)))
    | (with_reducible refine z_r ?_ ?_)
    | (with_reducible refine z_wg ?_ ?_)
    | (with_reducible refine z_w ?_ ?_)
    | ((with_reducible apply sh_nil); (intro _))
    | ((with_reducible apply sh_int); (intro _))
    | ((with_reducible apply sh_bool); (intro _))
    | ((with_reducible apply sh_sl); (intro _))
    | (with_reducible refine z_k (implBalanceOf _ (by omega) _) ?_)
    | (with_reducible refine z_k (at_fn l hl hb _ (by omega)) ?_)
    | (with_reducible refine z_k cB ?_)
    | (with_reducible refine z_k cT ?_)
    | (with_reducible refine z_k (implBalancesOf _ (by omega)) ?_)
    | (with_reducible refine z_k (implMovedBetween _ (by omega) _ _) ?_)
    | (with_reducible refine z_k (lSameInts_fn _ _ (hle _)) ?_)
    | (with_reducible refine z_k (implLedgerOk _ (by omega)) ?_)
    | ((with_reducible refine z_o ?zo ?_); (case zo => decide +kernel))
    | fail)
    all_goals ((try simp only [Int.toNat_natCast, tn1, tp1, List.length_map, eq_self, true_and, and_true] at *); (try simp (disch := omega) only [wr, Int.toNat_natCast, tn1, tp1, List.length_map, eq_self, true_and, and_true] at *))
    all_goals (first
      | omega
      | (exfalso; have hk5 : k = 5 := by omega
         subst hk5; have := sumK5 hL; omega)
      | (exact absurd hbals (by assumption))
      | (exact absurd ht (by assumption))
      | (refine z_e rfl ?_; simp only [fin, finP, finM, ids, nodupB, tupP, tupM, memN, List.length_cons, List.length_nil, List.nil_append, List.append_nil, List.cons_append, Nat.zero_add, Nat.reduceAdd, ne_eq, not_false_eq_true, eq_self, ev, Vq.look, List.map_cons, List.map_nil, and_true, true_and, Nat.reduceEqDiff, if_true, if_false, reduceCtorEq, ↓reduceIte]; simp only [List.length_append, List.length_cons, List.length_nil, List.length_map, cond_true, decide_eq_true_eq, eq_comm (a := true)]; first | rfl | (rw [wr ⟨by omega, by omega⟩]; omega) | omega)
      | (have hz := hget (by omega)
         refine z_n (k + 1) ⟨by omega, by omega⟩ ?_
         simp only [List.length_map, fillTo_zero, Int.toNat_natCast, Option.isSome_some, and_self, fixB, Nat.reduceLeDiff, false_implies, true_implies, forall_const, St.le, slsLe, obsLe, vLe, scLe, scsLe, obLe, Vq.look, Nat.reduceEqDiff, if_true, if_false, reduceCtorEq, ↓reduceIte, true_and, and_true, sumK, hz]; and_intros <;> first | rfl | (rw [wr ⟨by omega, by omega⟩]) | omega)
      | (exfalso; rw [hbR, wr ⟨by omega, by omega⟩] at h; exact h rfl)
      | (exfalso; rw [hmR, wr ⟨by omega, by omega⟩] at h; omega))
theorem law : LawFn Try.prog 9 [(false, [.sl dU])] := by
  intro caps hk hok
  obtain ⟨cs0, q0, rfl, e0, hk0⟩ := caps_cons hk
  obtain rfl := caps_nil hk0
  obtain ⟨c0_0, r0_0, rfl, f0_0, g0_0⟩ := kds_cons e0
  obtain rfl := kds_nil g0_0
  have ok0_0 := hok _ (List.getElem_mem (n := 0) (by simp)) _ (List.getElem_mem (n := 0) (by simp))
  simp only [List.getElem_cons_zero, List.getElem_cons_succ] at ok0_0
  obtain ⟨rows0_0, rfl⟩ := kd_sl f0_0
  obtain ⟨l, rfl⟩ := rows_map (e := eU) rowU ok0_0.rows.1
  have wl := ok0_0.len
  rw [List.length_map] at wl
  have hb := bytes_of ok0_0
  by_cases hl : l.length ≤ 1048576
  · have hbv := belV_bd l (curZ l) (n := 9) (by omega)
    have hg := bk_good l (c := curN l (curZ l)) (curN_le (by simp [curZ])) (belV l (curZ l) 9).toNat (by omega)
    obtain ⟨h1, h2, h3, _⟩ := hg
    exact body l hl hb (drawBk l (curZ l)) ⟨by unfold drawBk; omega, fun i hi => (h3 i (by unfold drawBk at hi; omega)).1⟩ (by unfold drawBk; omega) (fun i hi => by have := (h3 i (by unfold drawBk at hi; omega)).2; unfold drawBk; omega) (draw_fn l hl)
  · refine fn_z (ty := ty) (ts := [.tmp 2]) [0, 2, 3, 4, 5, 6, 7, 8, 9, 10, 11, 12, 14, 22, 38, 45] mixed ty_ok Try.func9 (by kernel_rfl) rfl (by kernel_rfl) (by kernel_rfl) rfl (.inl rfl) (Nat.le_of_ble_eq_true rfl) (by simp only [entry, entryV, C.toS, Nat.zero_add, Nat.reduceAdd, List.map_cons, List.map_nil]; exact rfl) ?_
    repeat' (first
    | ((with_reducible refine z_run ?_); (conv => whnf))
    | (with_reducible apply z_t)
    | (with_reducible apply z_f)
    | ((with_reducible apply z_b); ((intro h); (try simp only [beq_self_eq_true, eq_self, not_true_eq_false, not_false_eq_true, decide_true, cond_true, cond_false, Bool.not_true, Bool.not_false, Bool.not_eq_true', Bool.not_eq_false', Bool.and_eq_true, Bool.and_eq_false_imp, Bool.or_eq_true, Bool.or_eq_false_iff, decide_eq_true_eq, decide_eq_false_iff_not, Bool.false_eq_true, reduceCtorEq, Int.not_le, Int.not_lt, Decidable.not_not] at h)); rotate_left; ((intro h); (try simp only [beq_self_eq_true, eq_self, not_true_eq_false, not_false_eq_true, decide_true, cond_true, cond_false, Bool.not_true, Bool.not_false, Bool.not_eq_true', Bool.not_eq_false', Bool.and_eq_true, Bool.and_eq_false_imp, Bool.or_eq_true, Bool.or_eq_false_iff, decide_eq_true_eq, decide_eq_false_iff_not, Bool.false_eq_true, reduceCtorEq, Int.not_le, Int.not_lt, Decidable.not_not] at h)))
    | (with_reducible refine z_r ?_ ?_)
    | (with_reducible refine z_wg ?_ ?_)
    | (with_reducible refine z_w ?_ ?_)
    | ((with_reducible apply sh_nil); (intro _))
    | ((with_reducible apply sh_int); (intro _))
    | ((with_reducible apply sh_bool); (intro _))
    | ((with_reducible apply sh_sl); (intro _))
    | (with_reducible refine z_k (big_no l hl) ?_)
    | ((with_reducible refine z_o ?zo ?_); (case zo => decide +kernel))
    | fail)
    all_goals (first | omega | refine z_e rfl ?_; simp only [fin, finP, finM, ids, nodupB, tupP, tupM, memN, List.length_cons, List.length_nil, List.nil_append, List.append_nil, List.cons_append, Nat.zero_add, Nat.reduceAdd, ne_eq, not_false_eq_true, eq_self, ev, Vq.look, List.map_cons, List.map_nil, and_true, true_and, Nat.reduceEqDiff, if_true, if_false, reduceCtorEq, ↓reduceIte])
set_option maxRecDepth 100000 in
theorem lifted (os : Os) (started : os.Started) (H : Type) (enc : TypeId × Value → H) :
    ReturnsInHanded {} Try.checked os 9 .any (Rows.fnLedgersSpec.pre6 enc Try.prog Try.f9 Rows.fnLedgersRow.domain false) (Rows.fnLedgersSpec.post enc Try.prog Try.f9 false true false false) :=
  law_lift 9 [(false, [.sl [.int .u8]])] (by kernel_rfl) started (by kernel_rfl) Try.func9
    (ChangeSpec.witness6 (enc := enc) (C := Try.checked) false ⟨#[], #[.slice none 0 0], []⟩ 8 (by kernel_rfl) (by kernel_rfl) (by kernel_rfl) (by kernel_rfl))
    rfl (by kernel_rfl) (show Try.checked.prog.underlying 4 = some .bool by kernel_rfl) (by intro ds h; obtain ⟨d0, rfl⟩ := len1 (h.trans (show Try.f9.params.size = 1 by kernel_rfl)); rfl) (by kernel_rfl) (by kernel_rfl) (by kernel_rfl) (by kernel_rfl) (by kernel_rfl) law
theorem over : Rows.fnLedgersRow.holds Try.pinned (OpenSpec.ofChange Rows.fnLedgersSpec) :=
  OpenClaim.holds_of_wide 9 Try.f9 rfl rfl rfl rfl rfl rfl rfl ⟨rfl, rfl, rfl, rfl, rfl⟩ rfl rfl rfl rfl rfl (by kernel_rfl) Try.func9 (by kernel_rfl)
    (of_decide_eq_true (by kernel_rfl)) (by unfold Func.isWrapper; first | (rw [if_pos (by decide +kernel)]; kernel_rfl) | (rw [if_neg (by decide +kernel)]; exact ⟨rfl, rfl⟩))
    (fun os started H enc _ => lifted os started H enc)
/-- THE STATEMENT -/
theorem proved : Rows.FnLedgersSaid := over
#print axioms proved
end Go.Proofs.Ytodjdpdnamfkjaa.fnLedgers
