/- The statement Rows.FnStocksSaid: for every text of bytes, the law FnStocks returns true and leaves its argument as it was. No conditions. -/
import Derived.Test.YtloeibdplgcgbaaStockP
namespace Go.Proofs.Ytloeibdplgcgbaa.fnStocks
open Go.Vq
set_option linter.unusedSimpArgs false
set_option maxHeartbeats 1000000
/-- whole numbers of one kind, six of them -/
def six (s : List Int) (t : Int) : Prop := s.length = 6 ∧ ∀ k, 0 ≤ s.getD k default ∧ s.getD k default < t
theorem six_good {s : List Int} {t : Int} (h : six s t) (ht : t ≤ 1000) : stockGood s :=
  ⟨h.1, all_getD.2 fun i _ => by have := h.2 i; omega⟩
theorem six_of {s : List Int} {t : Int} (ht : 1 ≤ t) (h6 : s.length = 6) (h : ∀ x ∈ s, 0 ≤ x ∧ x < t) : six s t := by
  refine ⟨h6, fun k => ?_⟩
  by_cases hk : k < s.length
  · rw [List.getD, List.getElem?_eq_getElem hk]; exact h _ (List.getElem_mem hk)
  · rw [List.getD, List.getElem?_eq_none (by omega)]; simp; omega
theorem set_same {α : Type} [Inhabited α] {l : List α} {k : Nat} (h : k < l.length) : l.set k (l.getD k default) = l := by
  have e : l.getD k default = l[k] := by rw [List.getD, List.getElem?_eq_getElem h]; rfl
  rw [e]; exact List.set_getElem_self h
/-- the stock with what lacks -/
def fullK (s n : List Int) (k : Nat) : List Int := (List.range k).map (fun i => s.getD i default + lackV s n i) ++ s.drop k
def sumK (s n : List Int) : Nat → Int
  | 0 => 0
  | k + 1 => sumK s n k + lackV s n k
theorem fullK_len (s n : List Int) {k : Nat} (h : k ≤ s.length) : (fullK s n k).length = s.length := by simp [fullK]; omega
theorem fullK_set (s n : List Int) {k : Nat} (h : k < s.length) : (fullK s n k).set k (s.getD k default + lackV s n k) = fullK s n (k + 1) := by
  unfold fullK
  rw [List.set_append, if_neg (by simp)]
  simp only [List.length_map, List.length_range, Nat.sub_self]
  rw [List.drop_eq_getElem_cons h, List.set_cons_zero, List.range_succ, List.map_append]
  simp
theorem lackL_get (s n : List Int) {k : Nat} (h : k < 6) : (lackL s n 6).getD k default = lackV s n k := by
  simp [lackL, List.getD, h]
theorem sumK_bd {s n : List Int} (h : ∀ k, k < 6 → 0 ≤ lackV s n k ∧ lackV s n k ≤ 79) : ∀ k, k ≤ 6 → 0 ≤ sumK s n k ∧ sumK s n k ≤ 79 * k
  | 0, _ => by simp [sumK]
  | k + 1, hk => by have := sumK_bd h k (by omega); have := h k (by omega); simp only [sumK]; omega
def moreL (n : List Int) (m : Int) (k : Nat) : List Int := (List.range k).map fun i => if n.getD i default * (m + 1) < 1000000 then n.getD i default * (m + 1) else 1000000
theorem moreL_len (n : List Int) (m : Int) (k : Nat) : (moreL n m k).length = k := by simp [moreL]
def lessL (n : List Int) (m : Int) (k : Nat) : List Int := (List.range k).map fun i => n.getD i default * m
theorem lessL_len (n : List Int) (m : Int) (k : Nat) : (lessL n m k).length = k := by simp [lessL]
theorem moreL_succ (n : List Int) (m : Int) (k : Nat) : moreL n m (k + 1) = moreL n m k ++ [if n.getD k default * (m + 1) < 1000000 then n.getD k default * (m + 1) else 1000000] := by simp [moreL, List.range_succ]
theorem lessL_succ (n : List Int) (m : Int) (k : Nat) : lessL n m (k + 1) = lessL n m k ++ [n.getD k default * m] := by simp [lessL, List.range_succ]
theorem full_enough {s n : List Int} (hs : six s 200) (hn : six n 80) : enough (fullK s n 6) n := by
  have hg : ∀ k, k < 6 → (fullK s n 6).getD k default = s.getD k default + lackV s n k := fun k hk => by
    have h6 := hs.1
    simp [fullK, List.getD, List.getElem?_append, hk]
  have h6 := hs.1
  refine ⟨⟨by rw [fullK_len s n (by omega)]; exact h6, all_getD.2 fun i hi => ?_⟩, six_good hn (by omega), fun k hk => ?_⟩
  · rw [fullK_len s n (by omega)] at hi
    rw [hg i (by omega)]
    have := hs.2 i; have := hn.2 i
    unfold lackV; split <;> omega
  · rw [hg k hk]
    unfold lackV; split <;> omega
theorem sum_zero {s n : List Int} (hle6 : ∀ k, k < 6 → 0 ≤ lackV s n k ∧ lackV s n k ≤ 79) : ∀ K, K ≤ 6 → (sumK s n K = 0 ↔ ∀ k, k < K → lackV s n k = 0)
  | 0, _ => by simp [sumK]
  | K + 1, hK => by
    have ih := sum_zero hle6 K (by omega)
    have h1 := sumK_bd hle6 K (by omega)
    have h2 := hle6 K (by omega)
    simp only [sumK]
    constructor
    · intro h k hk
      by_cases hk2 : k < K
      · exact (ih.1 (by omega)) k hk2
      · rw [show k = K by omega]; omega
    · intro h
      have := ih.2 (fun k hk => h k (by omega))
      have := h K (by omega)
      omega
theorem lack_bd {s n : List Int} (hs : six s 200) (hn : six n 80) (k : Nat) : 0 ≤ lackV s n k ∧ lackV s n k ≤ 79 := by
  have := hs.2 k; have := hn.2 k; unfold lackV; split <;> omega
theorem lackV0 {s n : List Int} {k : Nat} : lackV s n k = 0 ↔ n.getD k default ≤ s.getD k default := by unfold lackV; split <;> omega
theorem enough_sum {s n : List Int} (hs : six s 200) (hn : six n 80) : enough s n ↔ sumK s n 6 = 0 := by
  rw [sum_zero (fun k _ => lack_bd hs hn k) 6 (by omega)]
  exact ⟨fun h k hk => lackV0.2 (h.2.2 k hk), fun h => ⟨six_good hs (by omega), six_good hn (by omega), fun k hk => lackV0.1 (h k hk)⟩⟩
theorem less_enough {s n : List Int} {m t : Int} (hs : six s 200) (hn : six n 80) (h0 : 0 ≤ m) (h1 : m ≤ 1000) (h2 : m ≤ t) (ht : ∀ k, k < 6 → 0 < n.getD k default → n.getD k default * t ≤ s.getD k default) : enough s (lessL n m 6) := by
  have hg : ∀ k, k < 6 → (lessL n m 6).getD k default = n.getD k default * m := fun k hk => by
    simp [lessL, List.getD, hk]
  have hb : ∀ k, k < 6 → 0 ≤ n.getD k default * m ∧ n.getD k default * m ≤ s.getD k default := fun k hk => by
    have h3 := hn.2 k
    have h4 := hs.2 k
    by_cases hz : 0 < n.getD k default
    · exact ⟨Int.mul_nonneg h3.1 h0, Int.le_trans (Int.mul_le_mul_of_nonneg_left h2 h3.1) (ht k hk hz)⟩
    · rw [show n.getD k default = 0 by omega]; omega
  refine ⟨six_good hs (by omega), ⟨lessL_len n m 6, all_getD.2 fun i hi => ?_⟩, fun k hk => ?_⟩
  · rw [lessL_len] at hi
    rw [hg i hi]; have := hb i hi; have := hs.2 i; omega
  · rw [hg k hk]; exact (hb k hk).2
theorem more_not {s n : List Int} {t : Int} (hn : six n 80) (h : t < 1000) (ht : t = 1000000 ∨ ∃ k, k < 6 ∧ 0 < n.getD k default ∧ s.getD k default < n.getD k default * (t + 1)) (h0 : 0 ≤ t) : ¬ enough s (moreL n t 6) := by
  rcases ht with ht | ⟨k, hk, hz, hlt⟩
  · omega
  · intro he
    have := he.2.2 k hk
    have hb := hn.2 k
    have hm := (mul_bd (A := 79) (B := 1000) (x := n.getD k default) (y := t + 1) (by omega) (by omega)).2
    rw [show (moreL n t 6).getD k default = n.getD k default * (t + 1) by
      have e : (if n.getD k default * (t + 1) < 1000000 then n.getD k default * (t + 1) else 1000000) = n.getD k default * (t + 1) := if_pos (by omega)
      rw [← e]; simp only [moreL, List.getD]; simp [hk]; rfl] at this
    omega
theorem times_one {s n : List Int} {t : Int} (hs : six s 200) (hn : six n 80) (h3 : ∀ k, k < 6 → 0 < n.getD k default → n.getD k default * t ≤ s.getD k default) (h4 : t = 1000000 ∨ ∃ k, k < 6 ∧ 0 < n.getD k default ∧ s.getD k default < n.getD k default * (t + 1)) (h0 : 0 ≤ t) : 1 ≤ t ↔ sumK s n 6 = 0 := by
  rw [sum_zero (fun k _ => lack_bd hs hn k) 6 (by omega)]
  constructor
  · intro h k hk
    have h5 := hn.2 k
    have h6 := hs.2 k
    by_cases hz : 0 < n.getD k default
    · have h7 := h3 k hk hz
      have h8 : n.getD k default * 1 ≤ n.getD k default * t := Int.mul_le_mul_of_nonneg_left h h5.1
      exact lackV0.2 (by omega)
    · exact lackV0.2 (by omega)
  · intro h
    rcases h4 with h4 | ⟨k, hk, hz, hlt⟩
    · omega
    · have h5 := lackV0.1 (h k hk)
      by_cases ht : t = 0
      · subst ht; omega
      · omega
theorem body (l : List Int) (hl : l.length ≤ 1048576) (hb : bytes l) (s n : List Int) (hs : six s 200) (hn : six n 80) (hd : FnC Try.prog 31 [(false, [.sq dU (l.map eU)])] (.tup [(false, [.own 3 dI (s.map eI)]), (false, [.own 3 dI (n.map eI)])])) : FnC Try.prog 8 [(false, [.sq dU (l.map eU)])] (.one (.bool true)) := by
  have b0 := atV_bd hb 0
  have b1 := atV_bd hb 1
  have e0 : (atV l 0).tmod 6 = atV l 0 % 6 := Int.tmod_eq_emod_of_nonneg b0.1
  generalize hA : (atV l 0).tmod 6 = a at *
  have ha : 0 ≤ a ∧ a ≤ 5 := by omega
  generalize hX : atV l 1 = x at *
  have hsg := six_good hs (by omega)
  have hng := six_good hn (by omega)
  have h6 := hs.1
  have h7 := hn.1
  have hlR : lackR s n = lackL s n 6 := by rw [lackR, if_pos ⟨hsg, hng⟩]
  have hsa := hs.2 a.toNat
  have hk0 := lackL_len s n 6
  have hT : ∃ (T : List Int) (bT : Bool), FnC Try.prog 29 [(false, [.sq dI (s.map eI)]), (false, [.int .i64 a]), (false, [.int .i64 x])] (.tup [(false, [.own 3 dI (T.map eI)]), (false, [.bool bT])]) ∧ T.length = 6 ∧ (bT = true ↔ x ≤ s.getD a.toNat default)
      ∧ (bT = true → FnC Try.prog 24 [(false, [.sq dI (T.map eI)]), (false, [.int .i64 a]), (false, [.int .i64 x])] (.tup [(false, [.own 3 dI (s.map eI)]), (false, [.bool true])]) ∧ T.getD a.toNat default = s.getD a.toNat default - x) := by
    have c1 := implTakeCloth s (by omega) a x
    by_cases hx : x ≤ s.getD a.toNat default
    · rw [takeR, if_pos ⟨hsg, ha, by omega, hx⟩] at c1
      have hg : (s.set a.toNat (s.getD a.toNat default - x)).getD a.toNat default = s.getD a.toNat default - x := by
        simp [List.getD, show a.toNat < s.length by omega]
      refine ⟨_, true, c1, by simp [h6], ⟨fun _ => hx, fun _ => rfl⟩, fun _ => ⟨?_, hg⟩⟩
      have c2 := implAddCloth (s.set a.toNat (s.getD a.toNat default - x)) (by simp; omega) a x
      have hsg2 : stockGood (s.set a.toNat (s.getD a.toNat default - x)) := ⟨by simp [h6], all_getD.2 fun i hi => by
        by_cases hi2 : i = a.toNat
        · rw [hi2, hg]; omega
        · have := hs.2 i
          rw [show (s.set a.toNat (s.getD a.toNat default - x)).getD i default = s.getD i default by simp [List.getD, List.getElem?_set, Ne.symm hi2]]; omega⟩
      rw [addR, if_pos ⟨hsg2, ha, by omega, by omega⟩, hg, List.set_set, show s.getD a.toNat default - x + x = s.getD a.toNat default by omega, set_same (by omega)] at c2
      exact c2
    · rw [takeR, if_neg (fun h => hx h.2.2.2)] at c1
      exact ⟨s, false, c1, h6, ⟨fun h => by simp at h, fun h => absurd h hx⟩, fun h => by simp at h⟩
  obtain ⟨T, bT, cT, hTl, hbT, hTA⟩ := hT
  have cL := implLackOf s n (by omega) (by omega)
  rw [hlR] at cL
  have hfl := fun {k : Nat} (hk : k ≤ 6) => fullK_len s n (k := k) (by omega)
  have cM := implTimesEnough s n (by omega) (by omega)
  rw [show timesR s n = timesK s n 6 by rw [timesR, if_pos ⟨hsg, hng⟩]] at cM
  have htm := timesK_facts (n := n) (fun k => (hs.2 k).1) 6
  generalize hM : (if 1000 < timesK s n 6 then 1000 else timesK s n 6) = m at *
  have hm : 0 ≤ m ∧ m ≤ 1000 ∧ m ≤ timesK s n 6 ∧ (timesK s n 6 < 1000 → m = timesK s n 6) := by subst hM; split <;> omega
  have cF : FnC Try.prog 36 [(false, [.sq dI ((fullK s n 6).map eI)]), (false, [.sq dI (n.map eI)])] (.one (.bool true)) := enough_t (by rw [hfl (by omega)]; omega) (by omega) (full_enough hs hn)
  have cE := implEnoughFor s n (by omega) (by omega)
  rw [show decide (enough s n) = decide (sumK s n 6 = 0) from decide_eq_decide.2 (enough_sum hs hn)] at cE
  have cS := enough_t (by omega) (by rw [lessL_len]; omega) (less_enough hs hn hm.1 hm.2.1 hm.2.2.1 htm.2.2.1)
  have cR : timesK s n 6 < 1000 → FnC Try.prog 36 [(false, [.sq dI (s.map eI)]), (false, [.sq dI ((moreL n m 6).map eI)])] (.one (.bool false)) := fun h => enough_f (by omega) (by rw [moreL_len]; omega) (by
    rw [hm.2.2.2 h]; exact more_not hn h htm.2.2.2 htm.1)
  have cO := implStockOk s (by omega)
  rw [decide_eq_true hsg] at cO
  have ht1 := times_one hs hn htm.2.2.1 htm.2.2.2 htm.1
  subst hX
  subst hA
  have hle6 : ∀ k, k < 6 → 0 ≤ lackV s n k ∧ lackV s n k ≤ 79 := fun k _ => by
    have := hs.2 k; have := hn.2 k; unfold lackV; split <;> omega
  refine fn_z (ty := ty) (ts := [.tmp 2]) [0, 2, 3, 4, 5, 6, 7, 8, 9, 10, 11, 12, 13, 14, 15, 16, 17, 18, 20, 52, 53, 81, 89, 96, 125] mixed ty_ok Try.func8 (by kernel_rfl) rfl (by kernel_rfl) (by kernel_rfl) rfl (.inl rfl) (Nat.le_of_ble_eq_true rfl) (by simp only [entry, entryV, C.toS, Nat.zero_add, Nat.reduceAdd, List.map_cons, List.map_nil]; exact rfl) ?_
  repeat' (first
    | ((with_reducible refine z_run ?_); (conv => whnf))
    | (with_reducible apply z_t)
    | (with_reducible apply z_f)
    | ((with_reducible apply z_b); ((intro h); (try simp only [beq_self_eq_true, eq_self, not_true_eq_false, not_false_eq_true, decide_true, cond_true, cond_false, Bool.not_true, Bool.not_false, Bool.not_eq_true', Bool.not_eq_false', Bool.and_eq_true, Bool.and_eq_false_imp, Bool.or_eq_true, Bool.or_eq_false_iff, decide_eq_true_eq, decide_eq_false_iff_not, Bool.false_eq_true, reduceCtorEq, Int.not_le, Int.not_lt, Decidable.not_not] at h)); rotate_left; ((intro h); (try simp only [beq_self_eq_true, eq_self, not_true_eq_false, not_false_eq_true, decide_true, cond_true, cond_false, Bool.not_true, Bool.not_false, Bool.not_eq_true', Bool.not_eq_false', Bool.and_eq_true, Bool.and_eq_false_imp, Bool.or_eq_true, Bool.or_eq_false_iff, decide_eq_true_eq, decide_eq_false_iff_not, Bool.false_eq_true, reduceCtorEq, Int.not_le, Int.not_lt, Decidable.not_not] at h)))
    | (with_reducible refine z_r ?_ ?_)
    | (with_reducible refine z_wg ?_ ?_)
    | (with_reducible refine z_w ?_ ?_)
    | ((with_reducible apply sh_nil); (intro _))
    | ((with_reducible apply sh_int); (intro _))
    | ((with_reducible apply sh_bool); (intro _))
    | ((with_reducible apply sh_sl); (intro _))
    | (with_reducible refine z_k (big_fn l hl) ?_)
    | (with_reducible refine z_k hd ?_)
    | (with_reducible refine z_k (at_fn l hl hb _ (by omega)) ?_)
    | (with_reducible refine z_k cT ?_)
    | (with_reducible refine z_k ((hTA (by assumption)).1) ?_)
    | (with_reducible refine z_k cL ?_)
    | (with_reducible refine z_k (lSameInts_fn _ _ (by omega)) ?_)
    | ((with_reducible refine z_o ?zo ?_); (case zo => decide +kernel))
    | fail)
  all_goals ((try simp only [Int.toNat_natCast, tn1, tp1, List.length_map, eq_self, true_and, and_true] at *); (try simp (disch := omega) only [wr, Int.toNat_natCast, tn1, tp1, List.length_map, eq_self, true_and, and_true] at *))
  all_goals (first
    | omega
    | (simp only [List.length_nil]; omega)
    | (exfalso; have h1 := hTA (by assumption); exact absurd h1.2 (by assumption))
    | (exfalso; revert h; cases bT <;> simp <;> simp at hbT <;> omega)
    | (refine z_li (fun k => k ≤ 6) (0 : Nat) (fun k => 6 - k) (fun k => ⟨[(0, .one (.ro dU (l.map eU))), (3, .one (.root 23)), (4, .one (.root 1023)), (11, .one (.root 84)), (12, .one (.root 90)), (13, .one (.int .i64 (sumK s n k))), (14, .one (.int .i64 k))], [(90, .row 3 dI ((fullK s n k).map eI)), (84, .row 3 dI ((lackL s n 6).map eI)), (23, .row 3 dI (s.map eI)), (1023, .row 3 dI (n.map eI))]⟩) (by omega) ?_ ?_
       · simp only [List.length_map, fillTo_zero, Int.toNat_natCast, Option.isSome_some, and_self, fixB, Nat.reduceLeDiff, false_implies, true_implies, forall_const, St.le0, St.swaps, St.ren, mapV, renO, V.ren, Sc.ren, Ob.ren, swp, slsLe, obsLe, vLe, scLe, scsLe, obLe, Vq.look, Nat.reduceEqDiff, if_true, if_false, reduceCtorEq, ↓reduceIte, true_and, and_true, nxt, Nat.reduceAdd, sumK, fullK]; and_intros <;> first | rfl | omega
       · intro k hk
         have hflk := hfl hk
         have hlv := hle6 k
         have hsk := hs.2 k
         have hsb := sumK_bd hle6 k hk
         have hset := fullK_set s n (k := k)
         have hget := lackL_get s n (k := k)
         repeat' (first
    | ((with_reducible refine z_run ?_); (conv => whnf))
    | (with_reducible apply z_t)
    | (with_reducible apply z_f)
    | ((with_reducible apply z_b); ((intro h); (try simp only [beq_self_eq_true, eq_self, not_true_eq_false, not_false_eq_true, decide_true, cond_true, cond_false, Bool.not_true, Bool.not_false, Bool.not_eq_true', Bool.not_eq_false', Bool.and_eq_true, Bool.and_eq_false_imp, Bool.or_eq_true, Bool.or_eq_false_iff, decide_eq_true_eq, decide_eq_false_iff_not, Bool.false_eq_true, reduceCtorEq, Int.not_le, Int.not_lt, Decidable.not_not] at h)); rotate_left; ((intro h); (try simp only [beq_self_eq_true, eq_self, not_true_eq_false, not_false_eq_true, decide_true, cond_true, cond_false, Bool.not_true, Bool.not_false, Bool.not_eq_true', Bool.not_eq_false', Bool.and_eq_true, Bool.and_eq_false_imp, Bool.or_eq_true, Bool.or_eq_false_iff, decide_eq_true_eq, decide_eq_false_iff_not, Bool.false_eq_true, reduceCtorEq, Int.not_le, Int.not_lt, Decidable.not_not] at h)))
    | (with_reducible refine z_r ?_ ?_)
    | (with_reducible refine z_wg ?_ ?_)
    | (with_reducible refine z_w ?_ ?_)
    | ((with_reducible apply sh_nil); (intro _))
    | ((with_reducible apply sh_int); (intro _))
    | ((with_reducible apply sh_bool); (intro _))
    | ((with_reducible apply sh_sl); (intro _))
    | (with_reducible refine z_k cM ?_)
    | (refine z_dp [[0, 1, 2, 3, 4, 6, 7, 8, 5, 9, 10, 11, 12], [0, 1, 2, 3, 4, 6, 7, 8, 9, 5, 10, 11, 12]] (by decide +kernel) ?_ ?_ ?_)
    | exact allP_n
    | (refine allP_c ?_ ?_)
    | ((refine z_sn0 ?_); (simp only [List.length_map, fillTo_zero, Int.toNat_natCast, Option.isSome_some, and_self, fixB, Nat.reduceLeDiff, false_implies, true_implies, forall_const, St.le0, St.swaps, St.ren, mapV, renO, V.ren, Sc.ren, Ob.ren, swp, slsLe, obsLe, vLe, scLe, scsLe, obLe, Vq.look, Nat.reduceEqDiff, if_true, if_false, reduceCtorEq, ↓reduceIte, true_and, and_true] <;> (and_intros <;> first | rfl | omega | assumption); done))
    | ((refine z_sn ?_); (simp only [List.length_map, fillTo_zero, Int.toNat_natCast, Option.isSome_some, and_self, fixB, Nat.reduceLeDiff, false_implies, true_implies, forall_const, St.le0, St.swaps, St.ren, mapV, renO, V.ren, Sc.ren, Ob.ren, swp, slsLe, obsLe, vLe, scLe, scsLe, obLe, Vq.look, Nat.reduceEqDiff, if_true, if_false, reduceCtorEq, ↓reduceIte, true_and, and_true] <;> (and_intros <;> first | rfl | omega | assumption); done))
    | ((with_reducible refine z_o ?zo ?_); (case zo => decide +kernel))
    | fail)
         all_goals ((try simp only [Int.toNat_natCast, tn1, tp1, List.length_map, eq_self, true_and, and_true] at *); (try simp (disch := omega) only [wr, Int.toNat_natCast, tn1, tp1, List.length_map, eq_self, true_and, and_true] at *))
         all_goals (try simp only [hget (show k < 6 by omega)] at *)
         all_goals (first
           | omega
           | (have hlv' := hlv (by omega)
              refine z_n (k + 1) ⟨by omega, by omega⟩ ?_
              simp only [List.length_map, fillTo_zero, Int.toNat_natCast, Option.isSome_some, and_self, fixB, Nat.reduceLeDiff, false_implies, true_implies, forall_const, St.le0, St.swaps, St.ren, mapV, renO, V.ren, Sc.ren, Ob.ren, swp, slsLe, obsLe, vLe, scLe, scsLe, obLe, Vq.look, Nat.reduceEqDiff, if_true, if_false, reduceCtorEq, ↓reduceIte, true_and, and_true, sumK, ← hset (by omega), wr (x := s.getD k default + lackV s n k) ⟨by omega, by omega⟩, wr (x := sumK s n k + lackV s n k) ⟨by omega, by omega⟩]; and_intros <;> first | rfl | exact (set_map ..) | exact (set_map ..).symm | omega)
           | (have hk6 : k = 6 := by omega
              subst hk6
              refine z_li (fun k => k ≤ 6) (0 : Nat) (fun k => 6 - k) (fun k => ⟨[(0, .one (.ro dU (l.map eU))), (3, .one (.root 23)), (4, .one (.root 1023)), (12, .one (.root 90)), (13, .one (.int .i64 (sumK s n 6))), (15, .one (.int .i64 (timesK s n 6))), (16, .one (.root 120)), (17, .one (.root 121)), (18, .one (.int .i64 k))], [(120, .row 3 dI ((moreL n m k).map eI)), (121, .row 3 dI ((lessL n m k).map eI)), (90, .row 3 dI ((fullK s n 6).map eI)), (23, .row 3 dI (s.map eI)), (1023, .row 3 dI (n.map eI))]⟩) (by omega) ?_ ?_
              · simp only [List.length_map, fillTo_zero, Int.toNat_natCast, Option.isSome_some, and_self, fixB, Nat.reduceLeDiff, false_implies, true_implies, forall_const, St.le0, St.swaps, St.ren, mapV, renO, V.ren, Sc.ren, Ob.ren, swp, slsLe, obsLe, vLe, scLe, scsLe, obLe, Vq.look, Nat.reduceEqDiff, if_true, if_false, reduceCtorEq, ↓reduceIte, true_and, and_true] <;> (and_intros <;> first | rfl | omega | assumption)
              · intro k hk
                have hml := moreL_len n m k
                have hll := lessL_len n m k
                have hnk := hn.2 k
                have hmn := mul_bd (A := 79) (B := 1000) (x := n.getD k default) (y := m) (by omega) (by omega)
                have hmn1 : n.getD k default * (m + 1) = n.getD k default * m + n.getD k default := by rw [Int.mul_add]; omega
                repeat' (first
    | ((with_reducible refine z_run ?_); (conv => whnf))
    | (with_reducible apply z_t)
    | (with_reducible apply z_f)
    | ((with_reducible apply z_b); ((intro h); (try simp only [beq_self_eq_true, eq_self, not_true_eq_false, not_false_eq_true, decide_true, cond_true, cond_false, Bool.not_true, Bool.not_false, Bool.not_eq_true', Bool.not_eq_false', Bool.and_eq_true, Bool.and_eq_false_imp, Bool.or_eq_true, Bool.or_eq_false_iff, decide_eq_true_eq, decide_eq_false_iff_not, Bool.false_eq_true, reduceCtorEq, Int.not_le, Int.not_lt, Decidable.not_not] at h)); rotate_left; ((intro h); (try simp only [beq_self_eq_true, eq_self, not_true_eq_false, not_false_eq_true, decide_true, cond_true, cond_false, Bool.not_true, Bool.not_false, Bool.not_eq_true', Bool.not_eq_false', Bool.and_eq_true, Bool.and_eq_false_imp, Bool.or_eq_true, Bool.or_eq_false_iff, decide_eq_true_eq, decide_eq_false_iff_not, Bool.false_eq_true, reduceCtorEq, Int.not_le, Int.not_lt, Decidable.not_not] at h)))
    | (with_reducible refine z_r ?_ ?_)
    | (with_reducible refine z_wg ?_ ?_)
    | (with_reducible refine z_w ?_ ?_)
    | ((with_reducible apply sh_nil); (intro _))
    | ((with_reducible apply sh_int); (intro _))
    | ((with_reducible apply sh_bool); (intro _))
    | ((with_reducible apply sh_sl); (intro _))
    | (with_reducible refine z_k cF ?_)
    | (refine z_dp [[0, 1, 2, 3, 4, 6, 7, 8, 5, 9, 10, 11, 12], [0, 1, 2, 3, 4, 6, 7, 8, 9, 5, 10, 11, 12]] (by decide +kernel) ?_ ?_ ?_)
    | exact allP_n
    | (refine allP_c ?_ ?_)
    | ((refine z_sn0 ?_); (simp only [List.length_map, fillTo_zero, Int.toNat_natCast, Option.isSome_some, and_self, fixB, Nat.reduceLeDiff, false_implies, true_implies, forall_const, St.le0, St.swaps, St.ren, mapV, renO, V.ren, Sc.ren, Ob.ren, swp, slsLe, obsLe, vLe, scLe, scsLe, obLe, Vq.look, Nat.reduceEqDiff, if_true, if_false, reduceCtorEq, ↓reduceIte, true_and, and_true] <;> (and_intros <;> first | rfl | omega | assumption); done))
    | ((refine z_sn ?_); (simp only [List.length_map, fillTo_zero, Int.toNat_natCast, Option.isSome_some, and_self, fixB, Nat.reduceLeDiff, false_implies, true_implies, forall_const, St.le0, St.swaps, St.ren, mapV, renO, V.ren, Sc.ren, Ob.ren, swp, slsLe, obsLe, vLe, scLe, scsLe, obLe, Vq.look, Nat.reduceEqDiff, if_true, if_false, reduceCtorEq, ↓reduceIte, true_and, and_true] <;> (and_intros <;> first | rfl | omega | assumption); done))
    | ((with_reducible refine z_o ?zo ?_); (case zo => decide +kernel))
    | fail)
                all_goals ((try simp only [Int.toNat_natCast, tn1, tp1, List.length_map, eq_self, true_and, and_true] at *); (try simp (disch := omega) only [wr, Int.toNat_natCast, tn1, tp1, List.length_map, eq_self, true_and, and_true] at *))
                all_goals (try simp only [hM] at *)
                all_goals (first
                  | omega
                  | (simp only [List.length_map, List.length_cons, List.length_nil, hml, hll]; omega)
                  | (have hnk' := hnk
                     refine z_n (k + 1) ⟨by omega, by omega⟩ ?_
                     rw [moreL_succ, lessL_succ, List.map_append, List.map_append]
                     simp only [List.length_map, fillTo_zero, Int.toNat_natCast, Option.isSome_some, and_self, fixB, Nat.reduceLeDiff, false_implies, true_implies, forall_const, St.le0, St.swaps, St.ren, mapV, renO, V.ren, Sc.ren, Ob.ren, swp, slsLe, obsLe, vLe, scLe, scsLe, obLe, Vq.look, Nat.reduceEqDiff, if_true, if_false, reduceCtorEq, ↓reduceIte, true_and, and_true, eI, List.map_cons, List.map_nil, wr (x := n.getD k default * m) ⟨by omega, by omega⟩, wr (x := n.getD k default * (m + 1)) ⟨by omega, by omega⟩]; and_intros <;> first | rfl | omega)
                  | (have hk6 : k = 6 := by omega
                     subst hk6
                     repeat' (first
    | ((with_reducible refine z_run ?_); (conv => whnf))
    | (with_reducible apply z_t)
    | (with_reducible apply z_f)
    | ((with_reducible apply z_b); ((intro h); (try simp only [beq_self_eq_true, eq_self, not_true_eq_false, not_false_eq_true, decide_true, cond_true, cond_false, Bool.not_true, Bool.not_false, Bool.not_eq_true', Bool.not_eq_false', Bool.and_eq_true, Bool.and_eq_false_imp, Bool.or_eq_true, Bool.or_eq_false_iff, decide_eq_true_eq, decide_eq_false_iff_not, Bool.false_eq_true, reduceCtorEq, Int.not_le, Int.not_lt, Decidable.not_not] at h)); rotate_left; ((intro h); (try simp only [beq_self_eq_true, eq_self, not_true_eq_false, not_false_eq_true, decide_true, cond_true, cond_false, Bool.not_true, Bool.not_false, Bool.not_eq_true', Bool.not_eq_false', Bool.and_eq_true, Bool.and_eq_false_imp, Bool.or_eq_true, Bool.or_eq_false_iff, decide_eq_true_eq, decide_eq_false_iff_not, Bool.false_eq_true, reduceCtorEq, Int.not_le, Int.not_lt, Decidable.not_not] at h)))
    | (with_reducible refine z_r ?_ ?_)
    | (with_reducible refine z_wg ?_ ?_)
    | (with_reducible refine z_w ?_ ?_)
    | ((with_reducible apply sh_nil); (intro _))
    | ((with_reducible apply sh_int); (intro _))
    | ((with_reducible apply sh_bool); (intro _))
    | ((with_reducible apply sh_sl); (intro _))
    | (with_reducible refine z_k cE ?_)
    | (with_reducible refine z_k cS ?_)
    | (with_reducible refine z_k (cR (by omega)) ?_)
    | (with_reducible refine z_k cO ?_)
    | (refine z_dp [[0, 1, 2, 3, 4, 6, 7, 8, 5, 9, 10, 11, 12], [0, 1, 2, 3, 4, 6, 7, 8, 9, 5, 10, 11, 12]] (by decide +kernel) ?_ ?_ ?_)
    | exact allP_n
    | (refine allP_c ?_ ?_)
    | ((refine z_sn0 ?_); (simp only [List.length_map, fillTo_zero, Int.toNat_natCast, Option.isSome_some, and_self, fixB, Nat.reduceLeDiff, false_implies, true_implies, forall_const, St.le0, St.swaps, St.ren, mapV, renO, V.ren, Sc.ren, Ob.ren, swp, slsLe, obsLe, vLe, scLe, scsLe, obLe, Vq.look, Nat.reduceEqDiff, if_true, if_false, reduceCtorEq, ↓reduceIte, true_and, and_true] <;> (and_intros <;> first | rfl | omega | assumption); done))
    | ((refine z_sn ?_); (simp only [List.length_map, fillTo_zero, Int.toNat_natCast, Option.isSome_some, and_self, fixB, Nat.reduceLeDiff, false_implies, true_implies, forall_const, St.le0, St.swaps, St.ren, mapV, renO, V.ren, Sc.ren, Ob.ren, swp, slsLe, obsLe, vLe, scLe, scsLe, obLe, Vq.look, Nat.reduceEqDiff, if_true, if_false, reduceCtorEq, ↓reduceIte, true_and, and_true] <;> (and_intros <;> first | rfl | omega | assumption); done))
    | ((with_reducible refine z_o ?zo ?_); (case zo => decide +kernel))
    | fail)
                     all_goals ((try simp only [Int.toNat_natCast, tn1, tp1, List.length_map, eq_self, true_and, and_true] at *); (try simp (disch := omega) only [wr, Int.toNat_natCast, tn1, tp1, List.length_map, eq_self, true_and, and_true] at *))
                     all_goals (first
                       | omega
                       | (exfalso
                          by_cases hz : sumK s n 6 = 0
                          · rw [decide_eq_true hz, decide_eq_true (ht1.2 hz)] at h; exact absurd h (by decide)
                          · rw [decide_eq_false hz, decide_eq_false (fun h1 => hz (ht1.1 h1))] at h; exact absurd h (by decide))
                       | (refine z_e rfl ?_; simp only [fin, finP, finM, ids, nodupB, tupP, tupM, memN, List.length_cons, List.length_nil, List.nil_append, List.append_nil, List.cons_append, Nat.zero_add, Nat.reduceAdd, ne_eq, not_false_eq_true, eq_self, ev, Vq.look, List.map_cons, List.map_nil, and_true, true_and, Nat.reduceEqDiff, if_true, if_false, reduceCtorEq, ↓reduceIte]; done)
                       | (refine z_e rfl ?_; simp only [fin, finP, finM, ids, nodupB, tupP, tupM, memN, List.length_cons, List.length_nil, List.nil_append, List.append_nil, List.cons_append, Nat.zero_add, Nat.reduceAdd, ne_eq, not_false_eq_true, eq_self, ev, Vq.look, List.map_cons, List.map_nil, and_true, true_and, Nat.reduceEqDiff, if_true, if_false, reduceCtorEq, ↓reduceIte]; rfl))))))))
theorem law : LawFn Try.prog 8 [(false, [.sl dU])] := by
  intro caps hk hok
  obtain ⟨cs0, q0, rfl, e0, hk0⟩ := caps_cons hk
  obtain rfl := caps_nil hk0
  obtain ⟨c0_0, r0_0, rfl, f0_0, g0_0⟩ := kds_cons e0
  obtain rfl := kds_nil g0_0
  have ok0_0 := hok _ (List.getElem_mem (n := 0) (by simp)) _ (List.getElem_mem (n := 0) (by simp))
  simp only [List.getElem_cons_zero, List.getElem_cons_succ] at ok0_0
  obtain ⟨rows0_0, rfl⟩ := kd_sl f0_0
  obtain ⟨l, rfl⟩ := rows_map (e := eU) rowU ok0_0.rows.1
  have wl := ok0_0.len
  rw [List.length_map] at wl
  have hb := bytes_of ok0_0
  by_cases hl : l.length ≤ 1048576
  · exact body l hl hb _ _ (six_of (by omega) (stK_len ..) (stK_bd l _ (by omega) 6)) (six_of (by omega) (stK_len ..) (stK_bd l _ (by omega) 6)) (draw_fn l hl)
  · refine fn_z (ty := ty) (ts := [.tmp 2]) [0, 2, 3, 4, 5, 6, 7, 8, 9, 10, 11, 12, 13, 14, 15, 16, 17, 18, 20, 52, 53, 81, 89, 96, 125] mixed ty_ok Try.func8 (by kernel_rfl) rfl (by kernel_rfl) (by kernel_rfl) rfl (.inl rfl) (Nat.le_of_ble_eq_true rfl) (by simp only [entry, entryV, C.toS, Nat.zero_add, Nat.reduceAdd, List.map_cons, List.map_nil]; exact rfl) ?_
    repeat' (first
    | ((with_reducible refine z_run ?_); (conv => whnf))
    | (with_reducible apply z_t)
    | (with_reducible apply z_f)
    | ((with_reducible apply z_b); ((intro h); (try simp only [beq_self_eq_true, eq_self, not_true_eq_false, not_false_eq_true, decide_true, cond_true, cond_false, Bool.not_true, Bool.not_false, Bool.not_eq_true', Bool.not_eq_false', Bool.and_eq_true, Bool.and_eq_false_imp, Bool.or_eq_true, Bool.or_eq_false_iff, decide_eq_true_eq, decide_eq_false_iff_not, Bool.false_eq_true, reduceCtorEq, Int.not_le, Int.not_lt, Decidable.not_not] at h)); rotate_left; ((intro h); (try simp only [beq_self_eq_true, eq_self, not_true_eq_false, not_false_eq_true, decide_true, cond_true, cond_false, Bool.not_true, Bool.not_false, Bool.not_eq_true', Bool.not_eq_false', Bool.and_eq_true, Bool.and_eq_false_imp, Bool.or_eq_true, Bool.or_eq_false_iff, decide_eq_true_eq, decide_eq_false_iff_not, Bool.false_eq_true, reduceCtorEq, Int.not_le, Int.not_lt, Decidable.not_not] at h)))
    | (with_reducible refine z_r ?_ ?_)
    | (with_reducible refine z_wg ?_ ?_)
    | (with_reducible refine z_w ?_ ?_)
    | ((with_reducible apply sh_nil); (intro _))
    | ((with_reducible apply sh_int); (intro _))
    | ((with_reducible apply sh_bool); (intro _))
    | ((with_reducible apply sh_sl); (intro _))
    | (with_reducible refine z_k (big_no l hl) ?_)
    | ((with_reducible refine z_o ?zo ?_); (case zo => decide +kernel))
    | fail)
    all_goals (first | omega | refine z_e rfl ?_; simp only [fin, finP, finM, ids, nodupB, tupP, tupM, memN, List.length_cons, List.length_nil, List.nil_append, List.append_nil, List.cons_append, Nat.zero_add, Nat.reduceAdd, ne_eq, not_false_eq_true, eq_self, ev, Vq.look, List.map_cons, List.map_nil, and_true, true_and, Nat.reduceEqDiff, if_true, if_false, reduceCtorEq, ↓reduceIte])
set_option maxRecDepth 100000 in
theorem lifted (os : Os) (started : os.Started) (H : Type) (enc : TypeId × Value → H) :
    ReturnsInHanded {} Try.checked os 8 .any (Rows.fnStocksSpec.pre6 enc Try.prog Try.f8 Rows.fnStocksRow.domain false) (Rows.fnStocksSpec.post enc Try.prog Try.f8 false true false false) :=
  law_lift 9 [(false, [.sl [.int .u8]])] (by kernel_rfl) started (by kernel_rfl) Try.func8
    (ChangeSpec.witness6 (enc := enc) (C := Try.checked) false ⟨#[], #[.slice none 0 0], []⟩ 8 (by kernel_rfl) (by kernel_rfl) (by kernel_rfl) (by kernel_rfl))
    rfl (by kernel_rfl) (show Try.checked.prog.underlying 4 = some .bool by kernel_rfl) (by intro ds h; obtain ⟨d0, rfl⟩ := len1 (h.trans (show Try.f8.params.size = 1 by kernel_rfl)); rfl) (by kernel_rfl) (by kernel_rfl) (by kernel_rfl) (by kernel_rfl) (by kernel_rfl) law
theorem over : Rows.fnStocksRow.holds Try.pinned (OpenSpec.ofChange Rows.fnStocksSpec) :=
  OpenClaim.holds_of_wide 8 Try.f8 rfl rfl rfl rfl rfl rfl rfl ⟨rfl, rfl, rfl, rfl, rfl⟩ rfl rfl rfl rfl rfl (by kernel_rfl) Try.func8 (by kernel_rfl)
    (of_decide_eq_true (by kernel_rfl)) (by unfold Func.isWrapper; first | (rw [if_pos (by decide +kernel)]; kernel_rfl) | (rw [if_neg (by decide +kernel)]; exact ⟨rfl, rfl⟩))
    (fun os started H enc _ => lifted os started H enc)
/-- THE STATEMENT -/
theorem proved : Rows.FnStocksSaid := over
#print axioms proved
end Go.Proofs.Ytloeibdplgcgbaa.fnStocks
