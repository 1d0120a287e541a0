/- Lists of whole numbers: put in order, searched, filtered; plain mathematics and contracts. No conditions. -/
import Derived.Test.YtgoimoadaeijkaaInts
namespace Go.Proofs.Ytgoimoadaeijkaa
open Go.Vq
set_option linter.unusedSimpArgs false
set_option maxHeartbeats 1000000
/-- a number put before the first that is not less -/
def insN (n : Int) : List Int → List Int
  | [] => [n]
  | a :: l => if n ≤ a then n :: a :: l else a :: insN n l
theorem insN_no {n : Int} : ∀ {m : List Int}, (∀ x ∈ m, ¬ n ≤ x) → insN n m = m ++ [n]
  | [], _ => rfl
  | a :: m, h => by
    simp only [insN]
    rw [if_neg (h a (by simp)), insN_no fun x hx => h x (by simp [hx])]; rfl
theorem insN_yes {n a : Int} : ∀ {m : List Int}, (∃ x ∈ m, n ≤ x) → insN n (m ++ [a]) = insN n m ++ [a]
  | [], h => by obtain ⟨x, hx, _⟩ := h; cases hx
  | b :: m, h => by
    simp only [insN, List.cons_append]
    by_cases hb : n ≤ b
    · rw [if_pos hb, if_pos hb]; rfl
    · rw [if_neg hb, if_neg hb, insN_yes]
      · rfl
      · obtain ⟨x, hx, hn⟩ := h
        rcases List.mem_cons.1 hx with rfl | hx
        · exact absurd hn hb
        · exact ⟨x, hx, hn⟩
theorem insN_at {n a : Int} : ∀ {m : List Int}, (∀ x ∈ m, ¬ n ≤ x) → n ≤ a → insN n (m ++ [a]) = m ++ [n, a]
  | [], _, ha => by simp [insN, ha]
  | b :: m, h, ha => by
    simp only [insN, List.cons_append]
    rw [if_neg (h b (by simp)), insN_at (fun x hx => h x (by simp [hx])) ha]
theorem insN_perm (n : Int) : ∀ m : List Int, (insN n m).Perm (n :: m)
  | [] => List.Perm.refl _
  | a :: m => by
    simp only [insN]
    split
    · exact List.Perm.refl _
    · exact ((insN_perm n m).cons a).trans (List.Perm.swap n a m)
theorem insN_len (n : Int) (m : List Int) : (insN n m).length = m.length + 1 := (insN_perm n m).length_eq
theorem insN_sorted {n : Int} : ∀ {m : List Int}, m.Pairwise (· ≤ ·) → (insN n m).Pairwise (· ≤ ·)
  | [], _ => by simp [insN]
  | a :: m, h => by
    simp only [insN]
    rw [List.pairwise_cons] at h
    split
    · rename_i hn
      refine List.pairwise_cons.2 ⟨fun x hx => ?_, List.pairwise_cons.2 h⟩
      rcases List.mem_cons.1 hx with rfl | hx
      · exact hn
      · have := h.1 x hx; omega
    · rename_i hn
      refine List.pairwise_cons.2 ⟨fun x hx => ?_, insN_sorted h.2⟩
      rcases List.mem_cons.1 ((insN_perm n m).mem_iff.1 hx) with rfl | hx
      · omega
      · exact h.1 x hx
def sortN (l : List Int) : List Int := l.foldl (fun s a => insN a s) []
theorem sortN_app (l : List Int) (a : Int) : sortN (l ++ [a]) = insN a (sortN l) := by simp [sortN]
theorem sortN_ind {p : List Int → List Int → Prop} (h0 : p [] []) (h1 : ∀ l a, p l (sortN l) → p (l ++ [a]) (insN a (sortN l))) (l : List Int) : p l (sortN l) := by
  have : ∀ k, k ≤ l.length → p (l.take k) (sortN (l.take k)) := by
    intro k
    induction k with
    | zero => intro _; simpa [sortN] using h0
    | succ k ih =>
      intro hk
      rw [takeD (by omega), sortN_app]
      exact h1 _ _ (ih (by omega))
  have := this l.length (Nat.le_refl _)
  rwa [List.take_length] at this
theorem sortN_perm (l : List Int) : (sortN l).Perm l := sortN_ind (p := fun l s => s.Perm l) (List.Perm.refl _) (fun l a h => ((insN_perm a _).trans (h.cons a)).trans (List.perm_append_singleton a l).symm) l
theorem sortN_sorted (l : List Int) : (sortN l).Pairwise (· ≤ ·) := sortN_ind (p := fun _ s => s.Pairwise (· ≤ ·)) List.Pairwise.nil (fun _ _ h => insN_sorted h) l
theorem sortN_len (l : List Int) : (sortN l).length = l.length := (sortN_perm l).length_eq
def strictL (l : List Int) : Prop := ∀ i, i < l.length → 0 < i → l.getD (i - 1) default < l.getD i default
instance (l : List Int) : Decidable (strictL l) := by unfold strictL; infer_instance
theorem strictL_cons {a b : Int} {l : List Int} : strictL (a :: b :: l) ↔ a < b ∧ strictL (b :: l) := by
  constructor
  · intro h
    refine ⟨by simpa using h 1 (by simp) (by omega), fun i hi h0 => ?_⟩
    have := h (i + 1) (by simpa using hi) (by omega)
    rw [show i + 1 - 1 = (i - 1) + 1 by omega] at this
    simpa using this
  · rintro ⟨h1, h2⟩ i hi h0
    cases i with
    | zero => omega
    | succ i =>
      cases i with
      | zero => simpa using h1
      | succ i =>
        have := h2 (i + 1) (by simpa using hi) (by omega)
        simpa using this
theorem strictL_nodup : ∀ {l : List Int}, l.Pairwise (· ≤ ·) → (strictL l ↔ l.Nodup)
  | [], _ => by simp [strictL]
  | [a], _ => by simp [strictL]
  | a :: b :: l, h => by
    rw [strictL_cons, strictL_nodup (List.pairwise_cons.1 h).2, List.nodup_cons (a := a)]
    have hab := (List.pairwise_cons.1 h).1
    have hbl := (List.pairwise_cons.1 (List.pairwise_cons.1 h).2).1
    constructor
    · rintro ⟨h1, h2⟩
      refine ⟨fun hm => ?_, h2⟩
      rcases List.mem_cons.1 hm with rfl | hm
      · omega
      · have := hbl a hm; omega
    · rintro ⟨h1, h2⟩
      refine ⟨?_, h2⟩
      have := hab b (by simp)
      have hne : a ≠ b := fun e => h1 (by simp [e])
      omega
theorem strict_sort (l : List Int) : strictL (sortN l) ↔ l.Nodup := (strictL_nodup (sortN_sorted l)).trans (sortN_perm l).nodup_iff
theorem nodup_getD {l : List Int} : l.Nodup ↔ ∀ k, k < l.length → ∀ i, i < k → l.getD i default ≠ l.getD k default := by
  rw [List.Nodup, List.pairwise_iff_getElem]
  constructor
  · intro h k hk i hi
    have := h i k (by omega) hk hi
    simpa [List.getD, hk, show i < l.length by omega] using this
  · intro h i j hi hj hij
    have := h j hj i hij
    simpa [List.getD, hi, hj] using this
def idxR (l : List Int) (n : Int) : Int := if n ∈ l then l.idxOf n else -1
theorem idxOf_at {l : List Int} {n : Int} : ∀ {k : Nat}, k < l.length → (∀ i, i < k → l.getD i default ≠ n) → l.getD k default = n → l.idxOf n = k := by
  induction l with
  | nil => intro k h; simp at h
  | cons a l ih =>
    intro k hk hI hn
    cases k with
    | zero => have : a = n := by simpa using hn
              subst this; simp
    | succ k =>
      have h0 : a ≠ n := by simpa using hI 0 (by omega)
      have := ih (k := k) (by simpa using hk) (fun i hi => by simpa using hI (i + 1) (by omega)) (by simpa using hn)
      have e : (a == n) = false := by simpa using h0
      rw [List.idxOf_cons, this, e]; rfl
def putD (l : List Int) (n : Int) (k : Nat) : Prop := ∃ x ∈ l.take k, n ≤ x
instance (l : List Int) (n : Int) (k : Nat) : Decidable (putD l n k) := by unfold putD; infer_instance
def putO (l : List Int) (n : Int) (k : Nat) : List Int := if putD l n k then insN n (l.take k) else l.take k
theorem putO_len (l : List Int) (n : Int) {k : Nat} (h : k ≤ l.length) : (putO l n k).length ≤ k + 1 := by
  unfold putO; split
  · rw [insN_len]; simp; omega
  · simp; omega
theorem putD_succ {l : List Int} {n : Int} {k : Nat} (h : k < l.length) : putD l n (k + 1) ↔ putD l n k ∨ n ≤ l.getD k default := by
  unfold putD; rw [takeD h]
  simp only [List.mem_append, List.mem_singleton, or_and_right, exists_or, exists_eq_left]
theorem putO_done {l : List Int} {n : Int} {k : Nat} (h : k < l.length) (hd : putD l n k) : putO l n (k + 1) = putO l n k ++ [l.getD k default] := by
  rw [putO, if_pos ((putD_succ h).2 (.inl hd)), putO, if_pos hd, takeD h, insN_yes hd]
theorem putO_now {l : List Int} {n : Int} {k : Nat} (h : k < l.length) (hd : ¬ putD l n k) (hn : n ≤ l.getD k default) : putO l n (k + 1) = putO l n k ++ [n] ++ [l.getD k default] := by
  rw [putO, if_pos ((putD_succ h).2 (.inr hn)), putO, if_neg hd, takeD h, insN_at (fun x hx hq => hd ⟨x, hx, hq⟩) hn]; simp
theorem putO_no {l : List Int} {n : Int} {k : Nat} (h : k < l.length) (hd : ¬ putD l n k) (hn : ¬ n ≤ l.getD k default) : putO l n (k + 1) = putO l n k ++ [l.getD k default] := by
  rw [putO, if_neg (fun hq => ((putD_succ h).1 hq).elim hd hn), putO, if_neg hd, takeD h]
theorem put_fn (l : List Int) (hl : l.length ≤ 1048576) (n : Int) : FnC Try.prog 48 [(false, [.sq dI (l.map eI)]), (false, [.int .i64 n])] (.one (.own 3 dI ((insN n l).map eI))) := by
  refine fn_z (ty := ty) (ts := [.tmp 4]) [0, 1, 4, 5, 6, 8, 10, 11, 12, 13, 22, 33] mixed ty_ok Try.func48 (by kernel_rfl) rfl (by kernel_rfl) (by kernel_rfl) rfl (.inl rfl) (Nat.le_of_ble_eq_true rfl) (by simp only [entry, entryV, C.toS, Nat.zero_add, Nat.reduceAdd, List.map_cons, List.map_nil]; exact rfl) ?_
  repeat' (first
    | ((with_reducible refine z_run ?_); (conv => whnf))
    | (with_reducible apply z_t)
    | (with_reducible apply z_f)
    | ((with_reducible apply z_b); ((intro h); (try simp only [beq_self_eq_true, eq_self, not_true_eq_false, not_false_eq_true, decide_true, cond_true, cond_false, Bool.not_true, Bool.not_false, Bool.not_eq_true', Bool.not_eq_false', Bool.and_eq_true, Bool.and_eq_false_imp, Bool.or_eq_true, Bool.or_eq_false_iff, decide_eq_true_eq, decide_eq_false_iff_not, Bool.false_eq_true, reduceCtorEq, Int.not_le, Int.not_lt, Decidable.not_not] at h)); rotate_left; ((intro h); (try simp only [beq_self_eq_true, eq_self, not_true_eq_false, not_false_eq_true, decide_true, cond_true, cond_false, Bool.not_true, Bool.not_false, Bool.not_eq_true', Bool.not_eq_false', Bool.and_eq_true, Bool.and_eq_false_imp, Bool.or_eq_true, Bool.or_eq_false_iff, decide_eq_true_eq, decide_eq_false_iff_not, Bool.false_eq_true, reduceCtorEq, Int.not_le, Int.not_lt, Decidable.not_not] at h)))
    | (with_reducible refine z_r ?_ ?_)
    | (with_reducible refine z_wg ?_ ?_)
    | (with_reducible refine z_w ?_ ?_)
    | ((with_reducible apply sh_nil); (intro _))
    | ((with_reducible apply sh_int); (intro _))
    | ((with_reducible apply sh_bool); (intro _))
    | ((with_reducible apply sh_sl); (intro _))
    | ((with_reducible refine z_xf ?zc ?zx ?_); (case zc => decide +kernel); (case zx => decide +kernel))
    | ((with_reducible refine z_o ?zo ?_); (case zo => decide +kernel))
    | ((with_reducible refine z_x ?zx ?_); (case zx => decide +kernel))
    | ((refine z_mf (d := ?zD) (f := ?zF) (caps := ?zA) (τ := ?zT) (ps := ?zP) (cs := ?zC) ?zd ?ze ?zt ?za ?zp ?zl ?_); (case zd => exact rfl); (case ze => exact rfl); (case zt => (simp only [frzAll, frz, frzL, frzV, frzS, drp, unSs, unS, unsing, ev, Vq.look, List.map_cons, List.map_nil, List.drop_zero, List.drop_succ_cons, Nat.reduceAdd, Nat.zero_add, Option.map_some, Nat.reduceEqDiff, if_true, if_false, reduceCtorEq, ↓reduceIte]; exact rfl)); (case za => exact rfl); (case zp => exact rfl); (case zl => (simp only [unSs, unS, unsing, List.drop_zero, List.drop_succ_cons, Nat.reduceAdd, Nat.zero_add, Option.map_some, List.length_map, fillTo_zero, Int.toNat_natCast, Option.isSome_some, and_self, fixB, Nat.reduceLeDiff, false_implies, true_implies, forall_const, St.le0, St.swaps, St.ren, mapV, renO, V.ren, Sc.ren, Ob.ren, swp, slsLe, obsLe, vLe, scLe, scsLe, obLe, Vq.look, Nat.reduceEqDiff, if_true, if_false, reduceCtorEq, ↓reduceIte, true_and, and_true] <;> (and_intros <;> first | rfl | omega))))
    | fail)
  refine z_li (fun k => k ≤ l.length) (0 : Nat) (fun k => l.length - k) (fun k => ⟨[(0, .one (.ro dI (l.map eI))), (1, .one (.int .i64 n)), (5, .one (.root 9)), (6, .one (.bool (decide (putD l n k)))), (10, .one (.ro dI (l.map eI))), (11, .one (.int .i64 l.length)), (12, .one (.int .i64 k))], [(9, .row 3 dI ((putO l n k).map eI))]⟩) (by omega) ?_ ?_
  · simp only [List.length_map, fillTo_zero, Int.toNat_natCast, Option.isSome_some, and_self, fixB, Nat.reduceLeDiff, false_implies, true_implies, forall_const, St.le0, St.swaps, St.ren, mapV, renO, V.ren, Sc.ren, Ob.ren, swp, slsLe, obsLe, vLe, scLe, scsLe, obLe, Vq.look, Nat.reduceEqDiff, if_true, if_false, reduceCtorEq, ↓reduceIte, true_and, and_true, putD, putO, List.take_zero, List.not_mem_nil, false_and, exists_false, decide_false]; and_intros <;> first | rfl | omega
  · intro k hk
    have hlen := putO_len l n hk
    by_cases hlt : k < l.length
    · have hs := putD_succ (n := n) hlt
      by_cases hd : putD l n k
      · have e1 := putO_done hlt hd
        have e2 : decide (putD l n (k + 1)) = true := decide_eq_true (hs.2 (.inl hd))
        rw [decide_eq_true hd]
        repeat' (first
    | ((with_reducible refine z_run ?_); (conv => whnf))
    | (with_reducible apply z_t)
    | (with_reducible apply z_f)
    | ((with_reducible apply z_b); ((intro h); (try simp only [beq_self_eq_true, eq_self, not_true_eq_false, not_false_eq_true, decide_true, cond_true, cond_false, Bool.not_true, Bool.not_false, Bool.not_eq_true', Bool.not_eq_false', Bool.and_eq_true, Bool.and_eq_false_imp, Bool.or_eq_true, Bool.or_eq_false_iff, decide_eq_true_eq, decide_eq_false_iff_not, Bool.false_eq_true, reduceCtorEq, Int.not_le, Int.not_lt, Decidable.not_not] at h)); rotate_left; ((intro h); (try simp only [beq_self_eq_true, eq_self, not_true_eq_false, not_false_eq_true, decide_true, cond_true, cond_false, Bool.not_true, Bool.not_false, Bool.not_eq_true', Bool.not_eq_false', Bool.and_eq_true, Bool.and_eq_false_imp, Bool.or_eq_true, Bool.or_eq_false_iff, decide_eq_true_eq, decide_eq_false_iff_not, Bool.false_eq_true, reduceCtorEq, Int.not_le, Int.not_lt, Decidable.not_not] at h)))
    | (with_reducible refine z_r ?_ ?_)
    | (with_reducible refine z_wg ?_ ?_)
    | (with_reducible refine z_w ?_ ?_)
    | ((with_reducible apply sh_nil); (intro _))
    | ((with_reducible apply sh_int); (intro _))
    | ((with_reducible apply sh_bool); (intro _))
    | ((with_reducible apply sh_sl); (intro _))
    | ((with_reducible refine z_xf ?zc ?zx ?_); (case zc => decide +kernel); (case zx => decide +kernel))
    | ((with_reducible refine z_o ?zo ?_); (case zo => decide +kernel))
    | ((with_reducible refine z_x ?zx ?_); (case zx => decide +kernel))
    | ((refine z_mf (d := ?zD) (f := ?zF) (caps := ?zA) (τ := ?zT) (ps := ?zP) (cs := ?zC) ?zd ?ze ?zt ?za ?zp ?zl ?_); (case zd => exact rfl); (case ze => exact rfl); (case zt => (simp only [frzAll, frz, frzL, frzV, frzS, drp, unSs, unS, unsing, ev, Vq.look, List.map_cons, List.map_nil, List.drop_zero, List.drop_succ_cons, Nat.reduceAdd, Nat.zero_add, Option.map_some, Nat.reduceEqDiff, if_true, if_false, reduceCtorEq, ↓reduceIte]; exact rfl)); (case za => exact rfl); (case zp => exact rfl); (case zl => (simp only [unSs, unS, unsing, List.drop_zero, List.drop_succ_cons, Nat.reduceAdd, Nat.zero_add, Option.map_some, List.length_map, fillTo_zero, Int.toNat_natCast, Option.isSome_some, and_self, fixB, Nat.reduceLeDiff, false_implies, true_implies, forall_const, St.le0, St.swaps, St.ren, mapV, renO, V.ren, Sc.ren, Ob.ren, swp, slsLe, obsLe, vLe, scLe, scsLe, obLe, Vq.look, Nat.reduceEqDiff, if_true, if_false, reduceCtorEq, ↓reduceIte, true_and, and_true] <;> (and_intros <;> first | rfl | omega))))
    | fail)
        all_goals ((try simp only [Int.toNat_natCast, tn1, tp1, List.length_map, eq_self, true_and, and_true] at *); (try simp (disch := omega) only [wr, Int.toNat_natCast, tn1, tp1, List.length_map, eq_self, true_and, and_true] at *))
        all_goals (first
          | omega
          | (simp only [List.length_append, List.length_map, List.length_cons, List.length_nil]; omega)
          | (refine z_n (k + 1) ⟨by omega, by omega⟩ ?_; rw [e1, e2, List.map_append]; simp only [List.length_map, fillTo_zero, Int.toNat_natCast, Option.isSome_some, and_self, fixB, Nat.reduceLeDiff, false_implies, true_implies, forall_const, St.le0, St.swaps, St.ren, mapV, renO, V.ren, Sc.ren, Ob.ren, swp, slsLe, obsLe, vLe, scLe, scsLe, obLe, Vq.look, Nat.reduceEqDiff, if_true, if_false, reduceCtorEq, ↓reduceIte, true_and, and_true] <;> (and_intros <;> first | rfl | omega | assumption)))
      · rw [decide_eq_false hd]
        by_cases hn : n ≤ l.getD k default
        · have e1 := putO_now hlt hd hn
          have e2 : decide (putD l n (k + 1)) = true := decide_eq_true (hs.2 (.inr hn))
          repeat' (first
    | ((with_reducible refine z_run ?_); (conv => whnf))
    | (with_reducible apply z_t)
    | (with_reducible apply z_f)
    | ((with_reducible apply z_b); ((intro h); (try simp only [beq_self_eq_true, eq_self, not_true_eq_false, not_false_eq_true, decide_true, cond_true, cond_false, Bool.not_true, Bool.not_false, Bool.not_eq_true', Bool.not_eq_false', Bool.and_eq_true, Bool.and_eq_false_imp, Bool.or_eq_true, Bool.or_eq_false_iff, decide_eq_true_eq, decide_eq_false_iff_not, Bool.false_eq_true, reduceCtorEq, Int.not_le, Int.not_lt, Decidable.not_not] at h)); rotate_left; ((intro h); (try simp only [beq_self_eq_true, eq_self, not_true_eq_false, not_false_eq_true, decide_true, cond_true, cond_false, Bool.not_true, Bool.not_false, Bool.not_eq_true', Bool.not_eq_false', Bool.and_eq_true, Bool.and_eq_false_imp, Bool.or_eq_true, Bool.or_eq_false_iff, decide_eq_true_eq, decide_eq_false_iff_not, Bool.false_eq_true, reduceCtorEq, Int.not_le, Int.not_lt, Decidable.not_not] at h)))
    | (with_reducible refine z_r ?_ ?_)
    | (with_reducible refine z_wg ?_ ?_)
    | (with_reducible refine z_w ?_ ?_)
    | ((with_reducible apply sh_nil); (intro _))
    | ((with_reducible apply sh_int); (intro _))
    | ((with_reducible apply sh_bool); (intro _))
    | ((with_reducible apply sh_sl); (intro _))
    | ((with_reducible refine z_xf ?zc ?zx ?_); (case zc => decide +kernel); (case zx => decide +kernel))
    | ((with_reducible refine z_o ?zo ?_); (case zo => decide +kernel))
    | ((with_reducible refine z_x ?zx ?_); (case zx => decide +kernel))
    | ((refine z_mf (d := ?zD) (f := ?zF) (caps := ?zA) (τ := ?zT) (ps := ?zP) (cs := ?zC) ?zd ?ze ?zt ?za ?zp ?zl ?_); (case zd => exact rfl); (case ze => exact rfl); (case zt => (simp only [frzAll, frz, frzL, frzV, frzS, drp, unSs, unS, unsing, ev, Vq.look, List.map_cons, List.map_nil, List.drop_zero, List.drop_succ_cons, Nat.reduceAdd, Nat.zero_add, Option.map_some, Nat.reduceEqDiff, if_true, if_false, reduceCtorEq, ↓reduceIte]; exact rfl)); (case za => exact rfl); (case zp => exact rfl); (case zl => (simp only [unSs, unS, unsing, List.drop_zero, List.drop_succ_cons, Nat.reduceAdd, Nat.zero_add, Option.map_some, List.length_map, fillTo_zero, Int.toNat_natCast, Option.isSome_some, and_self, fixB, Nat.reduceLeDiff, false_implies, true_implies, forall_const, St.le0, St.swaps, St.ren, mapV, renO, V.ren, Sc.ren, Ob.ren, swp, slsLe, obsLe, vLe, scLe, scsLe, obLe, Vq.look, Nat.reduceEqDiff, if_true, if_false, reduceCtorEq, ↓reduceIte, true_and, and_true] <;> (and_intros <;> first | rfl | omega))))
    | fail)
          all_goals ((try simp only [Int.toNat_natCast, tn1, tp1, List.length_map, eq_self, true_and, and_true] at *); (try simp (disch := omega) only [wr, Int.toNat_natCast, tn1, tp1, List.length_map, eq_self, true_and, and_true] at *))
          all_goals (first
            | omega
            | (simp only [List.length_append, List.length_map, List.length_cons, List.length_nil]; omega)
            | (refine z_n (k + 1) ⟨by omega, by omega⟩ ?_; rw [e1, e2, List.map_append, List.map_append]; simp only [List.length_map, fillTo_zero, Int.toNat_natCast, Option.isSome_some, and_self, fixB, Nat.reduceLeDiff, false_implies, true_implies, forall_const, St.le0, St.swaps, St.ren, mapV, renO, V.ren, Sc.ren, Ob.ren, swp, slsLe, obsLe, vLe, scLe, scsLe, obLe, Vq.look, Nat.reduceEqDiff, if_true, if_false, reduceCtorEq, ↓reduceIte, true_and, and_true] <;> (and_intros <;> first | rfl | omega | assumption)))
        · have e1 := putO_no hlt hd hn
          have e2 : decide (putD l n (k + 1)) = false := decide_eq_false (fun hq => (hs.1 hq).elim hd hn)
          repeat' (first
    | ((with_reducible refine z_run ?_); (conv => whnf))
    | (with_reducible apply z_t)
    | (with_reducible apply z_f)
    | ((with_reducible apply z_b); ((intro h); (try simp only [beq_self_eq_true, eq_self, not_true_eq_false, not_false_eq_true, decide_true, cond_true, cond_false, Bool.not_true, Bool.not_false, Bool.not_eq_true', Bool.not_eq_false', Bool.and_eq_true, Bool.and_eq_false_imp, Bool.or_eq_true, Bool.or_eq_false_iff, decide_eq_true_eq, decide_eq_false_iff_not, Bool.false_eq_true, reduceCtorEq, Int.not_le, Int.not_lt, Decidable.not_not] at h)); rotate_left; ((intro h); (try simp only [beq_self_eq_true, eq_self, not_true_eq_false, not_false_eq_true, decide_true, cond_true, cond_false, Bool.not_true, Bool.not_false, Bool.not_eq_true', Bool.not_eq_false', Bool.and_eq_true, Bool.and_eq_false_imp, Bool.or_eq_true, Bool.or_eq_false_iff, decide_eq_true_eq, decide_eq_false_iff_not, Bool.false_eq_true, reduceCtorEq, Int.not_le, Int.not_lt, Decidable.not_not] at h)))
    | (with_reducible refine z_r ?_ ?_)
    | (with_reducible refine z_wg ?_ ?_)
    | (with_reducible refine z_w ?_ ?_)
    | ((with_reducible apply sh_nil); (intro _))
    | ((with_reducible apply sh_int); (intro _))
    | ((with_reducible apply sh_bool); (intro _))
    | ((with_reducible apply sh_sl); (intro _))
    | ((with_reducible refine z_xf ?zc ?zx ?_); (case zc => decide +kernel); (case zx => decide +kernel))
    | ((with_reducible refine z_o ?zo ?_); (case zo => decide +kernel))
    | ((with_reducible refine z_x ?zx ?_); (case zx => decide +kernel))
    | ((refine z_mf (d := ?zD) (f := ?zF) (caps := ?zA) (τ := ?zT) (ps := ?zP) (cs := ?zC) ?zd ?ze ?zt ?za ?zp ?zl ?_); (case zd => exact rfl); (case ze => exact rfl); (case zt => (simp only [frzAll, frz, frzL, frzV, frzS, drp, unSs, unS, unsing, ev, Vq.look, List.map_cons, List.map_nil, List.drop_zero, List.drop_succ_cons, Nat.reduceAdd, Nat.zero_add, Option.map_some, Nat.reduceEqDiff, if_true, if_false, reduceCtorEq, ↓reduceIte]; exact rfl)); (case za => exact rfl); (case zp => exact rfl); (case zl => (simp only [unSs, unS, unsing, List.drop_zero, List.drop_succ_cons, Nat.reduceAdd, Nat.zero_add, Option.map_some, List.length_map, fillTo_zero, Int.toNat_natCast, Option.isSome_some, and_self, fixB, Nat.reduceLeDiff, false_implies, true_implies, forall_const, St.le0, St.swaps, St.ren, mapV, renO, V.ren, Sc.ren, Ob.ren, swp, slsLe, obsLe, vLe, scLe, scsLe, obLe, Vq.look, Nat.reduceEqDiff, if_true, if_false, reduceCtorEq, ↓reduceIte, true_and, and_true] <;> (and_intros <;> first | rfl | omega))))
    | fail)
          all_goals ((try simp only [Int.toNat_natCast, tn1, tp1, List.length_map, eq_self, true_and, and_true] at *); (try simp (disch := omega) only [wr, Int.toNat_natCast, tn1, tp1, List.length_map, eq_self, true_and, and_true] at *))
          all_goals (first
            | omega
            | (simp only [List.length_append, List.length_map, List.length_cons, List.length_nil]; omega)
            | (refine z_n (k + 1) ⟨by omega, by omega⟩ ?_; rw [e1, e2, List.map_append]; simp only [List.length_map, fillTo_zero, Int.toNat_natCast, Option.isSome_some, and_self, fixB, Nat.reduceLeDiff, false_implies, true_implies, forall_const, St.le0, St.swaps, St.ren, mapV, renO, V.ren, Sc.ren, Ob.ren, swp, slsLe, obsLe, vLe, scLe, scsLe, obLe, Vq.look, Nat.reduceEqDiff, if_true, if_false, reduceCtorEq, ↓reduceIte, true_and, and_true] <;> (and_intros <;> first | rfl | omega | assumption)))
    · have et : l.take k = l := List.take_of_length_le (by omega)
      have hdd : putD l n k ↔ ∃ x ∈ l, n ≤ x := by unfold putD; rw [et]
      have eo : putO l n k = if putD l n k then insN n l else l := by unfold putO; rw [et]
      by_cases hd : putD l n k
      · rw [decide_eq_true hd, eo, if_pos hd]
        repeat' (first
    | ((with_reducible refine z_run ?_); (conv => whnf))
    | (with_reducible apply z_t)
    | (with_reducible apply z_f)
    | ((with_reducible apply z_b); ((intro h); (try simp only [beq_self_eq_true, eq_self, not_true_eq_false, not_false_eq_true, decide_true, cond_true, cond_false, Bool.not_true, Bool.not_false, Bool.not_eq_true', Bool.not_eq_false', Bool.and_eq_true, Bool.and_eq_false_imp, Bool.or_eq_true, Bool.or_eq_false_iff, decide_eq_true_eq, decide_eq_false_iff_not, Bool.false_eq_true, reduceCtorEq, Int.not_le, Int.not_lt, Decidable.not_not] at h)); rotate_left; ((intro h); (try simp only [beq_self_eq_true, eq_self, not_true_eq_false, not_false_eq_true, decide_true, cond_true, cond_false, Bool.not_true, Bool.not_false, Bool.not_eq_true', Bool.not_eq_false', Bool.and_eq_true, Bool.and_eq_false_imp, Bool.or_eq_true, Bool.or_eq_false_iff, decide_eq_true_eq, decide_eq_false_iff_not, Bool.false_eq_true, reduceCtorEq, Int.not_le, Int.not_lt, Decidable.not_not] at h)))
    | (with_reducible refine z_r ?_ ?_)
    | (with_reducible refine z_wg ?_ ?_)
    | (with_reducible refine z_w ?_ ?_)
    | ((with_reducible apply sh_nil); (intro _))
    | ((with_reducible apply sh_int); (intro _))
    | ((with_reducible apply sh_bool); (intro _))
    | ((with_reducible apply sh_sl); (intro _))
    | ((with_reducible refine z_xf ?zc ?zx ?_); (case zc => decide +kernel); (case zx => decide +kernel))
    | ((with_reducible refine z_o ?zo ?_); (case zo => decide +kernel))
    | ((with_reducible refine z_x ?zx ?_); (case zx => decide +kernel))
    | ((refine z_mf (d := ?zD) (f := ?zF) (caps := ?zA) (τ := ?zT) (ps := ?zP) (cs := ?zC) ?zd ?ze ?zt ?za ?zp ?zl ?_); (case zd => exact rfl); (case ze => exact rfl); (case zt => (simp only [frzAll, frz, frzL, frzV, frzS, drp, unSs, unS, unsing, ev, Vq.look, List.map_cons, List.map_nil, List.drop_zero, List.drop_succ_cons, Nat.reduceAdd, Nat.zero_add, Option.map_some, Nat.reduceEqDiff, if_true, if_false, reduceCtorEq, ↓reduceIte]; exact rfl)); (case za => exact rfl); (case zp => exact rfl); (case zl => (simp only [unSs, unS, unsing, List.drop_zero, List.drop_succ_cons, Nat.reduceAdd, Nat.zero_add, Option.map_some, List.length_map, fillTo_zero, Int.toNat_natCast, Option.isSome_some, and_self, fixB, Nat.reduceLeDiff, false_implies, true_implies, forall_const, St.le0, St.swaps, St.ren, mapV, renO, V.ren, Sc.ren, Ob.ren, swp, slsLe, obsLe, vLe, scLe, scsLe, obLe, Vq.look, Nat.reduceEqDiff, if_true, if_false, reduceCtorEq, ↓reduceIte, true_and, and_true] <;> (and_intros <;> first | rfl | omega))))
    | fail)
        all_goals ((try simp only [Int.toNat_natCast, tn1, tp1, List.length_map, eq_self, true_and, and_true] at *); (try simp (disch := omega) only [wr, Int.toNat_natCast, tn1, tp1, List.length_map, eq_self, true_and, and_true] at *))
        all_goals (first | omega | refine z_e rfl ?_; simp only [fin, finP, finM, ids, nodupB, tupP, tupM, memN, List.length_cons, List.length_nil, List.nil_append, List.append_nil, List.cons_append, Nat.zero_add, Nat.reduceAdd, ne_eq, not_false_eq_true, eq_self, ev, Vq.look, List.map_cons, List.map_nil, and_true, true_and, Nat.reduceEqDiff, if_true, if_false, reduceCtorEq, ↓reduceIte])
      · rw [decide_eq_false hd, eo, if_neg hd]
        have hin := insN_no (n := n) (m := l) fun x hx hq => hd (hdd.2 ⟨x, hx, hq⟩)
        repeat' (first
    | ((with_reducible refine z_run ?_); (conv => whnf))
    | (with_reducible apply z_t)
    | (with_reducible apply z_f)
    | ((with_reducible apply z_b); ((intro h); (try simp only [beq_self_eq_true, eq_self, not_true_eq_false, not_false_eq_true, decide_true, cond_true, cond_false, Bool.not_true, Bool.not_false, Bool.not_eq_true', Bool.not_eq_false', Bool.and_eq_true, Bool.and_eq_false_imp, Bool.or_eq_true, Bool.or_eq_false_iff, decide_eq_true_eq, decide_eq_false_iff_not, Bool.false_eq_true, reduceCtorEq, Int.not_le, Int.not_lt, Decidable.not_not] at h)); rotate_left; ((intro h); (try simp only [beq_self_eq_true, eq_self, not_true_eq_false, not_false_eq_true, decide_true, cond_true, cond_false, Bool.not_true, Bool.not_false, Bool.not_eq_true', Bool.not_eq_false', Bool.and_eq_true, Bool.and_eq_false_imp, Bool.or_eq_true, Bool.or_eq_false_iff, decide_eq_true_eq, decide_eq_false_iff_not, Bool.false_eq_true, reduceCtorEq, Int.not_le, Int.not_lt, Decidable.not_not] at h)))
    | (with_reducible refine z_r ?_ ?_)
    | (with_reducible refine z_wg ?_ ?_)
    | (with_reducible refine z_w ?_ ?_)
    | ((with_reducible apply sh_nil); (intro _))
    | ((with_reducible apply sh_int); (intro _))
    | ((with_reducible apply sh_bool); (intro _))
    | ((with_reducible apply sh_sl); (intro _))
    | ((with_reducible refine z_xf ?zc ?zx ?_); (case zc => decide +kernel); (case zx => decide +kernel))
    | ((with_reducible refine z_o ?zo ?_); (case zo => decide +kernel))
    | ((with_reducible refine z_x ?zx ?_); (case zx => decide +kernel))
    | ((refine z_mf (d := ?zD) (f := ?zF) (caps := ?zA) (τ := ?zT) (ps := ?zP) (cs := ?zC) ?zd ?ze ?zt ?za ?zp ?zl ?_); (case zd => exact rfl); (case ze => exact rfl); (case zt => (simp only [frzAll, frz, frzL, frzV, frzS, drp, unSs, unS, unsing, ev, Vq.look, List.map_cons, List.map_nil, List.drop_zero, List.drop_succ_cons, Nat.reduceAdd, Nat.zero_add, Option.map_some, Nat.reduceEqDiff, if_true, if_false, reduceCtorEq, ↓reduceIte]; exact rfl)); (case za => exact rfl); (case zp => exact rfl); (case zl => (simp only [unSs, unS, unsing, List.drop_zero, List.drop_succ_cons, Nat.reduceAdd, Nat.zero_add, Option.map_some, List.length_map, fillTo_zero, Int.toNat_natCast, Option.isSome_some, and_self, fixB, Nat.reduceLeDiff, false_implies, true_implies, forall_const, St.le0, St.swaps, St.ren, mapV, renO, V.ren, Sc.ren, Ob.ren, swp, slsLe, obsLe, vLe, scLe, scsLe, obLe, Vq.look, Nat.reduceEqDiff, if_true, if_false, reduceCtorEq, ↓reduceIte, true_and, and_true] <;> (and_intros <;> first | rfl | omega))))
    | fail)
        all_goals ((try simp only [Int.toNat_natCast, tn1, tp1, List.length_map, eq_self, true_and, and_true] at *); (try simp (disch := omega) only [wr, Int.toNat_natCast, tn1, tp1, List.length_map, eq_self, true_and, and_true] at *))
        all_goals (first
          | omega
          | (simp only [List.length_append, List.length_map, List.length_cons, List.length_nil]; omega)
          | (refine z_e rfl ?_; simp only [fin, finP, finM, ids, nodupB, tupP, tupM, memN, List.length_cons, List.length_nil, List.nil_append, List.append_nil, List.cons_append, Nat.zero_add, Nat.reduceAdd, ne_eq, not_false_eq_true, eq_self, ev, Vq.look, List.map_cons, List.map_nil, and_true, true_and, Nat.reduceEqDiff, if_true, if_false, reduceCtorEq, ↓reduceIte]; rw [hin, List.map_append]; rfl))
theorem sortN_take {l : List Int} {k : Nat} (h : k < l.length) : sortN (l.take (k + 1)) = insN (l.getD k default) (sortN (l.take k)) := by rw [takeD h, sortN_app]
theorem sorted_fn (l : List Int) (hl : l.length ≤ 1048576) : FnC Try.prog 34 [(false, [.sq dI (l.map eI)])] (.one (.own 3 dI ((sortN l).map eI))) := by
  refine fn_z (ty := ty) (ts := [.tmp 2]) [0, 2, 3, 5, 7, 8, 9, 10] mixed ty_ok Try.func34 (by kernel_rfl) rfl (by kernel_rfl) (by kernel_rfl) rfl (.inl rfl) (Nat.le_of_ble_eq_true rfl) (by simp only [entry, entryV, C.toS, Nat.zero_add, Nat.reduceAdd, List.map_cons, List.map_nil]; exact rfl) ?_
  repeat' (first
    | ((with_reducible refine z_run ?_); (conv => whnf))
    | (with_reducible apply z_t)
    | (with_reducible apply z_f)
    | ((with_reducible apply z_b); ((intro h); (try simp only [beq_self_eq_true, eq_self, not_true_eq_false, not_false_eq_true, decide_true, cond_true, cond_false, Bool.not_true, Bool.not_false, Bool.not_eq_true', Bool.not_eq_false', Bool.and_eq_true, Bool.and_eq_false_imp, Bool.or_eq_true, Bool.or_eq_false_iff, decide_eq_true_eq, decide_eq_false_iff_not, Bool.false_eq_true, reduceCtorEq, Int.not_le, Int.not_lt, Decidable.not_not] at h)); rotate_left; ((intro h); (try simp only [beq_self_eq_true, eq_self, not_true_eq_false, not_false_eq_true, decide_true, cond_true, cond_false, Bool.not_true, Bool.not_false, Bool.not_eq_true', Bool.not_eq_false', Bool.and_eq_true, Bool.and_eq_false_imp, Bool.or_eq_true, Bool.or_eq_false_iff, decide_eq_true_eq, decide_eq_false_iff_not, Bool.false_eq_true, reduceCtorEq, Int.not_le, Int.not_lt, Decidable.not_not] at h)))
    | (with_reducible refine z_r ?_ ?_)
    | (with_reducible refine z_wg ?_ ?_)
    | (with_reducible refine z_w ?_ ?_)
    | ((with_reducible apply sh_nil); (intro _))
    | ((with_reducible apply sh_int); (intro _))
    | ((with_reducible apply sh_bool); (intro _))
    | ((with_reducible apply sh_sl); (intro _))
    | ((with_reducible refine z_xf ?zc ?zx ?_); (case zc => decide +kernel); (case zx => decide +kernel))
    | ((with_reducible refine z_o ?zo ?_); (case zo => decide +kernel))
    | ((with_reducible refine z_x ?zx ?_); (case zx => decide +kernel))
    | ((refine z_mf (d := ?zD) (f := ?zF) (caps := ?zA) (τ := ?zT) (ps := ?zP) (cs := ?zC) ?zd ?ze ?zt ?za ?zp ?zl ?_); (case zd => exact rfl); (case ze => exact rfl); (case zt => (simp only [frzAll, frz, frzL, frzV, frzS, drp, unSs, unS, unsing, ev, Vq.look, List.map_cons, List.map_nil, List.drop_zero, List.drop_succ_cons, Nat.reduceAdd, Nat.zero_add, Option.map_some, Nat.reduceEqDiff, if_true, if_false, reduceCtorEq, ↓reduceIte]; exact rfl)); (case za => exact rfl); (case zp => exact rfl); (case zl => (simp only [unSs, unS, unsing, List.drop_zero, List.drop_succ_cons, Nat.reduceAdd, Nat.zero_add, Option.map_some, List.length_map, fillTo_zero, Int.toNat_natCast, Option.isSome_some, and_self, fixB, Nat.reduceLeDiff, false_implies, true_implies, forall_const, St.le0, St.swaps, St.ren, mapV, renO, V.ren, Sc.ren, Ob.ren, swp, slsLe, obsLe, vLe, scLe, scsLe, obLe, Vq.look, Nat.reduceEqDiff, if_true, if_false, reduceCtorEq, ↓reduceIte, true_and, and_true] <;> (and_intros <;> first | rfl | omega))))
    | fail)
  refine z_li (fun k => k ≤ l.length) (0 : Nat) (fun k => l.length - k) (fun k => ⟨[(0, .one (.ro dI (l.map eI))), (3, .one (.root 6)), (7, .one (.ro dI (l.map eI))), (8, .one (.int .i64 l.length)), (9, .one (.int .i64 k))], [(6, .row 3 dI ((sortN (l.take k)).map eI))]⟩) (by omega) ?_ ?_
  · simp only [List.length_map, fillTo_zero, Int.toNat_natCast, Option.isSome_some, and_self, fixB, Nat.reduceLeDiff, false_implies, true_implies, forall_const, St.le0, St.swaps, St.ren, mapV, renO, V.ren, Sc.ren, Ob.ren, swp, slsLe, obsLe, vLe, scLe, scsLe, obLe, Vq.look, Nat.reduceEqDiff, if_true, if_false, reduceCtorEq, ↓reduceIte, true_and, and_true, List.take_zero, sortN, List.foldl_nil]; and_intros <;> first | rfl | omega
  · intro k hk
    have hlen : (sortN (l.take k)).length ≤ 1048576 := by rw [sortN_len]; simp; omega
    repeat' (first
    | ((with_reducible refine z_run ?_); (conv => whnf))
    | (with_reducible apply z_t)
    | (with_reducible apply z_f)
    | ((with_reducible apply z_b); ((intro h); (try simp only [beq_self_eq_true, eq_self, not_true_eq_false, not_false_eq_true, decide_true, cond_true, cond_false, Bool.not_true, Bool.not_false, Bool.not_eq_true', Bool.not_eq_false', Bool.and_eq_true, Bool.and_eq_false_imp, Bool.or_eq_true, Bool.or_eq_false_iff, decide_eq_true_eq, decide_eq_false_iff_not, Bool.false_eq_true, reduceCtorEq, Int.not_le, Int.not_lt, Decidable.not_not] at h)); rotate_left; ((intro h); (try simp only [beq_self_eq_true, eq_self, not_true_eq_false, not_false_eq_true, decide_true, cond_true, cond_false, Bool.not_true, Bool.not_false, Bool.not_eq_true', Bool.not_eq_false', Bool.and_eq_true, Bool.and_eq_false_imp, Bool.or_eq_true, Bool.or_eq_false_iff, decide_eq_true_eq, decide_eq_false_iff_not, Bool.false_eq_true, reduceCtorEq, Int.not_le, Int.not_lt, Decidable.not_not] at h)))
    | (with_reducible refine z_r ?_ ?_)
    | (with_reducible refine z_wg ?_ ?_)
    | (with_reducible refine z_w ?_ ?_)
    | ((with_reducible apply sh_nil); (intro _))
    | ((with_reducible apply sh_int); (intro _))
    | ((with_reducible apply sh_bool); (intro _))
    | ((with_reducible apply sh_sl); (intro _))
    | ((with_reducible refine z_xf ?zc ?zx ?_); (case zc => decide +kernel); (case zx => decide +kernel))
    | (with_reducible refine z_k (put_fn _ hlen _) ?_)
    | ((with_reducible refine z_o ?zo ?_); (case zo => decide +kernel))
    | ((with_reducible refine z_x ?zx ?_); (case zx => decide +kernel))
    | ((refine z_mf (d := ?zD) (f := ?zF) (caps := ?zA) (τ := ?zT) (ps := ?zP) (cs := ?zC) ?zd ?ze ?zt ?za ?zp ?zl ?_); (case zd => exact rfl); (case ze => exact rfl); (case zt => (simp only [frzAll, frz, frzL, frzV, frzS, drp, unSs, unS, unsing, ev, Vq.look, List.map_cons, List.map_nil, List.drop_zero, List.drop_succ_cons, Nat.reduceAdd, Nat.zero_add, Option.map_some, Nat.reduceEqDiff, if_true, if_false, reduceCtorEq, ↓reduceIte]; exact rfl)); (case za => exact rfl); (case zp => exact rfl); (case zl => (simp only [unSs, unS, unsing, List.drop_zero, List.drop_succ_cons, Nat.reduceAdd, Nat.zero_add, Option.map_some, List.length_map, fillTo_zero, Int.toNat_natCast, Option.isSome_some, and_self, fixB, Nat.reduceLeDiff, false_implies, true_implies, forall_const, St.le0, St.swaps, St.ren, mapV, renO, V.ren, Sc.ren, Ob.ren, swp, slsLe, obsLe, vLe, scLe, scsLe, obLe, Vq.look, Nat.reduceEqDiff, if_true, if_false, reduceCtorEq, ↓reduceIte, true_and, and_true] <;> (and_intros <;> first | rfl | omega))))
    | fail)
    all_goals ((try simp only [Int.toNat_natCast, tn1, tp1, List.length_map, eq_self, true_and, and_true] at *); (try simp (disch := omega) only [wr, Int.toNat_natCast, tn1, tp1, List.length_map, eq_self, true_and, and_true] at *))
    all_goals (first
      | omega
      | (refine z_e rfl ?_; simp only [fin, finP, finM, ids, nodupB, tupP, tupM, memN, List.length_cons, List.length_nil, List.nil_append, List.append_nil, List.cons_append, Nat.zero_add, Nat.reduceAdd, ne_eq, not_false_eq_true, eq_self, ev, Vq.look, List.map_cons, List.map_nil, and_true, true_and, Nat.reduceEqDiff, if_true, if_false, reduceCtorEq, ↓reduceIte]; rw [List.take_of_length_le (by omega)])
      | (refine z_nr [(6, 15)] rfl (k + 1) ⟨by omega, by omega⟩ ?_; rw [sortN_take (by omega)]; simp only [List.length_map, fillTo_zero, Int.toNat_natCast, Option.isSome_some, and_self, fixB, Nat.reduceLeDiff, false_implies, true_implies, forall_const, St.le0, St.swaps, St.ren, mapV, renO, V.ren, Sc.ren, Ob.ren, swp, slsLe, obsLe, vLe, scLe, scsLe, obLe, Vq.look, Nat.reduceEqDiff, if_true, if_false, reduceCtorEq, ↓reduceIte, true_and, and_true] <;> (and_intros <;> first | rfl | omega | assumption)))
theorem isStrict_fn (l : List Int) (hl : l.length ≤ 1048576) (a b : Int) : FnC Try.prog 33 [(false, [.sq dI (l.map eI)]), (false, [.int .i64 a]), (false, [.int .i64 b])] (.one (.bool (decide (strictL l ∧ ∀ x ∈ l, a ≤ x ∧ x ≤ b)))) := by
  refine fn_z (ty := ty) (ts := [.tmp 6]) [0, 1, 2, 6, 7, 9, 10, 11, 26] mixed ty_ok Try.func33 (by kernel_rfl) rfl (by kernel_rfl) (by kernel_rfl) rfl (.inl rfl) (Nat.le_of_ble_eq_true rfl) (by simp only [entry, entryV, C.toS, Nat.zero_add, Nat.reduceAdd, List.map_cons, List.map_nil]; exact rfl) ?_
  repeat' (first
    | ((with_reducible refine z_run ?_); (conv => whnf))
    | (with_reducible apply z_t)
    | (with_reducible apply z_f)
    | ((with_reducible apply z_b); ((intro h); (try simp only [beq_self_eq_true, eq_self, not_true_eq_false, not_false_eq_true, decide_true, cond_true, cond_false, Bool.not_true, Bool.not_false, Bool.not_eq_true', Bool.not_eq_false', Bool.and_eq_true, Bool.and_eq_false_imp, Bool.or_eq_true, Bool.or_eq_false_iff, decide_eq_true_eq, decide_eq_false_iff_not, Bool.false_eq_true, reduceCtorEq, Int.not_le, Int.not_lt, Decidable.not_not] at h)); rotate_left; ((intro h); (try simp only [beq_self_eq_true, eq_self, not_true_eq_false, not_false_eq_true, decide_true, cond_true, cond_false, Bool.not_true, Bool.not_false, Bool.not_eq_true', Bool.not_eq_false', Bool.and_eq_true, Bool.and_eq_false_imp, Bool.or_eq_true, Bool.or_eq_false_iff, decide_eq_true_eq, decide_eq_false_iff_not, Bool.false_eq_true, reduceCtorEq, Int.not_le, Int.not_lt, Decidable.not_not] at h)))
    | (with_reducible refine z_r ?_ ?_)
    | (with_reducible refine z_wg ?_ ?_)
    | (with_reducible refine z_w ?_ ?_)
    | ((with_reducible apply sh_nil); (intro _))
    | ((with_reducible apply sh_int); (intro _))
    | ((with_reducible apply sh_bool); (intro _))
    | ((with_reducible apply sh_sl); (intro _))
    | ((with_reducible refine z_xf ?zc ?zx ?_); (case zc => decide +kernel); (case zx => decide +kernel))
    | ((with_reducible refine z_o ?zo ?_); (case zo => decide +kernel))
    | ((with_reducible refine z_x ?zx ?_); (case zx => decide +kernel))
    | ((refine z_mf (d := ?zD) (f := ?zF) (caps := ?zA) (τ := ?zT) (ps := ?zP) (cs := ?zC) ?zd ?ze ?zt ?za ?zp ?zl ?_); (case zd => exact rfl); (case ze => exact rfl); (case zt => (simp only [frzAll, frz, frzL, frzV, frzS, drp, unSs, unS, unsing, ev, Vq.look, List.map_cons, List.map_nil, List.drop_zero, List.drop_succ_cons, Nat.reduceAdd, Nat.zero_add, Option.map_some, Nat.reduceEqDiff, if_true, if_false, reduceCtorEq, ↓reduceIte]; exact rfl)); (case za => exact rfl); (case zp => exact rfl); (case zl => (simp only [unSs, unS, unsing, List.drop_zero, List.drop_succ_cons, Nat.reduceAdd, Nat.zero_add, Option.map_some, List.length_map, fillTo_zero, Int.toNat_natCast, Option.isSome_some, and_self, fixB, Nat.reduceLeDiff, false_implies, true_implies, forall_const, St.le0, St.swaps, St.ren, mapV, renO, V.ren, Sc.ren, Ob.ren, swp, slsLe, obsLe, vLe, scLe, scsLe, obLe, Vq.look, Nat.reduceEqDiff, if_true, if_false, reduceCtorEq, ↓reduceIte, true_and, and_true] <;> (and_intros <;> first | rfl | omega))))
    | fail)
  refine z_li (fun k => k ≤ l.length ∧ ∀ i, i < k → 0 < i → l.getD (i - 1) default < l.getD i default) (0 : Nat) (fun k => l.length - k) (fun k => ⟨[(0, .one (.ro dI (l.map eI))), (1, .one (.int .i64 a)), (2, .one (.int .i64 b)), (9, .one (.int .i64 l.length)), (10, .one (.int .i64 k))], []⟩) ⟨by omega, by omega⟩ ?_ ?_
  · simp only [List.length_map, fillTo_zero, Int.toNat_natCast, Option.isSome_some, and_self, fixB, Nat.reduceLeDiff, false_implies, true_implies, forall_const, St.le0, St.swaps, St.ren, mapV, renO, V.ren, Sc.ren, Ob.ren, swp, slsLe, obsLe, vLe, scLe, scsLe, obLe, Vq.look, Nat.reduceEqDiff, if_true, if_false, reduceCtorEq, ↓reduceIte, true_and, and_true] <;> (and_intros <;> first | rfl | omega | assumption)
  · intro k ⟨hk, hI⟩
    repeat' (first
    | ((with_reducible refine z_run ?_); (conv => whnf))
    | (with_reducible apply z_t)
    | (with_reducible apply z_f)
    | ((with_reducible apply z_b); ((intro h); (try simp only [beq_self_eq_true, eq_self, not_true_eq_false, not_false_eq_true, decide_true, cond_true, cond_false, Bool.not_true, Bool.not_false, Bool.not_eq_true', Bool.not_eq_false', Bool.and_eq_true, Bool.and_eq_false_imp, Bool.or_eq_true, Bool.or_eq_false_iff, decide_eq_true_eq, decide_eq_false_iff_not, Bool.false_eq_true, reduceCtorEq, Int.not_le, Int.not_lt, Decidable.not_not] at h)); rotate_left; ((intro h); (try simp only [beq_self_eq_true, eq_self, not_true_eq_false, not_false_eq_true, decide_true, cond_true, cond_false, Bool.not_true, Bool.not_false, Bool.not_eq_true', Bool.not_eq_false', Bool.and_eq_true, Bool.and_eq_false_imp, Bool.or_eq_true, Bool.or_eq_false_iff, decide_eq_true_eq, decide_eq_false_iff_not, Bool.false_eq_true, reduceCtorEq, Int.not_le, Int.not_lt, Decidable.not_not] at h)))
    | (with_reducible refine z_r ?_ ?_)
    | (with_reducible refine z_wg ?_ ?_)
    | (with_reducible refine z_w ?_ ?_)
    | ((with_reducible apply sh_nil); (intro _))
    | ((with_reducible apply sh_int); (intro _))
    | ((with_reducible apply sh_bool); (intro _))
    | ((with_reducible apply sh_sl); (intro _))
    | ((with_reducible refine z_xf ?zc ?zx ?_); (case zc => decide +kernel); (case zx => decide +kernel))
    | (with_reducible refine z_k (allWithin_fn _ _ _ (by omega)) ?_)
    | ((with_reducible refine z_o ?zo ?_); (case zo => decide +kernel))
    | ((with_reducible refine z_x ?zx ?_); (case zx => decide +kernel))
    | ((refine z_mf (d := ?zD) (f := ?zF) (caps := ?zA) (τ := ?zT) (ps := ?zP) (cs := ?zC) ?zd ?ze ?zt ?za ?zp ?zl ?_); (case zd => exact rfl); (case ze => exact rfl); (case zt => (simp only [frzAll, frz, frzL, frzV, frzS, drp, unSs, unS, unsing, ev, Vq.look, List.map_cons, List.map_nil, List.drop_zero, List.drop_succ_cons, Nat.reduceAdd, Nat.zero_add, Option.map_some, Nat.reduceEqDiff, if_true, if_false, reduceCtorEq, ↓reduceIte]; exact rfl)); (case za => exact rfl); (case zp => exact rfl); (case zl => (simp only [unSs, unS, unsing, List.drop_zero, List.drop_succ_cons, Nat.reduceAdd, Nat.zero_add, Option.map_some, List.length_map, fillTo_zero, Int.toNat_natCast, Option.isSome_some, and_self, fixB, Nat.reduceLeDiff, false_implies, true_implies, forall_const, St.le0, St.swaps, St.ren, mapV, renO, V.ren, Sc.ren, Ob.ren, swp, slsLe, obsLe, vLe, scLe, scsLe, obLe, Vq.look, Nat.reduceEqDiff, if_true, if_false, reduceCtorEq, ↓reduceIte, true_and, and_true] <;> (and_intros <;> first | rfl | omega))))
    | fail)
    all_goals ((try simp only [Int.toNat_natCast, tn1, tp1, List.length_map, eq_self, true_and, and_true] at *); (try simp (disch := omega) only [wr, Int.toNat_natCast, tn1, tp1, List.length_map, eq_self, true_and, and_true] at *))
    all_goals (first
      | omega
      | (refine z_n (k + 1) ⟨⟨by omega, all_succ hI (fun _ => by omega)⟩, by omega⟩ ?_; simp only [List.length_map, fillTo_zero, Int.toNat_natCast, Option.isSome_some, and_self, fixB, Nat.reduceLeDiff, false_implies, true_implies, forall_const, St.le0, St.swaps, St.ren, mapV, renO, V.ren, Sc.ren, Ob.ren, swp, slsLe, obsLe, vLe, scLe, scsLe, obLe, Vq.look, Nat.reduceEqDiff, if_true, if_false, reduceCtorEq, ↓reduceIte, true_and, and_true] <;> (and_intros <;> first | rfl | omega | assumption))
      | (refine z_e rfl ?_; simp only [fin, finP, finM, ids, nodupB, tupP, tupM, memN, List.length_cons, List.length_nil, List.nil_append, List.append_nil, List.cons_append, Nat.zero_add, Nat.reduceAdd, ne_eq, not_false_eq_true, eq_self, ev, Vq.look, List.map_cons, List.map_nil, and_true, true_and, Nat.reduceEqDiff, if_true, if_false, reduceCtorEq, ↓reduceIte]; refine decide_eq_decide.2 ⟨fun hq => ⟨fun i hi h0 => hI i (by omega) h0, hq⟩, fun hq => hq.2⟩)
      | (refine z_e rfl ?_; simp only [fin, finP, finM, ids, nodupB, tupP, tupM, memN, List.length_cons, List.length_nil, List.nil_append, List.append_nil, List.cons_append, Nat.zero_add, Nat.reduceAdd, ne_eq, not_false_eq_true, eq_self, ev, Vq.look, List.map_cons, List.map_nil, and_true, true_and, Nat.reduceEqDiff, if_true, if_false, reduceCtorEq, ↓reduceIte]; refine (decide_eq_false fun hq => ?_).symm; have := hq.1 k (by omega) (by omega); omega))
theorem indexOf_fn (l : List Int) (hl : l.length ≤ 1048576) (n : Int) : FnC Try.prog 37 [(false, [.sq dI (l.map eI)]), (false, [.int .i64 n])] (.one (.int .i64 (idxR l n))) := by
  refine fn_z (ty := ty) (ts := [.tmp 4]) [0, 1, 4, 5, 6, 7, 8, 9, 10, 16] mixed ty_ok Try.func37 (by kernel_rfl) rfl (by kernel_rfl) (by kernel_rfl) rfl (.inl rfl) (Nat.le_of_ble_eq_true rfl) (by simp only [entry, entryV, C.toS, Nat.zero_add, Nat.reduceAdd, List.map_cons, List.map_nil]; exact rfl) ?_
  repeat' (first
    | ((with_reducible refine z_run ?_); (conv => whnf))
    | (with_reducible apply z_t)
    | (with_reducible apply z_f)
    | ((with_reducible apply z_b); ((intro h); (try simp only [beq_self_eq_true, eq_self, not_true_eq_false, not_false_eq_true, decide_true, cond_true, cond_false, Bool.not_true, Bool.not_false, Bool.not_eq_true', Bool.not_eq_false', Bool.and_eq_true, Bool.and_eq_false_imp, Bool.or_eq_true, Bool.or_eq_false_iff, decide_eq_true_eq, decide_eq_false_iff_not, Bool.false_eq_true, reduceCtorEq, Int.not_le, Int.not_lt, Decidable.not_not] at h)); rotate_left; ((intro h); (try simp only [beq_self_eq_true, eq_self, not_true_eq_false, not_false_eq_true, decide_true, cond_true, cond_false, Bool.not_true, Bool.not_false, Bool.not_eq_true', Bool.not_eq_false', Bool.and_eq_true, Bool.and_eq_false_imp, Bool.or_eq_true, Bool.or_eq_false_iff, decide_eq_true_eq, decide_eq_false_iff_not, Bool.false_eq_true, reduceCtorEq, Int.not_le, Int.not_lt, Decidable.not_not] at h)))
    | (with_reducible refine z_r ?_ ?_)
    | (with_reducible refine z_wg ?_ ?_)
    | (with_reducible refine z_w ?_ ?_)
    | ((with_reducible apply sh_nil); (intro _))
    | ((with_reducible apply sh_int); (intro _))
    | ((with_reducible apply sh_bool); (intro _))
    | ((with_reducible apply sh_sl); (intro _))
    | ((with_reducible refine z_xf ?zc ?zx ?_); (case zc => decide +kernel); (case zx => decide +kernel))
    | ((with_reducible refine z_o ?zo ?_); (case zo => decide +kernel))
    | ((with_reducible refine z_x ?zx ?_); (case zx => decide +kernel))
    | ((refine z_mf (d := ?zD) (f := ?zF) (caps := ?zA) (τ := ?zT) (ps := ?zP) (cs := ?zC) ?zd ?ze ?zt ?za ?zp ?zl ?_); (case zd => exact rfl); (case ze => exact rfl); (case zt => (simp only [frzAll, frz, frzL, frzV, frzS, drp, unSs, unS, unsing, ev, Vq.look, List.map_cons, List.map_nil, List.drop_zero, List.drop_succ_cons, Nat.reduceAdd, Nat.zero_add, Option.map_some, Nat.reduceEqDiff, if_true, if_false, reduceCtorEq, ↓reduceIte]; exact rfl)); (case za => exact rfl); (case zp => exact rfl); (case zl => (simp only [unSs, unS, unsing, List.drop_zero, List.drop_succ_cons, Nat.reduceAdd, Nat.zero_add, Option.map_some, List.length_map, fillTo_zero, Int.toNat_natCast, Option.isSome_some, and_self, fixB, Nat.reduceLeDiff, false_implies, true_implies, forall_const, St.le0, St.swaps, St.ren, mapV, renO, V.ren, Sc.ren, Ob.ren, swp, slsLe, obsLe, vLe, scLe, scsLe, obLe, Vq.look, Nat.reduceEqDiff, if_true, if_false, reduceCtorEq, ↓reduceIte, true_and, and_true] <;> (and_intros <;> first | rfl | omega))))
    | fail)
  refine z_li (fun k => k ≤ l.length ∧ ∀ i, i < k → l.getD i default ≠ n) (0 : Nat) (fun k => l.length - k) (fun k => ⟨[(0, .one (.ro dI (l.map eI))), (1, .one (.int .i64 n)), (7, .one (.ro dI (l.map eI))), (8, .one (.int .i64 l.length)), (9, .one (.int .i64 k))], []⟩) ⟨by omega, by omega⟩ ?_ ?_
  · simp only [List.length_map, fillTo_zero, Int.toNat_natCast, Option.isSome_some, and_self, fixB, Nat.reduceLeDiff, false_implies, true_implies, forall_const, St.le0, St.swaps, St.ren, mapV, renO, V.ren, Sc.ren, Ob.ren, swp, slsLe, obsLe, vLe, scLe, scsLe, obLe, Vq.look, Nat.reduceEqDiff, if_true, if_false, reduceCtorEq, ↓reduceIte, true_and, and_true] <;> (and_intros <;> first | rfl | omega | assumption)
  · intro k ⟨hk, hI⟩
    repeat' (first
    | ((with_reducible refine z_run ?_); (conv => whnf))
    | (with_reducible apply z_t)
    | (with_reducible apply z_f)
    | ((with_reducible apply z_b); ((intro h); (try simp only [beq_self_eq_true, eq_self, not_true_eq_false, not_false_eq_true, decide_true, cond_true, cond_false, Bool.not_true, Bool.not_false, Bool.not_eq_true', Bool.not_eq_false', Bool.and_eq_true, Bool.and_eq_false_imp, Bool.or_eq_true, Bool.or_eq_false_iff, decide_eq_true_eq, decide_eq_false_iff_not, Bool.false_eq_true, reduceCtorEq, Int.not_le, Int.not_lt, Decidable.not_not] at h)); rotate_left; ((intro h); (try simp only [beq_self_eq_true, eq_self, not_true_eq_false, not_false_eq_true, decide_true, cond_true, cond_false, Bool.not_true, Bool.not_false, Bool.not_eq_true', Bool.not_eq_false', Bool.and_eq_true, Bool.and_eq_false_imp, Bool.or_eq_true, Bool.or_eq_false_iff, decide_eq_true_eq, decide_eq_false_iff_not, Bool.false_eq_true, reduceCtorEq, Int.not_le, Int.not_lt, Decidable.not_not] at h)))
    | (with_reducible refine z_r ?_ ?_)
    | (with_reducible refine z_wg ?_ ?_)
    | (with_reducible refine z_w ?_ ?_)
    | ((with_reducible apply sh_nil); (intro _))
    | ((with_reducible apply sh_int); (intro _))
    | ((with_reducible apply sh_bool); (intro _))
    | ((with_reducible apply sh_sl); (intro _))
    | ((with_reducible refine z_xf ?zc ?zx ?_); (case zc => decide +kernel); (case zx => decide +kernel))
    | ((with_reducible refine z_o ?zo ?_); (case zo => decide +kernel))
    | ((with_reducible refine z_x ?zx ?_); (case zx => decide +kernel))
    | ((refine z_mf (d := ?zD) (f := ?zF) (caps := ?zA) (τ := ?zT) (ps := ?zP) (cs := ?zC) ?zd ?ze ?zt ?za ?zp ?zl ?_); (case zd => exact rfl); (case ze => exact rfl); (case zt => (simp only [frzAll, frz, frzL, frzV, frzS, drp, unSs, unS, unsing, ev, Vq.look, List.map_cons, List.map_nil, List.drop_zero, List.drop_succ_cons, Nat.reduceAdd, Nat.zero_add, Option.map_some, Nat.reduceEqDiff, if_true, if_false, reduceCtorEq, ↓reduceIte]; exact rfl)); (case za => exact rfl); (case zp => exact rfl); (case zl => (simp only [unSs, unS, unsing, List.drop_zero, List.drop_succ_cons, Nat.reduceAdd, Nat.zero_add, Option.map_some, List.length_map, fillTo_zero, Int.toNat_natCast, Option.isSome_some, and_self, fixB, Nat.reduceLeDiff, false_implies, true_implies, forall_const, St.le0, St.swaps, St.ren, mapV, renO, V.ren, Sc.ren, Ob.ren, swp, slsLe, obsLe, vLe, scLe, scsLe, obLe, Vq.look, Nat.reduceEqDiff, if_true, if_false, reduceCtorEq, ↓reduceIte, true_and, and_true] <;> (and_intros <;> first | rfl | omega))))
    | fail)
    all_goals ((try simp only [Int.toNat_natCast, tn1, tp1, List.length_map, eq_self, true_and, and_true] at *); (try simp (disch := omega) only [wr, Int.toNat_natCast, tn1, tp1, List.length_map, eq_self, true_and, and_true] at *))
    all_goals (first
      | omega
      | (refine z_n (k + 1) ⟨⟨by omega, all_succ hI (by assumption)⟩, by omega⟩ ?_; simp only [List.length_map, fillTo_zero, Int.toNat_natCast, Option.isSome_some, and_self, fixB, Nat.reduceLeDiff, false_implies, true_implies, forall_const, St.le0, St.swaps, St.ren, mapV, renO, V.ren, Sc.ren, Ob.ren, swp, slsLe, obsLe, vLe, scLe, scsLe, obLe, Vq.look, Nat.reduceEqDiff, if_true, if_false, reduceCtorEq, ↓reduceIte, true_and, and_true] <;> (and_intros <;> first | rfl | omega | assumption))
      | (refine z_e rfl ?_; simp only [fin, finP, finM, ids, nodupB, tupP, tupM, memN, List.length_cons, List.length_nil, List.nil_append, List.append_nil, List.cons_append, Nat.zero_add, Nat.reduceAdd, ne_eq, not_false_eq_true, eq_self, ev, Vq.look, List.map_cons, List.map_nil, and_true, true_and, Nat.reduceEqDiff, if_true, if_false, reduceCtorEq, ↓reduceIte]; rw [idxR, if_pos (by rw [← h]; exact getD_mem (by omega)), idxOf_at (by omega) hI h])
      | (refine z_e rfl ?_; simp only [fin, finP, finM, ids, nodupB, tupP, tupM, memN, List.length_cons, List.length_nil, List.nil_append, List.append_nil, List.cons_append, Nat.zero_add, Nat.reduceAdd, ne_eq, not_false_eq_true, eq_self, ev, Vq.look, List.map_cons, List.map_nil, and_true, true_and, Nat.reduceEqDiff, if_true, if_false, reduceCtorEq, ↓reduceIte]; rw [idxR, if_neg]; intro hq; obtain ⟨j, hj, e⟩ := mem_getD hq; exact hI j (by omega) e))
theorem filter_take {l : List Int} {k : Nat} (h : k < l.length) (n : Int) : (l.take (k + 1)).filter (fun x => decide (x ≠ n)) = (l.take k).filter (fun x => decide (x ≠ n)) ++ if l.getD k default ≠ n then [l.getD k default] else [] := by
  rw [takeD h]
  generalize l.getD k default = x
  by_cases hc : x = n <;> simp [hc]
theorem without_fn (l : List Int) (hl : l.length ≤ 1048576) (n : Int) : FnC Try.prog 44 [(false, [.sq dI (l.map eI)]), (false, [.int .i64 n])] (.one (.own 3 dI ((l.filter fun x => decide (x ≠ n)).map eI))) := by
  refine fn_z (ty := ty) (ts := [.tmp 4]) [0, 1, 4, 5, 7, 9, 10, 11, 12, 17] mixed ty_ok Try.func44 (by kernel_rfl) rfl (by kernel_rfl) (by kernel_rfl) rfl (.inl rfl) (Nat.le_of_ble_eq_true rfl) (by simp only [entry, entryV, C.toS, Nat.zero_add, Nat.reduceAdd, List.map_cons, List.map_nil]; exact rfl) ?_
  repeat' (first
    | ((with_reducible refine z_run ?_); (conv => whnf))
    | (with_reducible apply z_t)
    | (with_reducible apply z_f)
    | ((with_reducible apply z_b); ((intro h); (try simp only [beq_self_eq_true, eq_self, not_true_eq_false, not_false_eq_true, decide_true, cond_true, cond_false, Bool.not_true, Bool.not_false, Bool.not_eq_true', Bool.not_eq_false', Bool.and_eq_true, Bool.and_eq_false_imp, Bool.or_eq_true, Bool.or_eq_false_iff, decide_eq_true_eq, decide_eq_false_iff_not, Bool.false_eq_true, reduceCtorEq, Int.not_le, Int.not_lt, Decidable.not_not] at h)); rotate_left; ((intro h); (try simp only [beq_self_eq_true, eq_self, not_true_eq_false, not_false_eq_true, decide_true, cond_true, cond_false, Bool.not_true, Bool.not_false, Bool.not_eq_true', Bool.not_eq_false', Bool.and_eq_true, Bool.and_eq_false_imp, Bool.or_eq_true, Bool.or_eq_false_iff, decide_eq_true_eq, decide_eq_false_iff_not, Bool.false_eq_true, reduceCtorEq, Int.not_le, Int.not_lt, Decidable.not_not] at h)))
    | (with_reducible refine z_r ?_ ?_)
    | (with_reducible refine z_wg ?_ ?_)
    | (with_reducible refine z_w ?_ ?_)
    | ((with_reducible apply sh_nil); (intro _))
    | ((with_reducible apply sh_int); (intro _))
    | ((with_reducible apply sh_bool); (intro _))
    | ((with_reducible apply sh_sl); (intro _))
    | ((with_reducible refine z_xf ?zc ?zx ?_); (case zc => decide +kernel); (case zx => decide +kernel))
    | ((with_reducible refine z_o ?zo ?_); (case zo => decide +kernel))
    | ((with_reducible refine z_x ?zx ?_); (case zx => decide +kernel))
    | ((refine z_mf (d := ?zD) (f := ?zF) (caps := ?zA) (τ := ?zT) (ps := ?zP) (cs := ?zC) ?zd ?ze ?zt ?za ?zp ?zl ?_); (case zd => exact rfl); (case ze => exact rfl); (case zt => (simp only [frzAll, frz, frzL, frzV, frzS, drp, unSs, unS, unsing, ev, Vq.look, List.map_cons, List.map_nil, List.drop_zero, List.drop_succ_cons, Nat.reduceAdd, Nat.zero_add, Option.map_some, Nat.reduceEqDiff, if_true, if_false, reduceCtorEq, ↓reduceIte]; exact rfl)); (case za => exact rfl); (case zp => exact rfl); (case zl => (simp only [unSs, unS, unsing, List.drop_zero, List.drop_succ_cons, Nat.reduceAdd, Nat.zero_add, Option.map_some, List.length_map, fillTo_zero, Int.toNat_natCast, Option.isSome_some, and_self, fixB, Nat.reduceLeDiff, false_implies, true_implies, forall_const, St.le0, St.swaps, St.ren, mapV, renO, V.ren, Sc.ren, Ob.ren, swp, slsLe, obsLe, vLe, scLe, scsLe, obLe, Vq.look, Nat.reduceEqDiff, if_true, if_false, reduceCtorEq, ↓reduceIte, true_and, and_true] <;> (and_intros <;> first | rfl | omega))))
    | fail)
  refine z_li (fun k => k ≤ l.length) (0 : Nat) (fun k => l.length - k) (fun k => ⟨[(0, .one (.ro dI (l.map eI))), (1, .one (.int .i64 n)), (5, .one (.root 8)), (9, .one (.ro dI (l.map eI))), (10, .one (.int .i64 l.length)), (11, .one (.int .i64 k))], [(8, .row 3 dI (((l.take k).filter fun x => decide (x ≠ n)).map eI))]⟩) (by omega) ?_ ?_
  · simp only [List.length_map, fillTo_zero, Int.toNat_natCast, Option.isSome_some, and_self, fixB, Nat.reduceLeDiff, false_implies, true_implies, forall_const, St.le0, St.swaps, St.ren, mapV, renO, V.ren, Sc.ren, Ob.ren, swp, slsLe, obsLe, vLe, scLe, scsLe, obLe, Vq.look, Nat.reduceEqDiff, if_true, if_false, reduceCtorEq, ↓reduceIte, true_and, and_true] <;> (and_intros <;> first | rfl | omega | assumption)
  · intro k hk
    have hlen : ((l.take k).filter fun x => decide (x ≠ n)).length ≤ k := by
      have h1 := List.length_filter_le (fun x : Int => decide (x ≠ n)) (l.take k)
      simp only [List.length_take] at h1; omega
    repeat' (first
    | ((with_reducible refine z_run ?_); (conv => whnf))
    | (with_reducible apply z_t)
    | (with_reducible apply z_f)
    | ((with_reducible apply z_b); ((intro h); (try simp only [beq_self_eq_true, eq_self, not_true_eq_false, not_false_eq_true, decide_true, cond_true, cond_false, Bool.not_true, Bool.not_false, Bool.not_eq_true', Bool.not_eq_false', Bool.and_eq_true, Bool.and_eq_false_imp, Bool.or_eq_true, Bool.or_eq_false_iff, decide_eq_true_eq, decide_eq_false_iff_not, Bool.false_eq_true, reduceCtorEq, Int.not_le, Int.not_lt, Decidable.not_not] at h)); rotate_left; ((intro h); (try simp only [beq_self_eq_true, eq_self, not_true_eq_false, not_false_eq_true, decide_true, cond_true, cond_false, Bool.not_true, Bool.not_false, Bool.not_eq_true', Bool.not_eq_false', Bool.and_eq_true, Bool.and_eq_false_imp, Bool.or_eq_true, Bool.or_eq_false_iff, decide_eq_true_eq, decide_eq_false_iff_not, Bool.false_eq_true, reduceCtorEq, Int.not_le, Int.not_lt, Decidable.not_not] at h)))
    | (with_reducible refine z_r ?_ ?_)
    | (with_reducible refine z_wg ?_ ?_)
    | (with_reducible refine z_w ?_ ?_)
    | ((with_reducible apply sh_nil); (intro _))
    | ((with_reducible apply sh_int); (intro _))
    | ((with_reducible apply sh_bool); (intro _))
    | ((with_reducible apply sh_sl); (intro _))
    | ((with_reducible refine z_xf ?zc ?zx ?_); (case zc => decide +kernel); (case zx => decide +kernel))
    | ((with_reducible refine z_o ?zo ?_); (case zo => decide +kernel))
    | ((with_reducible refine z_x ?zx ?_); (case zx => decide +kernel))
    | ((refine z_mf (d := ?zD) (f := ?zF) (caps := ?zA) (τ := ?zT) (ps := ?zP) (cs := ?zC) ?zd ?ze ?zt ?za ?zp ?zl ?_); (case zd => exact rfl); (case ze => exact rfl); (case zt => (simp only [frzAll, frz, frzL, frzV, frzS, drp, unSs, unS, unsing, ev, Vq.look, List.map_cons, List.map_nil, List.drop_zero, List.drop_succ_cons, Nat.reduceAdd, Nat.zero_add, Option.map_some, Nat.reduceEqDiff, if_true, if_false, reduceCtorEq, ↓reduceIte]; exact rfl)); (case za => exact rfl); (case zp => exact rfl); (case zl => (simp only [unSs, unS, unsing, List.drop_zero, List.drop_succ_cons, Nat.reduceAdd, Nat.zero_add, Option.map_some, List.length_map, fillTo_zero, Int.toNat_natCast, Option.isSome_some, and_self, fixB, Nat.reduceLeDiff, false_implies, true_implies, forall_const, St.le0, St.swaps, St.ren, mapV, renO, V.ren, Sc.ren, Ob.ren, swp, slsLe, obsLe, vLe, scLe, scsLe, obLe, Vq.look, Nat.reduceEqDiff, if_true, if_false, reduceCtorEq, ↓reduceIte, true_and, and_true] <;> (and_intros <;> first | rfl | omega))))
    | fail)
    all_goals ((try simp only [Int.toNat_natCast, tn1, tp1, List.length_map, eq_self, true_and, and_true] at *); (try simp (disch := omega) only [wr, Int.toNat_natCast, tn1, tp1, List.length_map, eq_self, true_and, and_true] at *))
    all_goals (first
      | omega
      | (simp only [List.length_append, List.length_map, List.length_cons, List.length_nil]; omega)
      | (refine z_e rfl ?_; simp only [fin, finP, finM, ids, nodupB, tupP, tupM, memN, List.length_cons, List.length_nil, List.nil_append, List.append_nil, List.cons_append, Nat.zero_add, Nat.reduceAdd, ne_eq, not_false_eq_true, eq_self, ev, Vq.look, List.map_cons, List.map_nil, and_true, true_and, Nat.reduceEqDiff, if_true, if_false, reduceCtorEq, ↓reduceIte]; rw [List.take_of_length_le (by omega)])
      | (refine z_n (k + 1) ⟨by omega, by omega⟩ ?_; rw [filter_take (by omega), if_pos (by assumption), List.map_append]; simp only [List.length_map, fillTo_zero, Int.toNat_natCast, Option.isSome_some, and_self, fixB, Nat.reduceLeDiff, false_implies, true_implies, forall_const, St.le0, St.swaps, St.ren, mapV, renO, V.ren, Sc.ren, Ob.ren, swp, slsLe, obsLe, vLe, scLe, scsLe, obLe, Vq.look, Nat.reduceEqDiff, if_true, if_false, reduceCtorEq, ↓reduceIte, true_and, and_true] <;> (and_intros <;> first | rfl | omega | assumption))
      | (refine z_n (k + 1) ⟨by omega, by omega⟩ ?_; rw [filter_take (by omega), if_neg (by omega), List.append_nil]; simp only [List.length_map, fillTo_zero, Int.toNat_natCast, Option.isSome_some, and_self, fixB, Nat.reduceLeDiff, false_implies, true_implies, forall_const, St.le0, St.swaps, St.ren, mapV, renO, V.ren, Sc.ren, Ob.ren, swp, slsLe, obsLe, vLe, scLe, scsLe, obLe, Vq.look, Nat.reduceEqDiff, if_true, if_false, reduceCtorEq, ↓reduceIte, true_and, and_true] <;> (and_intros <;> first | rfl | omega | assumption)))
end Go.Proofs.Ytgoimoadaeijkaa
