/- Plain mathematics of members. No conditions. -/
import Derived.Test.YtjaeandgeefpdaaCvMember
import Derived.Test.YtjaeandgeefpdaaInts
namespace Go.Proofs.Ytjaeandgeefpdaa
open Go.Vq
def memAt (l : List TMember) (i : Nat) : Prop := (1 ≤ (l.getD i default).1 ∧ (l.getD i default).1 ≤ 999) ∧ (1900 ≤ (l.getD i default).2.1 ∧ (l.getD i default).2.1 ≤ 2999) ∧ ((l.getD i default).2.1 - 1 ≤ (l.getD i default).2.2 ∧ (l.getD i default).2.2 ≤ 2999) ∧ (0 < i → (l.getD (i - 1) default).1 < (l.getD i default).1)
instance (l : List TMember) (i : Nat) : Decidable (memAt l i) := by unfold memAt; infer_instance
def memOk (l : List TMember) : Prop := l.length ≤ 40 ∧ ∀ i, i < l.length → memAt l i
instance (l : List TMember) : Decidable (memOk l) := by unfold memOk; infer_instance
/-- the first of the oldest among the first k -/
def sen (l : List TMember) : Nat → Nat
  | 0 => 0
  | k + 1 => if (l.getD k default).2.1 < (l.getD (sen l k) default).2.1 then k else sen l k
theorem sen_lt (l : List TMember) : ∀ k, 0 < k → sen l k < k
  | 0, h => by omega
  | k + 1, _ => by
    simp only [sen]
    split
    · omega
    · rcases Nat.eq_zero_or_pos k with h | h
      · subst h; simp [sen]
      · have := sen_lt l k h; omega
def senS (l : List TMember) (k : Nat) : Int := if k = 0 then -1 else sen l k
theorem senS_succ (l : List TMember) (k : Nat) : senS l (k + 1) = if k = 0 ∨ (l.getD k default).2.1 < (l.getD (senS l k).toNat default).2.1 then (k : Int) else senS l k := by
  rcases Nat.eq_zero_or_pos k with h | h
  · subst h; simp [senS, sen]
  · have e : senS l k = sen l k := by rw [senS, if_neg (by omega)]
    rw [e, senS, if_neg (by omega), Int.toNat_natCast]
    simp only [sen]
    by_cases hc : (l.getD k default).2.1 < (l.getD (sen l k) default).2.1
    · rw [if_pos hc, if_pos (.inr hc)]
    · rw [if_neg hc, if_neg (by omega)]
theorem senS_bd (l : List TMember) (k : Nat) : (k = 0 → senS l k = -1) ∧ (0 < k → 0 ≤ senS l k ∧ senS l k < k) := by
  refine ⟨fun h => by rw [senS, if_pos h], fun h => ?_⟩
  have := sen_lt l k h
  rw [senS, if_neg (by omega)]; omega
def seniorR (l : List TMember) : Int := if memOk l ∧ l.length ≠ 0 then (l.getD (sen l l.length) default).1 else -1
def owedL (l : List TMember) (y : Int) : List Int := l.map fun m => if y - m.2.2 > 0 then y - m.2.2 else 0
def owedR (l : List TMember) (y : Int) : List Int := if memOk l ∧ 1900 ≤ y ∧ y ≤ 2999 then owedL l y else []
def goodL (l : List TMember) (y : Int) : List Int := (l.filter fun m => decide (y ≤ m.2.2)).map (·.1)
def goodR (l : List TMember) (y : Int) : List Int := if memOk l then goodL l y else []
/-- where a new number goes -/
def posI (l : List TMember) (num : Int) : Nat := (l.takeWhile fun m => decide (m.1 < num)).length
theorem posI_le (l : List TMember) (num : Int) : posI l num ≤ l.length := (List.takeWhile_sublist _).length_le
theorem posI_step (l : List TMember) (num : Int) : ∀ k, k < l.length → (∀ i, i < k → (l.getD i default).1 < num) → ¬ (l.getD k default).1 < num → posI l num = k := by
  induction l with
  | nil => intro k h; simp at h
  | cons m l ih =>
    intro k hk hI hn
    cases k with
    | zero =>
      have : ¬ m.1 < num := by simpa using hn
      simp [posI, this]
    | succ k =>
      have h0 : m.1 < num := by simpa using hI 0 (by omega)
      have := ih k (by simpa using hk) (fun i hi => by simpa using hI (i + 1) (by omega)) (by simpa using hn)
      simp only [posI, List.takeWhile_cons, h0, decide_true, if_true, List.length_cons] at this ⊢
      omega
theorem posI_all (l : List TMember) (num : Int) (hI : ∀ i, i < l.length → (l.getD i default).1 < num) : posI l num = l.length := by
  induction l with
  | nil => rfl
  | cons m l ih =>
    have h0 : m.1 < num := by simpa using hI 0 (by simp)
    have := ih (fun i hi => by simpa using hI (i + 1) (by simpa using hi))
    simp only [posI, List.takeWhile_cons, h0, decide_true, if_true, List.length_cons] at this ⊢
    omega
def joinL (l : List TMember) (num y : Int) : List TMember := l.take (posI l num) ++ [(num, y, IntKind.i64.wrap (y - 1))] ++ l.drop (posI l num)
def joinR (l : List TMember) (num y : Int) : List TMember × Bool := if memOk l ∧ memOk (joinL l num y) then (joinL l num y, true) else (l, false)
theorem join_year {l : List TMember} {num y : Int} (h : memOk (joinL l num y)) : 1900 ≤ y ∧ y ≤ 2999 := by
  have hp := posI_le l num
  have hlen : (l.take (posI l num)).length = posI l num := by simp; omega
  have := h.2 (posI l num) (by simp [joinL]; omega)
  have e : (joinL l num y).getD (posI l num) default = (num, y, IntKind.i64.wrap (y - 1)) := by
    unfold joinL
    rw [List.append_assoc, List.getD, List.getElem?_append_right (by omega), hlen, Nat.sub_self]
    rfl
  unfold memAt at this
  rw [e] at this
  exact this.2.1
def pay1 (num yrs : Int) (m : TMember) : TMember := if m.1 = num then (m.1, m.2.1, IntKind.i64.wrap (m.2.2 + yrs)) else m
def hasNum (l : List TMember) (num : Int) : Prop := ∃ m ∈ l, m.1 = num
instance (l : List TMember) (num : Int) : Decidable (hasNum l num) := by unfold hasNum; infer_instance
def payR (l : List TMember) (num yrs : Int) : List TMember × Bool := if memOk l ∧ (1 ≤ yrs ∧ yrs ≤ 10) ∧ hasNum l num ∧ memOk (l.map (pay1 num yrs)) then (l.map (pay1 num yrs), true) else (l, false)
end Go.Proofs.Ytjaeandgeefpdaa
