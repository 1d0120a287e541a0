/- Plain mathematics of offers and purchases. No conditions. -/
import Derived.Test.YtloeibdplgcgbaaCvOffer
namespace Go.Proofs.Ytloeibdplgcgbaa
open Go.Vq
def goodO (c s p : Int) : Prop := (0 ≤ c ∧ c ≤ 5) ∧ (1 ≤ s ∧ s ≤ 1000) ∧ (0 ≤ p ∧ p ≤ 10000)
instance (c s p : Int) : Decidable (goodO c s p) := by unfold goodO; infer_instance
def stepsV (s n : Int) : Int := (n + s - 1) / s
theorem stepsV_bd {s n : Int} (hs : 1 ≤ s ∧ s ≤ 1000) (hn : 0 ≤ n ∧ n ≤ 1000000) : 0 ≤ stepsV s n ∧ stepsV s n ≤ 1000000 := by
  unfold stepsV
  refine ⟨Int.ediv_nonneg (by omega) (by omega), ?_⟩
  have h1 : n * 1 ≤ n * s := Int.mul_le_mul_of_nonneg_left hs.1 hn.1
  have h2 : (n + s - 1) / s < n + 1 := Int.ediv_lt_of_lt_mul (by omega) (by rw [Int.add_mul]; omega)
  omega
def stepsR (c s p n : Int) : Int := if goodO c s p ∧ 0 ≤ n ∧ n ≤ 1000000 then stepsV s n else -1
def costA (l : List TOffer) (n : Int) (i : Nat) : Int := stepsV (l.getD i default).2.1 n * (l.getD i default).2.2
def bestI (l : List TOffer) (a n : Int) : Nat → Int
  | 0 => -1
  | k + 1 => if (l.getD k default).1 = a ∧ (bestI l a n k < 0 ∨ costA l n k < costA l n (bestI l a n k).toNat) then k else bestI l a n k
theorem bestI_bd (l : List TOffer) (a n : Int) : ∀ k, -1 ≤ bestI l a n k ∧ bestI l a n k < k
  | 0 => by simp [bestI]
  | k + 1 => by
    have := bestI_bd l a n k
    simp only [bestI]
    split <;> omega
def leastI (l : List TOffer) (a n : Int) (k : Nat) : Int := if bestI l a n k < 0 then 0 else costA l n (bestI l a n k).toNat
def goodAt (l : List TOffer) (i : Nat) : Prop := goodO (l.getD i default).1 (l.getD i default).2.1 (l.getD i default).2.2
instance (l : List TOffer) (i : Nat) : Decidable (goodAt l i) := by unfold goodAt; infer_instance
def offersGood (l : List TOffer) (n : Int) : Prop := l.length ≤ 20 ∧ (0 ≤ n ∧ n ≤ 1000000) ∧ ∀ i, i < l.length → goodAt l i
instance (l : List TOffer) (n : Int) : Decidable (offersGood l n) := by unfold offersGood; infer_instance
def cheapR (l : List TOffer) (a n : Int) : Int := if offersGood l n then bestI l a n l.length else -1
theorem cheapR_bd (l : List TOffer) (a n : Int) : -1 ≤ cheapR l a n ∧ cheapR l a n < l.length := by
  unfold cheapR
  split
  · exact bestI_bd l a n l.length
  · omega
theorem mul_bd {x y A B : Int} (hx : 0 ≤ x ∧ x ≤ A) (hy : 0 ≤ y ∧ y ≤ B) : 0 ≤ x * y ∧ x * y ≤ A * B :=
  ⟨Int.mul_nonneg hx.1 hy.1, Int.mul_le_mul hx.2 hy.2 hy.1 (Int.le_trans hx.1 hx.2)⟩
theorem costA_bd {l : List TOffer} {n : Int} {i : Nat} (hg : goodAt l i) (hn : 0 ≤ n ∧ n ≤ 1000000) : 0 ≤ costA l n i ∧ costA l n i ≤ 10000000000 := by
  unfold goodAt goodO at hg
  exact mul_bd (B := 10000) (stepsV_bd hg.2.1 hn) hg.2.2
theorem steps_cost {l : List TOffer} {n : Int} {k : Nat} (hg : goodAt l k) (hn : 0 ≤ n ∧ n ≤ 1000000) : IntKind.i64.wrap (stepsR (l.getD k default).1 (l.getD k default).2.1 (l.getD k default).2.2 n * (l.getD k default).2.2) = costA l n k := by
  have hb := costA_bd hg hn
  rw [stepsR, if_pos ⟨hg, hn⟩]
  exact wr ⟨by unfold costA at hb; omega, by unfold costA at hb; omega⟩
theorem best_no {l : List TOffer} {a n : Int} {k : Nat} (h : ¬((l.getD k default).1 = a ∧ (bestI l a n k < 0 ∨ costA l n k < leastI l a n k))) : bestI l a n (k + 1) = bestI l a n k ∧ leastI l a n (k + 1) = leastI l a n k := by
  have e : bestI l a n (k + 1) = bestI l a n k := by
    simp only [bestI]
    rw [if_neg]
    rintro ⟨h1, h2⟩
    refine h ⟨h1, ?_⟩
    by_cases h0 : bestI l a n k < 0
    · exact .inl h0
    · right
      rw [leastI, if_neg h0]
      exact h2.resolve_left h0
  exact ⟨e, by simp only [leastI, e]⟩
theorem best_yes {l : List TOffer} {a n : Int} {k : Nat} (h1 : (l.getD k default).1 = a) (h2 : bestI l a n k < 0 ∨ costA l n k < leastI l a n k) : bestI l a n (k + 1) = k ∧ leastI l a n (k + 1) = costA l n k := by
  have e : bestI l a n (k + 1) = k := by
    simp only [bestI]
    rw [if_pos]
    refine ⟨h1, ?_⟩
    by_cases h0 : bestI l a n k < 0
    · exact .inl h0
    · right
      rw [leastI, if_neg h0] at h2
      exact h2.resolve_left h0
  refine ⟨e, ?_⟩
  rw [leastI, e, if_neg (by omega)]; rfl
/-! ### what is bought for a lack -/
def stockGood (s : List Int) : Prop := s.length = 6 ∧ ∀ x ∈ s, 0 ≤ x ∧ x ≤ 1000000
instance (s : List Int) : Decidable (stockGood s) := by unfold stockGood; infer_instance
def pk (l : List TOffer) (q : List Int) (a : Nat) : Int := cheapR l a (q.getD a default)
def canBuy (l : List TOffer) (q : List Int) (k : Nat) : Prop := ∀ a, a < k → q.getD a default ≠ 0 → 0 ≤ pk l q a
instance (l : List TOffer) (q : List Int) (k : Nat) : Decidable (canBuy l q k) := by unfold canBuy; infer_instance
def costK (l : List TOffer) (q : List Int) : Nat → Int
  | 0 => 0
  | a + 1 => costK l q a + if q.getD a default = 0 then 0 else costA l (q.getD a default) (pk l q a).toNat
def leftA (l : List TOffer) (q : List Int) (a : Nat) : Int := if q.getD a default = 0 then 0 else stepsV (l.getD (pk l q a).toNat default).2.1 (q.getD a default) * (l.getD (pk l q a).toNat default).2.1 - q.getD a default
/-- where there is an offer, it is a good one -/
theorem pk_good {l : List TOffer} {q : List Int} {a : Nat} (h : 0 ≤ pk l q a) : offersGood l (q.getD a default) ∧ (pk l q a).toNat < l.length ∧ goodAt l (pk l q a).toNat := by
  have hb := cheapR_bd l a (q.getD a default)
  have hp : pk l q a = cheapR l a (q.getD a default) := rfl
  by_cases hg : offersGood l (q.getD a default)
  · refine ⟨hg, by omega, hg.2.2 _ (by omega)⟩
  · unfold cheapR at hp
    rw [if_neg hg] at hp
    omega
theorem costK_bd {l : List TOffer} {q : List Int} (k : Nat) (h : canBuy l q k) : 0 ≤ costK l q k ∧ costK l q k ≤ 10000000000 * k := by
  induction k with
  | zero => simp [costK]
  | succ k ih =>
    have := ih (fun a ha => h a (by omega))
    simp only [costK]
    split
    · omega
    · rename_i hq
      obtain ⟨h1, h2, h3⟩ := pk_good (h k (by omega) hq)
      have := costA_bd h3 h1.2.1
      omega
def costR (l : List TOffer) (q : List Int) : Int := if stockGood q ∧ canBuy l q 6 then costK l q 6 else -1
def leftR (l : List TOffer) (q : List Int) : List Int := if stockGood q ∧ canBuy l q 6 then (List.range 6).map (leftA l q) else []
/-! ### cloth -/
def takeR (s : List Int) (a x : Int) : List Int × Bool := if stockGood s ∧ (0 ≤ a ∧ a ≤ 5) ∧ 0 ≤ x ∧ x ≤ s.getD a.toNat default then (s.set a.toNat (s.getD a.toNat default - x), true) else (s, false)
def addR (s : List Int) (a x : Int) : List Int × Bool := if stockGood s ∧ (0 ≤ a ∧ a ≤ 5) ∧ 0 ≤ x ∧ s.getD a.toNat default + x ≤ 1000000 then (s.set a.toNat (s.getD a.toNat default + x), true) else (s, false)
end Go.Proofs.Ytloeibdplgcgbaa
