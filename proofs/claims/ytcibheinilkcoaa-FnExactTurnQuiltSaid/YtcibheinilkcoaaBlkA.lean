/- Turned and mirrored blocks: plain mathematics. No conditions. -/
import Derived.Test.YtcibheinilkcoaaBlkV
namespace Go.Proofs.Ytcibheinilkcoaa
open Go.Vq
set_option linter.unusedSimpArgs false
set_option maxHeartbeats 1000000
theorem madeL_getD (n : Nat) (g : Nat → Nat → TCell) : ∀ (y x : Nat), x ≤ n → madeL n g y x = (List.range (y * n + x)).map fun k => g (k / n) (k % n) := by
  have one : ∀ y x, x ≤ n → (madeL n g y 0 = (List.range (y * n)).map fun k => g (k / n) (k % n)) → madeL n g y x = (List.range (y * n + x)).map fun k => g (k / n) (k % n) := by
    intro y x hx h0
    induction x with
    | zero => exact h0
    | succ x ih =>
      rw [madeL_succ, ih (by omega), show y * n + (x + 1) = (y * n + x) + 1 by omega, List.range_succ, List.map_append]
      congr 1
      simp only [List.map_cons, List.map_nil]
      rw [Nat.mul_comm y n, Nat.mul_add_div (by omega), Nat.div_eq_of_lt (by omega), Nat.mul_add_mod, Nat.mod_eq_of_lt (by omega)]
      simp
  intro y
  induction y with
  | zero => intro x hx; exact one 0 x hx (by simp [madeL])
  | succ y ih =>
    intro x hx
    refine one (y + 1) x hx ?_
    rw [madeL_next, ih n (Nat.le_refl _)]
    congr 2
    rw [Nat.succ_mul]
theorem turnC_ok {t : TCell} (h : cellOk t) : cellOk (turnC t) := by
  obtain ⟨h1, h2, h3, h4⟩ := h
  unfold turnC
  rw [if_pos ⟨h1, h2, h3, h4⟩]
  split
  · rename_i h5; exact ⟨by dsimp only; omega, h3, h2, by dsimp only; omega⟩
  · split
    · rename_i h5; exact ⟨by dsimp only; omega, h2, h3, by dsimp only; omega⟩
    · exact ⟨h1, h2, h3, h4⟩
theorem mirC_ok {t : TCell} (h : cellOk t) : cellOk (mirC t) := by
  obtain ⟨h1, h2, h3, h4⟩ := h
  unfold mirC
  rw [if_pos ⟨h1, h2, h3, h4⟩]
  split
  · exact ⟨h1, h2, h3, h4⟩
  · exact ⟨by dsimp only; omega, h3, h2, by dsimp only; omega⟩
/-- where the cell k of a turned block comes from -/
def rI (m k : Nat) : Nat := (m - 1 - k % m) * m + k / m
def mI (m k : Nat) : Nat := k / m * m + (m - 1 - k % m)
theorem side4 {m : Nat} (h : 1 ≤ m ∧ m ≤ 4) {p : Nat → Prop} (h1 : p 1) (h2 : p 2) (h3 : p 3) (h4 : p 4) : p m := by
  obtain ⟨ha, hb⟩ := h
  have : m = 1 ∨ m = 2 ∨ m = 3 ∨ m = 4 := by omega
  rcases this with rfl | rfl | rfl | rfl <;> assumption
theorem rI_lt {m : Nat} (h : 1 ≤ m ∧ m ≤ 4) : ∀ k, k < m * m → rI m k < m * m := side4 (p := fun m => ∀ k, k < m * m → rI m k < m * m) h (by decide) (by decide) (by decide) (by decide)
theorem mI_lt {m : Nat} (h : 1 ≤ m ∧ m ≤ 4) : ∀ k, k < m * m → mI m k < m * m := side4 (p := fun m => ∀ k, k < m * m → mI m k < m * m) h (by decide) (by decide) (by decide) (by decide)
theorem blkN {n : Int} {c : List TCell} (h : blkOk n c) : ∃ m : Nat, n = m ∧ (1 ≤ m ∧ m ≤ 4) ∧ c.length = m * m := by
  have h1 := h.1
  have h2 := h.2.1
  refine ⟨n.toNat, by omega, by omega, ?_⟩
  obtain ⟨m, rfl⟩ : ∃ m : Nat, n = m := ⟨n.toNat, by omega⟩
  rw [Int.toNat_natCast]
  exact_mod_cast h2
theorem blk_get {n : Int} {c : List TCell} (h : blkOk n c) {k : Nat} (hk : k < c.length) : cellOk (c.getD k default) := h.2.2 _ (getD_mem hk)
theorem turnR_eq {m : Nat} {c : List TCell} (h : blkOk m c) : turnR m c = (List.range (m * m)).map fun k => turnC (c.getD (rI m k) default) := by
  obtain ⟨m', e, hm, hl⟩ := blkN h
  obtain rfl : m = m' := by omega
  rw [turnR, if_pos h, Int.toNat_natCast, madeL_getD m _ m 0 (by omega), Nat.add_zero]
  refine List.map_congr_left fun k hk => ?_
  have hk := List.mem_range.1 hk
  have h1 : k % m < m := Nat.mod_lt _ (by omega)
  have h2 : k / m < m := Nat.div_lt_of_lt_mul (by omega)
  have z1 := Int.natCast_nonneg (k / m)
  have z3 : ((k / m : Nat) : Int) < m := by exact_mod_cast h2
  have z5 : ((m : Int) - 1 - ((k % m : Nat) : Int)) = ((m - 1 - k % m : Nat) : Int) := by omega
  rw [turnG, cellAt, if_pos ⟨h, ⟨z1, by omega⟩, ⟨by omega, by omega⟩⟩, z5, ← Int.natCast_mul, ← Int.natCast_add, Int.toNat_natCast]
  rfl
theorem mirR_eq {m : Nat} {c : List TCell} (h : blkOk m c) : mirR m c = (List.range (m * m)).map fun k => mirC (c.getD (mI m k) default) := by
  obtain ⟨m', e, hm, hl⟩ := blkN h
  obtain rfl : m = m' := by omega
  rw [mirR, if_pos h, Int.toNat_natCast, madeL_getD m _ m 0 (by omega), Nat.add_zero]
  refine List.map_congr_left fun k hk => ?_
  have hk := List.mem_range.1 hk
  have h1 : k % m < m := Nat.mod_lt _ (by omega)
  have h2 : k / m < m := Nat.div_lt_of_lt_mul (by omega)
  have z1 := Int.natCast_nonneg (k / m)
  have z3 : ((k / m : Nat) : Int) < m := by exact_mod_cast h2
  have z5 : ((m : Int) - 1 - ((k % m : Nat) : Int)) = ((m - 1 - k % m : Nat) : Int) := by omega
  rw [mirG, cellAt, if_pos ⟨h, ⟨by omega, by omega⟩, ⟨z1, by omega⟩⟩, z5, ← Int.natCast_mul, ← Int.natCast_add, Int.toNat_natCast]
  rfl
theorem turnB_eq {m : Nat} {c : List TCell} (h : blkOk m c) : turnB (m, c) = ((m : Int), (List.range (m * m)).map fun k => turnC (c.getD (rI m k) default)) := by
  rw [turnB, sizeR, if_pos h, turnR_eq h]
theorem mirB_eq {m : Nat} {c : List TCell} (h : blkOk m c) : mirB (m, c) = ((m : Int), (List.range (m * m)).map fun k => mirC (c.getD (mI m k) default)) := by
  rw [mirB, sizeR, if_pos h, mirR_eq h]
theorem map_ok {m : Nat} {q : TCell → TCell} (hq : ∀ t, cellOk t → cellOk (q t)) {c : List TCell} (h : blkOk m c) {f : Nat → Nat} (hf : ∀ k, k < m * m → f k < m * m) : blkOk m ((List.range (m * m)).map fun k => q (c.getD (f k) default)) := by
  obtain ⟨m', e, hm, hl⟩ := blkN h
  obtain rfl : m = m' := by omega
  refine ⟨h.1, by simp, fun t ht => ?_⟩
  obtain ⟨k, hk, rfl⟩ := List.mem_map.1 ht
  exact hq _ (blk_get h (by rw [hl]; exact hf k (List.mem_range.1 hk)))
def bOk (b : TBlk) : Prop := blkOk b.1 b.2
theorem turnB_ok {b : TBlk} (h : bOk b) : bOk (turnB b) ∧ (turnB b).1 = b.1 := by
  obtain ⟨n, c⟩ := b
  obtain ⟨m, rfl, hm, hl⟩ := blkN h
  rw [turnB_eq h]
  exact ⟨map_ok (fun _ => turnC_ok) h (rI_lt hm), rfl⟩
theorem mirB_ok {b : TBlk} (h : bOk b) : bOk (mirB b) ∧ (mirB b).1 = b.1 := by
  obtain ⟨n, c⟩ := b
  obtain ⟨m, rfl, hm, hl⟩ := blkN h
  rw [mirB_eq h]
  exact ⟨map_ok (fun _ => mirC_ok) h (mI_lt hm), rfl⟩
theorem turnN_ok {b : TBlk} (h : bOk b) (k : Nat) : bOk (turnN k b) ∧ (turnN k b).1 = b.1 := by
  induction k with
  | zero => exact ⟨h, rfl⟩
  | succ k ih => exact ⟨(turnB_ok ih.1).1, (turnB_ok ih.1).2.trans ih.2⟩
theorem startB_ok {b : TBlk} (h : bOk b) (k : Int) : bOk (startB b k) ∧ (startB b k).1 = b.1 := by
  unfold startB
  split
  · exact ⟨h, rfl⟩
  · exact mirB_ok h
theorem seenB_ok {b : TBlk} (h : bOk b) {k : Int} (hk : 0 ≤ k ∧ k ≤ 7) : bOk (seenB b k) ∧ (seenB b k).1 = b.1 := by
  rw [seenB, if_pos ⟨h, hk⟩]
  have h1 := startB_ok h k
  have h2 := turnN_ok h1.1 (k % 4).toNat
  exact ⟨h2.1, h2.2.trans h1.2⟩
/-! ### sums over cells -/
def sumP (φ : TCell → Int) (c : List TCell) : Int := (c.map φ).sum
theorem sum_perm {l l' : List Int} (h : l.Perm l') : l.sum = l'.sum := by
  induction h with
  | nil => rfl
  | cons x _ ih => simp [ih]
  | swap x y l => simp only [List.sum_cons]; omega
  | trans _ _ h1 h2 => exact h1.trans h2
theorem sumP_idx {m : Nat} {c : List TCell} (hl : c.length = m * m) (φ : TCell → Int) (f : Nat → Nat) (hp : ((List.range (m * m)).map f).Perm (List.range (m * m))) : ((List.range (m * m)).map fun k => φ (c.getD (f k) default)).sum = sumP φ c := by
  have e1 : ((List.range (m * m)).map fun k => φ (c.getD (f k) default)) = ((List.range (m * m)).map f).map fun i => φ (c.getD i default) := by simp
  have e2 : c.map φ = (List.range (m * m)).map fun i => φ (c.getD i default) := by
    rw [← hl]
    refine List.ext_getElem (by simp) fun i h1 h2 => ?_
    simp only [List.getElem_map, List.getElem_range]
    rw [List.getD_eq_getElem?_getD, List.getElem?_eq_getElem (by simpa using h1)]; rfl
  rw [e1, sumP, e2]
  exact sum_perm (hp.map _)
theorem rI_perm {m : Nat} (h : 1 ≤ m ∧ m ≤ 4) : ((List.range (m * m)).map (rI m)).Perm (List.range (m * m)) := side4 (p := fun m => ((List.range (m * m)).map (rI m)).Perm (List.range (m * m))) h (by decide) (by decide) (by decide) (by decide)
theorem mI_perm {m : Nat} (h : 1 ≤ m ∧ m ≤ 4) : ((List.range (m * m)).map (mI m)).Perm (List.range (m * m)) := side4 (p := fun m => ((List.range (m * m)).map (mI m)).Perm (List.range (m * m))) h (by decide) (by decide) (by decide) (by decide)
theorem sumP_q {m : Nat} {c : List TCell} (h : blkOk m c) {φ : TCell → Int} {q : TCell → TCell} (hq : ∀ t, cellOk t → φ (q t) = φ t) {f : Nat → Nat} (hf : ∀ k, k < m * m → f k < m * m) (hp : ((List.range (m * m)).map f).Perm (List.range (m * m))) : sumP φ ((List.range (m * m)).map fun k => q (c.getD (f k) default)) = sumP φ c := by
  obtain ⟨m', e, hm, hl⟩ := blkN h
  obtain rfl : m = m' := by omega
  rw [← sumP_idx hl φ f hp, sumP, List.map_map]
  congr 1
  refine List.map_congr_left fun k hk => ?_
  exact hq _ (blk_get h (by rw [hl]; exact hf k (List.mem_range.1 hk)))
theorem sumP_turnB {b : TBlk} (h : bOk b) {φ : TCell → Int} (hq : ∀ t, cellOk t → φ (turnC t) = φ t) : sumP φ (turnB b).2 = sumP φ b.2 := by
  obtain ⟨n, c⟩ := b
  obtain ⟨m, rfl, hm, hl⟩ := blkN h
  rw [turnB_eq h]
  exact sumP_q h hq (rI_lt hm) (rI_perm hm)
theorem sumP_mirB {b : TBlk} (h : bOk b) {φ : TCell → Int} (hq : ∀ t, cellOk t → φ (mirC t) = φ t) : sumP φ (mirB b).2 = sumP φ b.2 := by
  obtain ⟨n, c⟩ := b
  obtain ⟨m, rfl, hm, hl⟩ := blkN h
  rw [mirB_eq h]
  exact sumP_q h hq (mI_lt hm) (mI_perm hm)
theorem sumP_turnN {b : TBlk} (h : bOk b) {φ : TCell → Int} (hq : ∀ t, cellOk t → φ (turnC t) = φ t) (k : Nat) : sumP φ (turnN k b).2 = sumP φ b.2 := by
  induction k with
  | zero => rfl
  | succ k ih => exact (sumP_turnB (turnN_ok h k).1 hq).trans ih
theorem sumP_seenB {b : TBlk} (h : bOk b) {φ : TCell → Int} (hq : ∀ t, cellOk t → φ (turnC t) = φ t) (hr : ∀ t, cellOk t → φ (mirC t) = φ t) {k : Int} (hk : 0 ≤ k ∧ k ≤ 7) : sumP φ (seenB b k).2 = sumP φ b.2 := by
  rw [seenB, if_pos ⟨h, hk⟩, sumP_turnN (startB_ok h k).1 hq]
  unfold startB
  split
  · rfl
  · exact sumP_mirB h hr
theorem bOk_len {b d : TBlk} (h : bOk b) (h' : bOk d) (e : b.1 = d.1) : b.2.length = d.2.length := by
  have h1 := h.2.1
  have h2 := h'.2.1
  rw [e] at h1
  omega
theorem seenB_len' {b : TBlk} (h : bOk b) {k : Int} (hk : 0 ≤ k ∧ k ≤ 7) : (seenB b k).2.length = b.2.length := bOk_len (seenB_ok h hk).1 h (seenB_ok h hk).2
end Go.Proofs.Ytcibheinilkcoaa
