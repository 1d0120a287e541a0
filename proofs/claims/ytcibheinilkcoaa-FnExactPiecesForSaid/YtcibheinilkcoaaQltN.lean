/- Pieces of quilts: plain mathematics. No conditions. -/
import Derived.Test.YtcibheinilkcoaaQltC
import Derived.Test.YtcibheinilkcoaaBlkW
import Derived.Test.YtcibheinilkcoaaBlkA
namespace Go.Proofs.Ytcibheinilkcoaa
open Go.Vq
set_option linter.unusedSimpArgs false
set_option maxHeartbeats 1000000
theorem sumP_take {φ : TCell → Int} {c : List TCell} {k : Nat} (h : k < c.length) : sumP φ (c.take (k + 1)) = sumP φ (c.take k) + φ (c.getD k default) := by
  rw [takeD h, sumP, sumP, List.map_append, List.sum_append]; simp
theorem sumP_bds {φ : TCell → Int} {u : Int} (h : ∀ t, 0 ≤ φ t ∧ φ t ≤ u) (c : List TCell) : 0 ≤ sumP φ c ∧ sumP φ c ≤ u * c.length := by
  unfold sumP
  induction c with
  | nil => simp
  | cons t c ih =>
    have := h t
    simp only [List.map_cons, List.sum_cons, List.length_cons]
    rw [show u * ((c.length + 1 : Nat) : Int) = u * c.length + u by rw [Int.natCast_add, Int.mul_add]; simp]
    omega
def tri1 (t : TCell) : Int := if t.1 = 0 then 0 else 2
theorem tri1_bd (t : TCell) : 0 ≤ tri1 t ∧ tri1 t ≤ 2 := by unfold tri1; split <;> omega
theorem tri_turn {t : TCell} (h : cellOk t) : tri1 (turnC t) = tri1 t := by
  unfold tri1 turnC
  rw [if_pos h]
  by_cases e1 : t.1 = 1
  · rw [if_pos e1, if_neg (by dsimp only; omega), if_neg (by omega)]
  · rw [if_neg e1]
    by_cases e2 : t.1 = 2
    · rw [if_pos e2, if_neg (by dsimp only; omega), if_neg (by omega)]
    · rw [if_neg e2]
theorem tri_mir {t : TCell} (h : cellOk t) : tri1 (mirC t) = tri1 t := by
  have := h.1
  unfold tri1 mirC
  rw [if_pos h]
  by_cases e : t.1 = 0
  · rw [if_pos e, if_pos e]
  · rw [if_neg e, if_neg e, if_neg (by dsimp only; omega)]
def triR (n : Int) (c : List TCell) : Int := if blkOk n c then sumP tri1 c else -1
def pcN (b : TBlk) : Int := b.2.length + (triR b.1 b.2).tdiv 2
theorem pcN_seen {b : TBlk} (h : bOk b) {k : Int} (hk : 0 ≤ k ∧ k ≤ 7) : pcN (seenB b k) = pcN b := by
  have h2 := (seenB_ok h hk).1
  have hb : blkOk b.1 b.2 := h
  have hs : blkOk (seenB b k).1 (seenB b k).2 := h2
  rw [pcN, pcN, triR, if_pos hs, triR, if_pos hb, seenB_len' h hk, sumP_seenB h (fun t => tri_turn) (fun t => tri_mir) hk]
theorem triR_bd {b : TBlk} (h : bOk b) : 0 ≤ triR b.1 b.2 ∧ triR b.1 b.2 ≤ 32 := by
  have hb : blkOk b.1 b.2 := h
  rw [triR, if_pos hb]
  have h1 := sumP_bds tri1_bd b.2
  have := blk_len hb
  omega
theorem pcN_bd {b : TBlk} (h : bOk b) : 0 ≤ pcN b ∧ pcN b ≤ 32 := by
  have h1 := triR_bd h
  have h2 := blk_len h
  unfold pcN
  rw [Int.tdiv_eq_ediv_of_nonneg h1.1]
  omega
/-! ### how often the blocks are shown -/
def cntS (sp : List TSpot) (i : Nat) : Int := ((sp.countP fun s => decide (s.1 = (i : Int)) : Nat) : Int)
theorem cntS_bd (sp : List TSpot) (i : Nat) : 0 ≤ cntS sp i ∧ cntS sp i ≤ sp.length := by
  have := List.countP_le_length (p := fun s : TSpot => decide (s.1 = (i : Int))) (l := sp)
  unfold cntS; omega
def useK (sp : List TSpot) (m : Nat) (k : Nat) : List Int := (List.range m).map fun i => cntS (sp.take k) i
theorem useK_len (sp : List TSpot) (m k : Nat) : (useK sp m k).length = m := by simp [useK]
theorem useK_get (sp : List TSpot) {m k i : Nat} (h : i < m) : (useK sp m k).getD i default = cntS (sp.take k) i := by simp [useK, List.getD, h]
theorem useK_zero (sp : List TSpot) (m : Nat) : useK sp m 0 = List.replicate m 0 := by
  unfold useK
  refine List.ext_getElem (by simp) fun i h1 h2 => ?_
  simp [cntS]
theorem useK_succ {sp : List TSpot} {m k : Nat} (hk : k < sp.length) (h0 : 0 ≤ (sp.getD k default).1) : (useK sp m k).set (sp.getD k default).1.toNat ((useK sp m k).getD (sp.getD k default).1.toNat default + 1) = useK sp m (k + 1) := by
  refine List.ext_getElem (by simp [useK]) fun i h1 h2 => ?_
  have hi : i < m := by simpa [useK] using h2
  have e : cntS (sp.take (k + 1)) i = cntS (sp.take k) i + if (sp.getD k default).1 = (i : Int) then 1 else 0 := by
    rw [takeD hk]; unfold cntS; rw [List.countP_append, List.countP_singleton]
    by_cases h : (sp.getD k default).1 = (i : Int)
    · rw [if_pos h, if_pos (by simpa using h)]; simp
    · rw [if_neg h, if_neg (by simpa using h)]; simp
  have e2 : (useK sp m (k + 1))[i] = cntS (sp.take (k + 1)) i := by simp [useK]
  have e3 : (useK sp m k)[i]'(by rw [useK_len]; exact hi) = cntS (sp.take k) i := by simp [useK]
  rw [e2, e, List.getElem_set]
  by_cases h : (sp.getD k default).1 = (i : Int)
  · rw [if_pos (by omega), if_pos h, show (sp.getD k default).1.toNat = i by omega, useK_get sp hi]
  · rw [if_neg (by omega), if_neg h, e3]; omega
def usum (sp : List TSpot) (f : Nat → Int) : Nat → Int
  | 0 => 0
  | i + 1 => usum sp f i + cntS sp i * f i
theorem usum_cons (s : TSpot) (sp : List TSpot) (f : Nat → Int) (h0 : 0 ≤ s.1) : ∀ m, usum (s :: sp) f m = usum sp f m + if s.1.toNat < m then f s.1.toNat else 0
  | 0 => by simp [usum]
  | i + 1 => by
    have ih := usum_cons s sp f h0 i
    have e : cntS (s :: sp) i = cntS sp i + if s.1 = (i : Int) then 1 else 0 := by
      unfold cntS; rw [List.countP_cons]
      by_cases h : s.1 = (i : Int)
      · rw [if_pos (by simpa using h), if_pos h]; simp
      · rw [if_neg (by simpa using h), if_neg h]; simp
    simp only [usum]
    rw [ih, e]
    by_cases h : s.1 = (i : Int)
    · rw [if_pos h, if_neg (by omega), if_pos (by omega), show s.1.toNat = i by omega, Int.add_mul]; omega
    · rw [if_neg h]
      by_cases h2 : s.1.toNat < i
      · rw [if_pos h2, if_pos (by omega), Int.add_zero (cntS sp i)]; omega
      · rw [if_neg h2, if_neg (by omega), Int.add_zero (cntS sp i)]; omega
theorem usum_all (f : Nat → Int) (m : Nat) : ∀ sp : List TSpot, (∀ s ∈ sp, 0 ≤ s.1 ∧ s.1 < m) → usum sp f m = (sp.map fun s => f s.1.toNat).sum
  | [], _ => by
    have : ∀ i, usum [] f i = 0 := fun i => by
      induction i with
      | zero => rfl
      | succ i ih => simp [usum, ih, cntS]
    simp [this]
  | s :: sp, h => by
    have hs := h s (by simp)
    rw [usum_cons s sp f hs.1, usum_all f m sp fun t ht => h t (by simp [ht]), if_pos (by omega)]
    simp only [List.map_cons, List.sum_cons]; omega
def shL (sp : List TSpot) (bs : List TBlk) (k : Nat) : List TBlk := (sp.take k).map fun s => seenB (bs.getD s.1.toNat default) s.2
theorem shL_len (sp : List TSpot) (bs : List TBlk) {k : Nat} (h : k ≤ sp.length) : (shL sp bs k).length = k := by simp [shL]; omega
theorem shL_succ {sp : List TSpot} (bs : List TBlk) {k : Nat} (h : k < sp.length) : shL sp bs (k + 1) = shL sp bs k ++ [seenB (bs.getD (sp.getD k default).1.toNat default) (sp.getD k default).2] := by
  unfold shL; rw [takeD h, List.map_append]; rfl
theorem shL_get {sp : List TSpot} (bs : List TBlk) {k : Nat} (h : k < sp.length) : (shL sp bs sp.length).getD k default = seenB (bs.getD (sp.getD k default).1.toNat default) (sp.getD k default).2 := by
  unfold shL
  have e : sp.getD k default = sp[k] := by rw [List.getD_eq_getElem?_getD, List.getElem?_eq_getElem h]; rfl
  rw [e, List.take_of_length_le (Nat.le_refl _), List.getD_eq_getElem?_getD (l := sp.map _), List.getElem?_map, List.getElem?_eq_getElem h]; rfl
theorem shL_c (sp : List TSpot) (bs : List TBlk) (k i : Nat) : ((shL sp bs k).getD i default).2.length ≤ 16 := by
  by_cases h : i < (shL sp bs k).length
  · have := getD_mem (l := shL sp bs k) (k := i) h
    obtain ⟨s, hs, e⟩ := List.mem_map.1 this
    rw [← e]; exact seenB_len _ _
  · rw [List.getD_eq_getElem?_getD, List.getElem?_eq_none (by omega)]; exact Nat.zero_le _
theorem qOk_blk {w g : Int} {sp : List TSpot} {bs : List TBlk} (h : qOk w g sp bs) {i : Nat} (hi : i < bs.length) : bOk (bs.getD i default) := (h.2.2 _ (getD_mem hi)).1
theorem qOk_spot {w g : Int} {sp : List TSpot} {bs : List TBlk} (h : qOk w g sp bs) {k : Nat} (hk : k < sp.length) : (0 ≤ (sp.getD k default).1 ∧ (sp.getD k default).1 < bs.length) ∧ 0 ≤ (sp.getD k default).2 ∧ (sp.getD k default).2 ≤ 7 := by
  have := h.1.2.2.2 _ (getD_mem hk)
  unfold spotOk at this; omega
theorem qOk_len {w g : Int} {sp : List TSpot} {bs : List TBlk} (h : qOk w g sp bs) : 1 ≤ sp.length ∧ sp.length ≤ 36 := by
  have h1 := wg_wrap h.1.1 h.1.2.1
  have h2 := h.1.2.2.1
  omega
/-- the sum of a number over what is shown -/
def shS (q : TBlk → Int) (sp : List TSpot) (bs : List TBlk) (k : Nat) : Int := ((shL sp bs k).map q).sum
theorem shS_succ (q : TBlk → Int) {sp : List TSpot} (bs : List TBlk) {k : Nat} (h : k < sp.length) : shS q sp bs (k + 1) = shS q sp bs k + q (seenB (bs.getD (sp.getD k default).1.toNat default) (sp.getD k default).2) := by
  unfold shS; rw [shL_succ bs h, List.map_append, List.sum_append]; simp
theorem shS_eq {w g : Int} {sp : List TSpot} {bs : List TBlk} (h : qOk w g sp bs) (q : TBlk → Int) (hq : ∀ b, bOk b → ∀ k, 0 ≤ k ∧ k ≤ 7 → q (seenB b k) = q b) : shS q sp bs sp.length = usum sp (fun i => q (bs.getD i default)) bs.length := by
  have hs : ∀ s ∈ sp, (0 ≤ s.1 ∧ s.1 < bs.length) ∧ 0 ≤ s.2 ∧ s.2 ≤ 7 := fun s hs => by
    have := h.1.2.2.2 s hs
    unfold spotOk at this; omega
  rw [usum_all _ _ sp fun s h => (hs s h).1, shS, shL, List.take_of_length_le (Nat.le_refl _), List.map_map]
  congr 1
  refine List.map_congr_left fun s hm => ?_
  obtain ⟨⟨h1, h2⟩, h3⟩ := hs s hm
  exact hq _ (qOk_blk h (by omega)) _ h3
theorem shS_bd {w g : Int} {sp : List TSpot} {bs : List TBlk} (h : qOk w g sp bs) (q : TBlk → Int) {u : Int} (hq : ∀ b, bOk b → 0 ≤ q b ∧ q b ≤ u) : ∀ k : Nat, k ≤ sp.length → 0 ≤ shS q sp bs k ∧ shS q sp bs k ≤ u * k
  | 0, _ => by simp [shS, shL]
  | k + 1, hk => by
    have ih := shS_bd h q hq k (by omega)
    obtain ⟨h1, h2⟩ := qOk_spot h (k := k) (by omega)
    have := hq _ (seenB_ok (qOk_blk h (i := (sp.getD k default).1.toNat) (by omega)) h2).1
    rw [shS_succ q bs (by omega), show u * ((k + 1 : Nat) : Int) = u * k + u by rw [Int.natCast_add, Int.mul_add]; simp]
    omega
theorem usum_bdm (sp : List TSpot) (f : Nat → Int) {u : Int} (hl : sp.length ≤ 36) (m : Nat) (hf : ∀ i, i < m → 0 ≤ f i ∧ f i ≤ u) : ∀ k : Nat, k ≤ m → 0 ≤ usum sp f k ∧ usum sp f k ≤ 36 * u * k
  | 0, _ => by simp [usum]
  | k + 1, hk => by
    have ih := usum_bdm sp f hl m hf k (by omega)
    have h1 := cntS_bd sp k
    have h2 := hf k (by omega)
    have h3 : 0 ≤ cntS sp k * f k := Int.mul_nonneg h1.1 h2.1
    have h4 : cntS sp k * f k ≤ 36 * u := Int.mul_le_mul (by omega) h2.2 h2.1 (by omega)
    simp only [usum]
    rw [show 36 * u * ((k + 1 : Nat) : Int) = 36 * u * k + 36 * u by rw [Int.natCast_add, Int.mul_add]; simp]
    omega
theorem usum_bd6 {w g : Int} {sp : List TSpot} {bs : List TBlk} (h : qOk w g sp bs) (q : TBlk → Int) {u : Int} (hq : ∀ b, bOk b → 0 ≤ q b ∧ q b ≤ u) (k : Nat) (hk : k ≤ bs.length) : 0 ≤ usum sp (fun i => q (bs.getD i default)) k ∧ usum sp (fun i => q (bs.getD i default)) k ≤ 36 * u * k :=
  usum_bdm sp _ (qOk_len h).2 bs.length (fun i hi => hq _ (qOk_blk h hi)) k hk
end Go.Proofs.Ytcibheinilkcoaa
