/- First uses of colors: plain mathematics. No conditions. -/
import Derived.Test.YtaipkkbpgdpffaaBlkC
import Derived.Test.YtaipkkbpgdpffaaSort
namespace Go.Proofs.Ytaipkkbpgdpffaa
open Go.Vq
set_option linter.unusedSimpArgs false
set_option maxHeartbeats 1000000
def stepF (l : List Int) (a : Int) : List Int := if a ∈ l then l else l ++ [a]
def ordF (S : List Int) : List Int := S.foldl stepF []
theorem ordF_app (S : List Int) (a : Int) : ordF (S ++ [a]) = stepF (ordF S) a := by simp [ordF]
theorem ordF_no {S : List Int} {a : Int} (h : a ∉ ordF S) : ordF (S ++ [a]) = ordF S ++ [a] := by rw [ordF_app, stepF, if_neg h]
theorem ordF_yes {S : List Int} {a : Int} (h : a ∈ ordF S) : ordF (S ++ [a]) = ordF S := by rw [ordF_app, stepF, if_pos h]
theorem idxR_iff {l : List Int} {n : Int} : 0 ≤ idxR l n ↔ n ∈ l := by unfold idxR; split <;> simp [*]
theorem snoc_ind {p : List Int → Prop} (h0 : p []) (h1 : ∀ l a, p l → p (l ++ [a])) (l : List Int) : p l := by
  have : ∀ r : List Int, p r.reverse := fun r => by
    induction r with
    | nil => exact h0
    | cons a r ih => rw [List.reverse_cons]; exact h1 _ _ ih
  have := this l.reverse
  rwa [List.reverse_reverse] at this
theorem ordF_mem (S : List Int) : ∀ a, a ∈ ordF S ↔ a ∈ S := by
  refine snoc_ind (p := fun S => ∀ a, a ∈ ordF S ↔ a ∈ S) (by simp [ordF]) (fun l b ih a => ?_) S
  rw [ordF_app, stepF]
  split
  · rename_i h
    rw [ih a, List.mem_append, List.mem_singleton]
    exact ⟨.inl, fun hh => hh.elim id fun e => e ▸ (ih b).1 h⟩
  · rw [List.mem_append, ih a, List.mem_append]
theorem ordF_nodup (S : List Int) : (ordF S).Nodup := by
  refine snoc_ind (p := fun S => (ordF S).Nodup) (by simp [ordF]) (fun l b ih => ?_) S
  rw [ordF_app, stepF]
  split
  · exact ih
  · rename_i h
    exact List.nodup_append.2 ⟨ih, by simp, fun a ha c hc e => by rw [List.mem_singleton.1 hc] at e; exact h (e ▸ ha)⟩
def six : List Int := [0, 1, 2, 3, 4, 5]
theorem six_mem {a : Int} : a ∈ six ↔ 0 ≤ a ∧ a ≤ 5 := by simp [six]; omega
theorem len6 {l : List Int} (h : l.Nodup) (h2 : ∀ a, a ∈ l ↔ 0 ≤ a ∧ a ≤ 5) : l.length = 6 :=
  ((List.perm_ext_iff_of_nodup h (by decide : six.Nodup)).2 fun a => (h2 a).trans six_mem.symm).length_eq
theorem len_le6 {l : List Int} (h : l.Nodup) (h2 : ∀ a ∈ l, 0 ≤ a ∧ a ≤ 5) : l.length ≤ 6 := by
  have e := ordF_nodup (l ++ six)
  have hl := len6 e fun a => by
    rw [ordF_mem, List.mem_append, six_mem]
    exact ⟨fun hh => hh.elim (h2 a) id, .inr⟩
  have hsub : ∀ S T : List Int, (ordF S).length ≤ (ordF (S ++ T)).length := fun S T => by
    refine snoc_ind (p := fun T => (ordF S).length ≤ (ordF (S ++ T)).length) (by simp) (fun t b ih => ?_) T
    rw [← List.append_assoc, ordF_app, stepF]
    split
    · exact ih
    · rw [List.length_append]; omega
  have hid : ordF l = l := by
    have : ∀ S : List Int, S.Nodup → ordF S = S := fun S => by
      refine snoc_ind (p := fun S => S.Nodup → ordF S = S) (by simp [ordF]) (fun t b ih hn => ?_) S
      have hn2 := List.nodup_append.1 hn
      rw [ordF_app, ih hn2.1, stepF, if_neg fun hm => hn2.2.2 b hm b (by simp) rfl]
    exact this l h
  have := hsub l six
  rw [hid] at this
  omega
def seqC (c : List TCell) : List Int := c.flatMap fun t => [t.2.1, t.2.2]
theorem seqC_len (c : List TCell) : (seqC c).length = 2 * c.length := by
  unfold seqC
  induction c with
  | nil => rfl
  | cons t c ih => rw [List.flatMap_cons, List.length_append, ih]; simp; omega
theorem seqC_take {c : List TCell} {k : Nat} (h : k < c.length) : seqC (c.take (k + 1)) = seqC (c.take k) ++ [(c.getD k default).2.1, (c.getD k default).2.2] := by
  rw [takeD h]; unfold seqC; rw [List.flatMap_append]; simp
theorem seqC_get : ∀ {c : List TCell} {k : Nat}, k < 2 * c.length → (seqC c).getD k default = if k % 2 = 1 then (c.getD (k / 2) default).2.2 else (c.getD (k / 2) default).2.1
  | [], k, h => by simp at h
  | t :: c, 0, _ => by simp [seqC]
  | t :: c, 1, _ => by simp [seqC]
  | t :: c, k + 2, h => by
    have ih := seqC_get (c := c) (k := k) (by simp at h; omega)
    rw [show (seqC (t :: c)) = t.2.1 :: t.2.2 :: seqC c by simp [seqC], show (k + 2) % 2 = k % 2 by omega, show (k + 2) / 2 = k / 2 + 1 by omega]
    simpa using ih
theorem seqC_mem {n : Int} {c : List TCell} (h : blkOk n c) : ∀ a ∈ seqC c, 0 ≤ a ∧ a ≤ 5 := by
  intro a ha
  obtain ⟨t, ht, hm⟩ := List.mem_flatMap.1 ha
  have hc := h.2.2 t ht
  simp only [List.mem_cons, List.not_mem_nil, or_false] at hm
  rcases hm with rfl | rfl
  · exact hc.2.1
  · exact hc.2.2.1
def rngI (k : Nat) : List Int := (List.range k).map fun i : Nat => (i : Int)
theorem rngI_succ (k : Nat) : rngI (k + 1) = rngI k ++ [(k : Int)] := by simp [rngI, List.range_succ]
theorem rngI6 : rngI 6 = six := by decide
def useO (c : List TCell) : List Int := ordF (seqC c ++ rngI 6)
theorem useO_mem {n : Int} {c : List TCell} (h : blkOk n c) : ∀ a, a ∈ useO c ↔ 0 ≤ a ∧ a ≤ 5 := fun a => by
  rw [useO, ordF_mem, List.mem_append, rngI6, six_mem]
  exact ⟨fun hh => hh.elim (seqC_mem h a) id, .inr⟩
theorem useO_len {n : Int} {c : List TCell} (h : blkOk n c) : (useO c).length = 6 := len6 (ordF_nodup _) (useO_mem h)
def idxL (l : List Int) : List Int := (List.range 6).map fun a : Nat => ((l.idxOf (a : Int) : Nat) : Int)
def useF (n : Int) (c : List TCell) : List Int := if blkOk n c then idxL (useO c) else []
theorem useF_len (n : Int) (c : List TCell) : (useF n c).length ≤ 6 := by
  unfold useF; split <;> simp [idxL]
/-- an exchange -/
def isEx (l : List Int) : Prop := l.length = 6 ∧ l.Nodup ∧ ∀ x ∈ l, 0 ≤ x ∧ x ≤ 5
instance (l : List Int) : Decidable (isEx l) := by unfold isEx; infer_instance
theorem isEx_sort (l : List Int) : (l.length = 6 ∧ strictL (sortN l) ∧ ∀ x ∈ sortN l, 0 ≤ x ∧ x ≤ 5) ↔ isEx l := by
  rw [strict_sort, isEx]
  exact ⟨fun h => ⟨h.1, h.2.1, fun x hx => h.2.2 x ((sortN_perm l).mem_iff.2 hx)⟩, fun h => ⟨h.1, h.2.1, fun x hx => h.2.2 x ((sortN_perm l).mem_iff.1 hx)⟩⟩
theorem useO_ex {n : Int} {c : List TCell} (h : blkOk n c) : isEx (useO c) := ⟨useO_len h, ordF_nodup _, fun x hx => (useO_mem h x).1 hx⟩
theorem isEx_mem {l : List Int} (h : isEx l) {a : Int} (ha : 0 ≤ a ∧ a ≤ 5) : a ∈ l := by
  have e := ordF_nodup (l ++ six)
  have hl := len6 e fun a => by
    rw [ordF_mem, List.mem_append, six_mem]
    exact ⟨fun hh => hh.elim (h.2.2 a) id, .inr⟩
  have hid : ∀ S : List Int, S.Nodup → ordF S = S := fun S => by
    refine snoc_ind (p := fun S => S.Nodup → ordF S = S) (by simp [ordF]) (fun t b ih hn => ?_) S
    have hn2 := List.nodup_append.1 hn
    rw [ordF_app, ih hn2.1, stepF, if_neg fun hm => hn2.2.2 b hm b (by simp) rfl]
  have hpre : ∀ T : List Int, ∃ r, ordF (l ++ T) = l ++ r := fun T => by
    refine snoc_ind (p := fun T => ∃ r, ordF (l ++ T) = l ++ r) ⟨[], by simp [hid l h.2.1]⟩ (fun t b ⟨r, hr⟩ => ?_) T
    rw [← List.append_assoc, ordF_app, hr, stepF]
    split
    · exact ⟨r, rfl⟩
    · exact ⟨r ++ [b], by simp⟩
  obtain ⟨r, hr⟩ := hpre six
  have hr0 : r = [] := by
    have := congrArg List.length hr
    rw [hl, List.length_append, h.1] at this
    exact List.eq_nil_of_length_eq_zero (by omega)
  have := (ordF_mem (l ++ six) a).2 (List.mem_append.2 (.inr (six_mem.2 ha)))
  rwa [hr, hr0, List.append_nil] at this
/-- the list that undoes an exchange, and how it is filled -/
def undK (l : List Int) (k : Nat) : List Int := (List.range 6).map fun a : Nat => if (a : Int) ∈ l.take k then ((l.idxOf (a : Int) : Nat) : Int) else 0
theorem undK_len (l : List Int) (k : Nat) : (undK l k).length = 6 := by simp [undK]
theorem undK_zero (l : List Int) : undK l 0 = [0, 0, 0, 0, 0, 0] := by simp [undK]; decide
theorem idxOf_getD {l : List Int} (h : l.Nodup) {k : Nat} (hk : k < l.length) : l.idxOf (l.getD k default) = k := idxOf_at hk (fun i hi => nodup_getD.1 h k hk i hi) rfl
theorem undK_succ {l : List Int} (h : isEx l) {k : Nat} (hk : k < l.length) : (undK l k).set (l.getD k default).toNat k = undK l (k + 1) := by
  have hb := h.2.2 _ (getD_mem hk)
  have hi := idxOf_getD h.2.1 hk
  refine List.ext_getElem (by simp [undK]) fun i h1 h2 => ?_
  have hi6 : i < 6 := by simpa [undK] using h2
  rw [List.getElem_set]
  simp only [undK, List.getElem_map, List.getElem_range, takeD hk, List.mem_append, List.mem_singleton]
  by_cases e : (i : Int) = l.getD k default
  · rw [if_pos (by omega), if_pos (.inr e), e, hi]
  · rw [if_neg (by omega)]
    by_cases e2 : (i : Int) ∈ l.take k
    · rw [if_pos e2, if_pos (.inl e2)]
    · rw [if_neg e2, if_neg fun hh => hh.elim e2 e]
theorem undK_all {l : List Int} (h : isEx l) {k : Nat} (hk : l.length ≤ k) : undK l k = idxL l := by
  unfold undK idxL
  refine List.map_congr_left fun a ha => ?_
  have := List.mem_range.1 ha
  rw [List.take_of_length_le hk, if_pos (isEx_mem h (by omega))]
def undR (l : List Int) : List Int := if isEx l then idxL l else []
theorem useF_und (n : Int) (c : List TCell) (h : blkOk n c) : undR (useO c) = useF n c := by rw [undR, if_pos (useO_ex h), useF, if_pos h]
/-- the list by first uses, as it is filled -/
def fuO (l : List Int) : List Int := (List.range 6).map fun a : Nat => if (a : Int) ∈ l then ((l.idxOf (a : Int) : Nat) : Int) else -1
theorem fuO_len (l : List Int) : (fuO l).length = 6 := by simp [fuO]
theorem fuO_get (l : List Int) {a : Int} (h : 0 ≤ a ∧ a ≤ 5) : (fuO l).getD a.toNat default = if a ∈ l then ((l.idxOf a : Nat) : Int) else -1 := by
  obtain ⟨k, rfl⟩ : ∃ k : Nat, a = k := ⟨a.toNat, by omega⟩
  rw [Int.toNat_natCast]
  have : k < 6 := by omega
  simp [fuO, List.getD, this]
theorem fuO_neg (l : List Int) {a : Int} (h : 0 ≤ a ∧ a ≤ 5) : (fuO l).getD a.toNat default < 0 ↔ a ∉ l := by
  rw [fuO_get l h]
  split <;> simp [*] <;> omega
theorem fuO_set {l : List Int} {a : Int} (h : 0 ≤ a ∧ a ≤ 5) (hn : a ∉ l) : (fuO l).set a.toNat l.length = fuO (l ++ [a]) := by
  refine List.ext_getElem (by simp [fuO]) fun i h1 h2 => ?_
  rw [List.getElem_set]
  simp only [fuO, List.getElem_map, List.getElem_range, List.mem_append, List.mem_singleton]
  by_cases e : (i : Int) = a
  · rw [if_pos (by omega), if_pos (.inr e), e, List.idxOf_append, if_neg hn]; simp
  · rw [if_neg (by omega)]
    by_cases e2 : (i : Int) ∈ l
    · rw [if_pos e2, if_pos (.inl e2), List.idxOf_append, if_pos e2]
    · rw [if_neg e2, if_neg (by simp [e2, e])]
theorem fuO_step {l : List Int} {a : Int} (h : 0 ≤ a ∧ a ≤ 5) (hn : a ∉ l) : (fuO l).set a.toNat l.length = fuO (stepF l a) ∧ (stepF l a).length = l.length + 1 := by
  rw [stepF, if_neg hn]; exact ⟨fuO_set h hn, by simp⟩
theorem fuO_all {l : List Int} (h : ∀ a, a ∈ l ↔ 0 ≤ a ∧ a ≤ 5) : fuO l = idxL l := by
  unfold fuO idxL
  refine List.map_congr_left fun a ha => ?_
  have := List.mem_range.1 ha
  rw [if_pos ((h a).2 (by omega))]
end Go.Proofs.Ytaipkkbpgdpffaa
