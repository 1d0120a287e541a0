/- Part Zd of the small logic: slices that are marked with numbers that rise. No conditions. -/
import Derived.Test.YtcibheinilkcoaaVcZc
namespace Go.Vq
open Go.RowKit
/-- things that are marked from k on, n numbers each -/
def mkL {α : Type} (f : Int → α) (n k : Int) (len : Nat) : List α := (List.range len).map fun j : Nat => f (k + n * (j : Int))
section
variable {α : Type} (f : Int → α) (n k : Int)
theorem mkL_len (len : Nat) : (mkL f n k len).length = len := by simp [mkL]
theorem mkL_getD [Inhabited α] {len i : Nat} (h : i < len) : (mkL f n k len).getD i default = f (k + n * i) := by
  simp [mkL, List.getD, h]
theorem mkL_succ (len : Nat) : mkL f n k (len + 1) = mkL f n k len ++ [f (k + n * len)] := by
  simp [mkL, List.range_succ]
theorem mk_set {l : List α} {i : Nat} (h : i < l.length) : (mkL f n k i ++ l.drop i).set i (f (k + n * i)) = mkL f n k (i + 1) ++ l.drop (i + 1) := by
  rw [List.set_append, if_neg (by rw [mkL_len]; omega), mkL_len, Nat.sub_self, mkL_succ, List.drop_eq_getElem_cons h, List.set_cons_zero, List.append_assoc]
  rfl
theorem mk_all (l : List α) {i : Nat} (h : l.length ≤ i) (hi : i ≤ l.length) : mkL f n k i ++ l.drop i = mkL f n k l.length := by
  obtain rfl : i = l.length := by omega
  simp
theorem mk_len {l : List α} {i : Nat} (hi : i ≤ l.length) : (mkL f n k i ++ l.drop i).length = l.length := by
  simp [mkL_len]; omega
end
theorem put_map {α : Type} [Inhabited α] {L : List α} {i : Nat} (hi : i < L.length) {e : α → List C} {off : Nat} {p : List C} (x : α) (h : putC off p (e (L.getD i default)) = e x) :
    (L.map e).set i (putC off p ((L.map e).getD i [])) = (L.set i x).map e := by
  have e1 : (L.map e).getD i [] = e (L.getD i default) := by simp [List.getD, hi]
  rw [e1, h, List.map_set]
theorem getD_set {α : Type} [Inhabited α] {L : List α} {i : Nat} (hi : i < L.length) (x : α) : (L.set i x).getD i default = x := by
  simp [List.getD, hi]
theorem set_map {α β : Type} (e : α → β) (L : List α) (i : Nat) (x : α) : (L.map e).set i (e x) = (L.set i x).map e := by rw [List.map_set]
theorem setD_get {β : Type} {L : List β} {i : Nat} (hi : i < L.length) (x d : β) : (L.set i x).getD i d = x := by
  simp [List.getD, hi]
theorem map_getD {α : Type} [Inhabited α] {L : List α} {i : Nat} (hi : i < L.length) (e : α → List C) : (L.map e).getD i [] = e (L.getD i default) := by
  simp [List.getD, hi]
end Go.Vq
