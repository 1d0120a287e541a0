/- Plain mathematics of bookings. No conditions. -/
import Derived.Test.YtodjdpdnamfkjaaCvBooking
import Derived.Test.YtodjdpdnamfkjaaInts
namespace Go.Proofs.Ytodjdpdnamfkjaa
open Go.Vq
/-- a booking: its day, from, to, its sum -/
def bookAt (l : List TBooking) (i : Nat) : Prop := (0 ≤ (l.getD i default).1 ∧ (l.getD i default).1 ≤ 9999) ∧ (0 ≤ (l.getD i default).2.1 ∧ (l.getD i default).2.1 ≤ 4) ∧ (0 ≤ (l.getD i default).2.2.1 ∧ (l.getD i default).2.2.1 ≤ 4) ∧ (l.getD i default).2.1 ≠ (l.getD i default).2.2.1 ∧ (1 ≤ (l.getD i default).2.2.2 ∧ (l.getD i default).2.2.2 ≤ 100000) ∧ (0 < i → (l.getD (i - 1) default).1 ≤ (l.getD i default).1)
instance (l : List TBooking) (i : Nat) : Decidable (bookAt l i) := by unfold bookAt; infer_instance
def ledOk (l : List TBooking) : Prop := l.length ≤ 60 ∧ ∀ i, i < l.length → bookAt l i
instance (l : List TBooking) : Decidable (ledOk l) := by unfold ledOk; infer_instance
def bal1 (a : Int) (b : TBooking) : Int := (if b.2.2.1 = a then b.2.2.2 else 0) - (if b.2.1 = a then b.2.2.2 else 0)
def balK (l : List TBooking) (a : Int) : Nat → Int
  | 0 => 0
  | k + 1 => balK l a k + bal1 a (l.getD k default)
theorem balK_bd {l : List TBooking} {a : Int} (h : ledOk l) : ∀ k, k ≤ l.length → -(100000 * (k : Int)) ≤ balK l a k ∧ balK l a k ≤ 100000 * k
  | 0, _ => by simp [balK]
  | k + 1, hk => by
    have ih := balK_bd (a := a) h k (by omega)
    have hb := h.2 k (by omega)
    unfold bookAt at hb
    simp only [balK, bal1]
    split <;> split <;> omega
def balR (l : List TBooking) (a : Int) : Int := if ledOk l then balK l a l.length else 0
def balsR (l : List TBooking) : List Int := if ledOk l then (List.range 5).map fun a : Nat => balR l (a : Int) else []
def mov1 (f t : Int) (b : TBooking) : Int := if b.2.1 = f ∧ b.2.2.1 = t then b.2.2.2 else 0
def movK (l : List TBooking) (f t : Int) : Nat → Int
  | 0 => 0
  | k + 1 => movK l f t k + mov1 f t (l.getD k default)
theorem movK_bd {l : List TBooking} {f t : Int} (h : ledOk l) : ∀ k, k ≤ l.length → 0 ≤ movK l f t k ∧ movK l f t k ≤ 100000 * k
  | 0, _ => by simp [movK]
  | k + 1, hk => by
    have ih := movK_bd (f := f) (t := t) h k (by omega)
    have hb := h.2 k (by omega)
    unfold bookAt at hb
    simp only [movK, mov1]
    split <;> omega
def movR (l : List TBooking) (f t : Int) : Int := if ledOk l then movK l f t l.length else 0
def bookR (l : List TBooking) (b : TBooking) : List TBooking × Bool := if ledOk l ∧ ledOk (l ++ [b]) then (l ++ [b], true) else (l, false)
def turnR (l : List TBooking) (k d : Int) : List TBooking × Bool := if 0 ≤ k ∧ k < l.length then bookR l (d, (l.getD k.toNat default).2.2.1, (l.getD k.toNat default).2.1, (l.getD k.toNat default).2.2.2) else (l, false)
end Go.Proofs.Ytodjdpdnamfkjaa
