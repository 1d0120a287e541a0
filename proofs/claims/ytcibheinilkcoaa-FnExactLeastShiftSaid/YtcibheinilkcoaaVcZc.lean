/- Part Zc of the small logic: loops with what holds at their head; small words on lists and numbers. No conditions. -/
import Derived.Test.YtcibheinilkcoaaVcZa
namespace Go.Vq
open Go.RowKit
section
variable {P : Program} {wv : Bool} {ty : List (Nat × Td)} {kp : List Nat} {sl : List (Nat × V)} {ob : List (Nat × Ob)} {k : Kont}
/-- a loop, and what holds at its head -/
theorem z_li {c : Code} {α : Type} (I : α → Prop) (x0 : α) (m : α → Nat) (f : α → St) (hI : I x0) (h0 : St.le0 ⟨sl, ob⟩ (f x0))
    (h : ∀ y, I y → Mok P wv ty kp (.code c (.lp (fun σ => ∃ z, (I z ∧ m z < m y) ∧ σ.le (f z)) k)) (f y).sl (f y).ob) : SL P wv ty kp c k sl ob := by
  refine z_l (⟨x0, hI⟩ : { x // I x }) (fun y => m y.1) (fun y => f y.1) h0 fun y => ?_
  have := h y.1 y.2
  have e : (fun σ : St => ∃ z : { x // I x }, m z.1 < m y.1 ∧ σ.le (f z.1)) = fun σ => ∃ z, (I z ∧ m z < m y.1) ∧ σ.le (f z) := by
    funext σ
    apply propext
    exact ⟨fun ⟨z, h1, h2⟩ => ⟨z.1, ⟨z.2, h1⟩, h2⟩, fun ⟨z, ⟨h1, h2⟩, h3⟩ => ⟨⟨z, h1⟩, h2, h3⟩⟩
  rw [e]
  exact this
end

/-- a row of a list of things, the thing by its place -/
theorem z_wg {P : Program} {wv : Bool} {ty : List (Nat × Td)} {kp : List Nat} {sl : List (Nat × V)} {ob : List (Nat × Ob)} {p : Prop} {ks : List Kd} {α : Type} [Inhabited α] {l : List α} {e : α → List C} {i : Nat} {f : List C → M} (h : Mok P wv ty kp (f (e (l.getD i default))) sl ob) (hp : p) : SW P wv ty kp p ks (l.map e) i f sl ob :=
  z_wm (fun x hx => by rw [List.getD, hx] at h; exact h) hp
theorem all_succ {P : Nat → Prop} {k : Nat} (h : ∀ i, i < k → P i) (hk : P k) : ∀ i, i < k + 1 → P i := fun i hi => by
  rcases Nat.lt_or_ge i k with h1 | h1
  · exact h i h1
  · obtain rfl : i = k := by omega
    exact hk
theorem tn1 (k : Nat) : ((k : Int) - 1).toNat = k - 1 := by omega
theorem tp1 (k : Nat) : ((k : Int) + 1).toNat = k + 1 := by omega

theorem takeD {α : Type} [Inhabited α] {l : List α} {k : Nat} (h : k < l.length) : l.take (k + 1) = l.take k ++ [l.getD k default] := by
  rw [List.take_succ_eq_append_getElem h, List.getD, List.getElem?_eq_getElem h]; rfl
theorem eq_getD {α : Type} [Inhabited α] {l l' : List α} (h : l.length = l'.length) (he : ∀ i, i < l.length → l.getD i default = l'.getD i default) : l = l' := by
  refine List.ext_getElem h fun i h1 h2 => ?_
  have := he i h1
  simpa [List.getD, h1, h2] using this

theorem getD_mem {α : Type} [Inhabited α] {l : List α} {k : Nat} (h : k < l.length) : l.getD k default ∈ l := by
  rw [List.getD, List.getElem?_eq_getElem h]; exact List.getElem_mem h
theorem mem_getD {α : Type} [Inhabited α] {l : List α} {x : α} (h : x ∈ l) : ∃ k, k < l.length ∧ l.getD k default = x := by
  obtain ⟨k, hk, e⟩ := List.getElem_of_mem h
  exact ⟨k, hk, by rw [List.getD, List.getElem?_eq_getElem hk]; exact e⟩

theorem all_getD {α : Type} [Inhabited α] {l : List α} {p : α → Prop} : (∀ x ∈ l, p x) ↔ ∀ i, i < l.length → p (l.getD i default) :=
  ⟨fun h i hi => h _ (getD_mem hi), fun h x hx => by obtain ⟨k, hk, e⟩ := mem_getD hx; rw [← e]; exact h k hk⟩
theorem tdiv_pos {a b : Int} (h : 0 ≤ a) : a.tdiv b = a / b := Int.tdiv_eq_ediv_of_nonneg h

theorem len1 {α : Type} {l : List α} (h : l.length = 1) : ∃ a, l = [a] := by
  match l, h with
  | [a], _ => exact ⟨a, rfl⟩
theorem len2 {α : Type} {l : List α} (h : l.length = 2) : ∃ a b, l = [a, b] := by
  match l, h with
  | [a, b], _ => exact ⟨a, b, rfl⟩
theorem len3 {α : Type} {l : List α} (h : l.length = 3) : ∃ a b c, l = [a, b, c] := by
  match l, h with
  | [a, b, c], _ => exact ⟨a, b, c, rfl⟩
theorem len4 {α : Type} {l : List α} (h : l.length = 4) : ∃ a b c d, l = [a, b, c, d] := by
  match l, h with
  | [a, b, c, d], _ => exact ⟨a, b, c, d, rfl⟩

/-- rows of one shape are a list of things -/
theorem rows_map {α : Type} {ks : List Kd} {e : α → List C} (h : ∀ r : List C, r.map C.kd = ks → ∃ x, r = e x) : ∀ {rows : List (List C)}, (∀ r ∈ rows, r.map C.kd = ks) → ∃ l : List α, rows = l.map e
  | [], _ => ⟨[], rfl⟩
  | r :: rows, hr => by
    obtain ⟨x, rfl⟩ := h r (hr _ (by simp))
    obtain ⟨l, rfl⟩ := rows_map h (rows := rows) (fun r' h' => hr r' (List.mem_cons_of_mem _ h'))
    exact ⟨x :: l, rfl⟩

/-! ### cells by their kinds -/
theorem kd_int {c : C} {k : IntKind} (h : c.kd = .int k) : ∃ n, c = .int k n := by
  cases c <;> simp [C.kd] at h
  subst h; exact ⟨_, rfl⟩
theorem kd_bool {c : C} (h : c.kd = .bool) : ∃ n, c = .bool n := by
  cases c <;> simp [C.kd] at h
  exact ⟨_, rfl⟩
theorem kd_sl {c : C} {ks : List Kd} (h : c.kd = .sl ks) : ∃ rows, c = .sq ks rows := by
  cases c <;> simp [C.kd] at h
  subst h; exact ⟨_, rfl⟩
theorem kds_cons {cs : List C} {k : Kd} {ks : List Kd} (h : cs.map C.kd = k :: ks) : ∃ c r, cs = c :: r ∧ c.kd = k ∧ r.map C.kd = ks := by
  cases cs with
  | nil => simp at h
  | cons c r => simp at h; exact ⟨c, r, rfl, h⟩
theorem kds_nil {cs : List C} (h : cs.map C.kd = []) : cs = [] := by simpa using h
theorem caps_cons {caps : List (Bool × List C)} {g : Bool} {ks : List Kd} {kss : List (Bool × List Kd)} (h : caps.map (fun p => (p.1, p.2.map C.kd)) = (g, ks) :: kss) :
    ∃ cs r, caps = (g, cs) :: r ∧ cs.map C.kd = ks ∧ r.map (fun p => (p.1, p.2.map C.kd)) = kss := by
  cases caps with
  | nil => simp at h
  | cons p r =>
    obtain ⟨g', cs⟩ := p
    simp at h
    obtain ⟨⟨rfl, h1⟩, h2⟩ := h
    exact ⟨cs, r, rfl, h1, h2⟩
theorem caps_nil {caps : List (Bool × List C)} (h : caps.map (fun p => (p.1, p.2.map C.kd)) = []) : caps = [] := by simpa using h
theorem Ok.i64 {n : Int} (h : Ok (.int .i64 n)) : -9223372036854775808 ≤ n ∧ n ≤ 9223372036854775807 := by
  cases h with
  | int _ _ h => 
    simp only [Lit.wf, Bool.and_eq_true, decide_eq_true_eq] at h
    exact h
theorem Ok.u8 {n : Int} (h : Ok (.int .u8 n)) : 0 ≤ n ∧ n ≤ 255 := by
  cases h with
  | int _ _ h => 
    simp only [Lit.wf, Bool.and_eq_true, decide_eq_true_eq] at h
    exact h
theorem Ok.len {ks : List Kd} {rows : List (List C)} (h : Ok (.sq ks rows)) : rows.length ≤ 9223372036854775807 := by
  cases h with
  | sq _ _ h => exact h
theorem Ok.rows {ks : List Kd} {rows : List (List C)} (h : Ok (.sq ks rows)) : (∀ r ∈ rows, r.map C.kd = ks) ∧ ∀ r ∈ rows, ∀ c ∈ r, Ok c := by
  cases h with
  | sq _ _ _ h1 h2 => exact ⟨h1, h2⟩

/-! ### a slice that is filled from the left -/
def fillTo {α β : Type} (e : α → β) (z : β) (l : List α) (k : Nat) : List β := (l.take k).map e ++ List.replicate (l.length - k) z
theorem fillTo_zero {α β : Type} (e : α → β) (z : β) (l : List α) : fillTo e z l 0 = List.replicate l.length z := by simp [fillTo]
theorem fillTo_len {α β : Type} (e : α → β) (z : β) (l : List α) (k : Nat) (hk : k ≤ l.length) : (fillTo e z l k).length = l.length := by simp [fillTo]; omega
theorem fillTo_all {α β : Type} (e : α → β) (z : β) (l : List α) (k : Nat) (hk : l.length ≤ k) : fillTo e z l k = l.map e := by
  unfold fillTo
  rw [List.take_of_length_le hk, Nat.sub_eq_zero_of_le hk]; simp
theorem fillTo_set {α β : Type} (e : α → β) (z : β) (l : List α) (k : Nat) {x : α} (h : l[k]? = some x) : (fillTo e z l k).set k (e x) = fillTo e z l (k + 1) := by
  have hk : k < l.length := (List.getElem?_eq_some_iff.1 h).1
  have hx : l[k] = x := (List.getElem?_eq_some_iff.1 h).2
  unfold fillTo
  have hl : ((l.take k).map e).length = k := by simp; omega
  rw [List.set_append, if_neg (by omega), hl, Nat.sub_self, List.take_succ_eq_append_getElem hk, hx, show l.length - k = (l.length - (k + 1)) + 1 by omega, List.replicate_succ]
  simp
theorem fillTo_setD {α β : Type} [Inhabited α] (e : α → β) (z : β) (l : List α) (k : Nat) (h : k < l.length) : (fillTo e z l k).set k (e (l.getD k default)) = fillTo e z l (k + 1) :=
  fillTo_set e z l k (by rw [List.getD, List.getElem?_eq_getElem h]; rfl)
/-- wraps that do nothing -/
theorem wr {x : Int} (h : -9223372036854775808 ≤ x ∧ x ≤ 9223372036854775807) : IntKind.i64.wrap x = x := w64 h.1 h.2
/-! ### Part Zd of the small logic: slices that are marked with numbers that rise. No conditions. -/
/-- things that are marked from k on, n numbers each -/
def mkL {α : Type} (f : Int → α) (n k : Int) (len : Nat) : List α := (List.range len).map fun j : Nat => f (k + n * (j : Int))
section
variable {α : Type} (f : Int → α) (n k : Int)
theorem mkL_len (len : Nat) : (mkL f n k len).length = len := by simp [mkL]
theorem mkL_getD [Inhabited α] {len i : Nat} (h : i < len) : (mkL f n k len).getD i default = f (k + n * i) := by
  simp [mkL, List.getD, h]
theorem mkL_succ (len : Nat) : mkL f n k (len + 1) = mkL f n k len ++ [f (k + n * len)] := by
  simp [mkL, List.range_succ]
theorem mk_set {l : List α} {i : Nat} (h : i < l.length) : (mkL f n k i ++ l.drop i).set i (f (k + n * i)) = mkL f n k (i + 1) ++ l.drop (i + 1) := by
  rw [List.set_append, if_neg (by rw [mkL_len]; omega), mkL_len, Nat.sub_self, mkL_succ, List.drop_eq_getElem_cons h, List.set_cons_zero, List.append_assoc]
  rfl
theorem mk_all (l : List α) {i : Nat} (h : l.length ≤ i) (hi : i ≤ l.length) : mkL f n k i ++ l.drop i = mkL f n k l.length := by
  obtain rfl : i = l.length := by omega
  simp
theorem mk_len {l : List α} {i : Nat} (hi : i ≤ l.length) : (mkL f n k i ++ l.drop i).length = l.length := by
  simp [mkL_len]; omega
end
theorem put_map {α : Type} [Inhabited α] {L : List α} {i : Nat} (hi : i < L.length) {e : α → List C} {off : Nat} {p : List C} (x : α) (h : putC off p (e (L.getD i default)) = e x) :
    (L.map e).set i (putC off p ((L.map e).getD i [])) = (L.set i x).map e := by
  have e1 : (L.map e).getD i [] = e (L.getD i default) := by simp [List.getD, hi]
  rw [e1, h, List.map_set]
theorem getD_set {α : Type} [Inhabited α] {L : List α} {i : Nat} (hi : i < L.length) (x : α) : (L.set i x).getD i default = x := by
  simp [List.getD, hi]
theorem set_map {α β : Type} (e : α → β) (L : List α) (i : Nat) (x : α) : (L.map e).set i (e x) = (L.set i x).map e := by rw [List.map_set]
theorem setD_get {β : Type} {L : List β} {i : Nat} (hi : i < L.length) (x d : β) : (L.set i x).getD i d = x := by
  simp [List.getD, hi]
theorem map_getD {α : Type} [Inhabited α] {L : List α} {i : Nat} (hi : i < L.length) (e : α → List C) : (L.map e).getD i [] = e (L.getD i default) := by
  simp [List.getD, hi]
end Go.Vq
