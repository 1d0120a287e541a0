/- Shifted quilts, lists of spots that are compared, the least shift. No conditions. -/
import Derived.Test.YtcibheinilkcoaaQltV
namespace Go.Proofs.Ytcibheinilkcoaa
open Go.Vq
set_option linter.unusedSimpArgs false
set_option linter.unusedVariables false
set_option maxHeartbeats 1000000
/-! ### plain mathematics -/
def shI (w g dx dy i : Nat) : Nat := (i / w + dy) % g * w + (i % w + dx) % w
def shF (w g dx dy : Nat) (sp : List TSpot) (y x : Nat) : TSpot := sp.getD ((y + dy) % g * w + (x + dx) % w) default
def shQ (w g dx dy : Nat) (sp : List TSpot) : List TSpot := madeP w (shF w g dx dy sp) g 0
theorem shQ_eq (w g dx dy : Nat) (sp : List TSpot) : shQ w g dx dy sp = (List.range (g * w)).map fun i => sp.getD (shI w g dx dy i) default := madeP_get w (shF w g dx dy sp) g 0 (by omega)
theorem shQ_len (w g dx dy : Nat) (sp : List TSpot) : (shQ w g dx dy sp).length = g * w := by rw [shQ_eq]; simp
theorem shI_lt {w g dx dy i : Nat} (hw : 1 ≤ w) (hg : 1 ≤ g) : shI w g dx dy i < g * w := by
  have h1 : (i / w + dy) % g < g := Nat.mod_lt _ (by omega)
  have h2 : (i % w + dx) % w < w := Nat.mod_lt _ (by omega)
  have h3 : ((i / w + dy) % g + 1) * w ≤ g * w := Nat.mul_le_mul (by omega) (Nat.le_refl _)
  rw [Nat.add_mul, Nat.one_mul] at h3
  unfold shI; omega
/-- the first k spots are shifted -/
def shK (w g dx dy : Nat) (sp : List TSpot) (k : Nat) : List TSpot := (List.range k).map (fun i => sp.getD (shI w g dx dy i) default) ++ sp.drop k
theorem shK_len {w g dx dy : Nat} {sp : List TSpot} {k : Nat} (h : k ≤ sp.length) : (shK w g dx dy sp k).length = sp.length := by simp [shK]; omega
theorem shK_zero (w g dx dy : Nat) (sp : List TSpot) : shK w g dx dy sp 0 = sp := by simp [shK]
theorem shK_all {w g dx dy : Nat} {sp : List TSpot} (h : sp.length = g * w) {k : Nat} (hk : k = sp.length) : shK w g dx dy sp k = shQ w g dx dy sp := by
  rw [shQ_eq, shK, hk, h, List.drop_of_length_le (by omega), List.append_nil]
theorem shK_set {w g dx dy : Nat} {sp : List TSpot} {k : Nat} (h : k < sp.length) : (shK w g dx dy sp k).set k (sp.getD (shI w g dx dy k) default) = shK w g dx dy sp (k + 1) := by
  unfold shK
  rw [List.set_append_right _ _ (by simp), List.range_succ, List.map_append, List.append_assoc]
  congr 1
  rw [List.length_map, List.length_range, Nat.sub_self, List.drop_eq_getElem_cons h]
  rfl
def spLt (a b : TSpot) : Prop := a.1 < b.1 ∨ a.1 = b.1 ∧ a.2 < b.2
/-- the first list of spots is less -/
def lessP (a b : List TSpot) : Prop := ∃ k, k < a.length ∧ (∀ i, i < k → a.getD i default = b.getD i default) ∧ spLt (a.getD k default) (b.getD k default)
instance (a b : TSpot) : Decidable (spLt a b) := by unfold spLt; infer_instance
noncomputable instance (a b : List TSpot) : Decidable (lessP a b) := Classical.propDecidable _
theorem lessP_at {a b : List TSpot} {k : Nat} (hk : k < a.length) (hI : ∀ i, i < k → a.getD i default = b.getD i default) (hne : a.getD k default ≠ b.getD k default) : lessP a b ↔ spLt (a.getD k default) (b.getD k default) := by
  constructor
  · rintro ⟨j, h1, h2, h3⟩
    rcases Nat.lt_trichotomy j k with h | h | h
    · rw [hI j h] at h3; unfold spLt at h3; omega
    · subst h; exact h3
    · exact absurd (h2 k h) hne
  · intro h; exact ⟨k, hk, hI, h⟩
theorem lessP_dec {a b : List TSpot} {k : Nat} (hk : k < a.length) (hI : ∀ i, i < k → a.getD i default = b.getD i default) (hne : a.getD k default ≠ b.getD k default) : decide (lessP a b) = decide (spLt (a.getD k default) (b.getD k default)) := decide_eq_decide.2 (lessP_at hk hI hne)
theorem lessP_eq {a b : List TSpot} (hI : ∀ i, i < a.length → a.getD i default = b.getD i default) : ¬ lessP a b := by
  rintro ⟨j, h1, h2, h3⟩
  rw [hI j h1] at h3; unfold spLt at h3; omega
noncomputable def bestK (w g : Nat) (sp : List TSpot) : Nat → List TSpot
  | 0 => sp
  | k + 1 => if lessP (shQ w g (k % w) (k / w) sp) (bestK w g sp k) then shQ w g (k % w) (k / w) sp else bestK w g sp k
theorem bestK_len {w g : Nat} {sp : List TSpot} (h : sp.length = g * w) : ∀ k, (bestK w g sp k).length = g * w
  | 0 => h
  | k + 1 => by
    unfold bestK; split
    · exact shQ_len ..
    · exact bestK_len h k
/-! ### contracts -/
theorem wrN (n : Nat) (h : n < 1000000) : IntKind.i64.wrap (n : Int) = n := wr ⟨by omega, by omega⟩
theorem wrA (m n : Nat) (h : m + n < 1000000) : IntKind.i64.wrap ((m : Int) + n) = ((m + n : Nat) : Int) := by rw [← Int.natCast_add]; exact wrN _ h
theorem wrM (m n : Nat) (h : m * n < 1000000) : IntKind.i64.wrap ((m : Int) * n) = ((m * n : Nat) : Int) := by rw [← Int.natCast_mul]; exact wrN _ h
theorem shifted_fn (w g : Nat) (sp : List TSpot) (hl : sp.length ≤ 1048576) (hw : WG w g) (i dx dy : Nat) (hi : i < 36) (hx : dx < w) (hy : dy < g) : FnC Try.prog 78 [aQ w g sp, (false, [.int .i64 i]), (false, [.int .i64 dx]), (false, [.int .i64 dy])] (.one (.int .i64 (shI w g dx dy i))) := by
  have w1 := hw.w1
  have w6 := hw.w6
  have g1 := hw.g1
  have g6 := hw.g6
  have b1 : i / w ≤ i := Nat.div_le_self _ _
  have b2 : i % w < w := Nat.mod_lt _ (by omega)
  have b3 : (i / w + dy) % g < g := Nat.mod_lt _ (by omega)
  have b4 : (i % w + dx) % w < w := Nat.mod_lt _ (by omega)
  have b5 : (i / w + dy) % g * w ≤ 6 * 6 := Nat.mul_le_mul (by omega) (by omega)
  have e1 : (i : Int).tdiv w = ((i / w : Nat) : Int) := (Int.ofNat_tdiv i w).symm
  have e2 : (i : Int).tmod w = ((i % w : Nat) : Int) := (Int.ofNat_tmod i w).symm
  have e3 : IntKind.i64.wrap ((i / w : Nat) : Int) = ((i / w : Nat) : Int) := wrN _ (by omega)
  have e4 : IntKind.i64.wrap (((i / w : Nat) : Int) + dy) = ((i / w + dy : Nat) : Int) := wrA _ _ (by omega)
  have e5 : (((i / w + dy : Nat) : Int)).tmod g = (((i / w + dy) % g : Nat) : Int) := (Int.ofNat_tmod _ _).symm
  have e6 : IntKind.i64.wrap ((((i / w + dy) % g : Nat) : Int) * w) = (((i / w + dy) % g * w : Nat) : Int) := wrM _ _ (by omega)
  have e7 : IntKind.i64.wrap (((i % w : Nat) : Int) + dx) = ((i % w + dx : Nat) : Int) := wrA _ _ (by omega)
  have e8 : (((i % w + dx : Nat) : Int)).tmod w = (((i % w + dx) % w : Nat) : Int) := (Int.ofNat_tmod _ _).symm
  have e9 : IntKind.i64.wrap ((((i / w + dy) % g * w : Nat) : Int) + (((i % w + dx) % w : Nat) : Int)) = (shI w g dx dy i : Nat) := wrA _ _ (by omega)
  refine fn_z (ty := ty) (ts := [.tmp 8]) [0, 1, 2, 3, 4, 8, 9, 10] mixed ty_ok Try.func78 (by kernel_rfl) rfl (by kernel_rfl) (by kernel_rfl) rfl (.inl rfl) (Nat.le_of_ble_eq_true rfl) (by simp only [entry, entryV, C.toS, Nat.zero_add, Nat.reduceAdd, List.map_cons, List.map_nil]; exact rfl) ?_
  repeat' (first
    | ((with_reducible refine z_run ?_); (conv => whnf))
    | (with_reducible apply z_t)
    | (with_reducible apply z_f)
    | ((with_reducible apply z_b); ((intro h); (try simp only [beq_self_eq_true, eq_self, not_true_eq_false, not_false_eq_true, decide_true, cond_true, cond_false, Bool.not_true, Bool.not_false, Bool.not_eq_true', Bool.not_eq_false', Bool.and_eq_true, Bool.and_eq_false_imp, Bool.or_eq_true, Bool.or_eq_false_iff, decide_eq_true_eq, decide_eq_false_iff_not, Bool.false_eq_true, reduceCtorEq, Int.not_le, Int.not_lt, Decidable.not_not] at h)); rotate_left; ((intro h); (try simp only [beq_self_eq_true, eq_self, not_true_eq_false, not_false_eq_true, decide_true, cond_true, cond_false, Bool.not_true, Bool.not_false, Bool.not_eq_true', Bool.not_eq_false', Bool.and_eq_true, Bool.and_eq_false_imp, Bool.or_eq_true, Bool.or_eq_false_iff, decide_eq_true_eq, decide_eq_false_iff_not, Bool.false_eq_true, reduceCtorEq, Int.not_le, Int.not_lt, Decidable.not_not] at h)))
    | (with_reducible refine z_r ?_ ?_)
    | (with_reducible refine z_wg ?_ ?_)
    | (with_reducible refine z_w ?_ ?_)
    | ((with_reducible apply sh_nil); (intro _))
    | ((with_reducible apply sh_int); (intro _))
    | ((with_reducible apply sh_bool); (intro _))
    | ((with_reducible apply sh_sl); (intro _))
    | ((with_reducible refine z_xf ?zc ?zx ?_); (case zc => decide +kernel); (case zx => decide +kernel))
    | ((with_reducible refine z_o ?zo ?_); (case zo => decide +kernel))
    | ((with_reducible refine z_x ?zx ?_); (case zx => decide +kernel))
    | fail)
  all_goals (first | omega | skip)
  rw [e1, e2, e3, e4, e5, e6, e7, e8, e9]
  all_goals (first | (refine z_e rfl ?_; simp only [fin, finP, finM, ids, nodupB, tupP, tupM, memN, List.length_cons, List.length_nil, List.nil_append, List.append_nil, List.cons_append, Nat.zero_add, Nat.reduceAdd, ne_eq, not_false_eq_true, eq_self, ev, Vq.look, List.map_cons, List.map_nil, and_true, true_and, Nat.reduceEqDiff, if_true, if_false, reduceCtorEq, ↓reduceIte]; done) | (trace_state; fail))
theorem isShift_fn (w g : Nat) (sp : List TSpot) (hl : sp.length ≤ 1048576) (hw : WG w g) (dx dy : Int) : FnC Try.prog 77 [aQ w g sp, (false, [.int .i64 dx]), (false, [.int .i64 dy])] (.one (.bool (decide ((0 ≤ dx ∧ dx < w) ∧ (0 ≤ dy ∧ dy < g))))) := by
  have w1 := hw.w1
  have w6 := hw.w6
  have g1 := hw.g1
  have g6 := hw.g6
  refine fn_z (ty := ty) (ts := [.tmp 6]) [0, 1, 2, 3, 6] mixed ty_ok Try.func77 (by kernel_rfl) rfl (by kernel_rfl) (by kernel_rfl) rfl (.inl rfl) (Nat.le_of_ble_eq_true rfl) (by simp only [entry, entryV, C.toS, Nat.zero_add, Nat.reduceAdd, List.map_cons, List.map_nil]; exact rfl) ?_
  repeat' (first
    | ((with_reducible refine z_run ?_); (conv => whnf))
    | (with_reducible apply z_t)
    | (with_reducible apply z_f)
    | ((with_reducible apply z_b); ((intro h); (try simp only [beq_self_eq_true, eq_self, not_true_eq_false, not_false_eq_true, decide_true, cond_true, cond_false, Bool.not_true, Bool.not_false, Bool.not_eq_true', Bool.not_eq_false', Bool.and_eq_true, Bool.and_eq_false_imp, Bool.or_eq_true, Bool.or_eq_false_iff, decide_eq_true_eq, decide_eq_false_iff_not, Bool.false_eq_true, reduceCtorEq, Int.not_le, Int.not_lt, Decidable.not_not] at h)); rotate_left; ((intro h); (try simp only [beq_self_eq_true, eq_self, not_true_eq_false, not_false_eq_true, decide_true, cond_true, cond_false, Bool.not_true, Bool.not_false, Bool.not_eq_true', Bool.not_eq_false', Bool.and_eq_true, Bool.and_eq_false_imp, Bool.or_eq_true, Bool.or_eq_false_iff, decide_eq_true_eq, decide_eq_false_iff_not, Bool.false_eq_true, reduceCtorEq, Int.not_le, Int.not_lt, Decidable.not_not] at h)))
    | (with_reducible refine z_r ?_ ?_)
    | (with_reducible refine z_wg ?_ ?_)
    | (with_reducible refine z_w ?_ ?_)
    | ((with_reducible apply sh_nil); (intro _))
    | ((with_reducible apply sh_int); (intro _))
    | ((with_reducible apply sh_bool); (intro _))
    | ((with_reducible apply sh_sl); (intro _))
    | ((with_reducible refine z_xf ?zc ?zx ?_); (case zc => decide +kernel); (case zx => decide +kernel))
    | (with_reducible refine z_k (within_fn _ _ _) ?_)
    | ((with_reducible refine z_o ?zo ?_); (case zo => decide +kernel))
    | ((with_reducible refine z_x ?zx ?_); (case zx => decide +kernel))
    | fail)
  all_goals ((try simp only [Int.toNat_natCast, tn1, tp1, List.length_map, eq_self, true_and, and_true] at *); (try simp (disch := omega) only [wr, Int.toNat_natCast, tn1, tp1, List.length_map, eq_self, true_and, and_true] at *))
  all_goals (refine z_e rfl ?_; simp only [fin, finP, finM, ids, nodupB, tupP, tupM, memN, List.length_cons, List.length_nil, List.nil_append, List.append_nil, List.cons_append, Nat.zero_add, Nat.reduceAdd, ne_eq, not_false_eq_true, eq_self, ev, Vq.look, List.map_cons, List.map_nil, and_true, true_and, Nat.reduceEqDiff, if_true, if_false, reduceCtorEq, ↓reduceIte]; first | done | (simp only [cond_true]; refine decide_eq_decide.2 ?_; constructor <;> intro _ <;> omega) | (refine (decide_eq_false ?_).symm; omega) | (trace_state; fail))
theorem isLess_fn (a b : List TSpot) (hl : a.length ≤ 1048576) (hab : b.length = a.length) : FnC Try.prog 80 [(false, [.sq dSpot (a.map eSpot)]), (false, [.sq dSpot (b.map eSpot)])] (.one (.bool (decide (lessP a b)))) := by
  refine fn_z (ty := ty) (ts := [.tmp 4]) [0, 1, 4, 5, 7, 8, 9, 19] mixed ty_ok Try.func80 (by kernel_rfl) rfl (by kernel_rfl) (by kernel_rfl) rfl (.inl rfl) (Nat.le_of_ble_eq_true rfl) (by simp only [entry, entryV, C.toS, Nat.zero_add, Nat.reduceAdd, List.map_cons, List.map_nil]; exact rfl) ?_
  repeat' (first
    | ((with_reducible refine z_run ?_); (conv => whnf))
    | (with_reducible apply z_t)
    | (with_reducible apply z_f)
    | ((with_reducible apply z_b); ((intro h); (try simp only [beq_self_eq_true, eq_self, not_true_eq_false, not_false_eq_true, decide_true, cond_true, cond_false, Bool.not_true, Bool.not_false, Bool.not_eq_true', Bool.not_eq_false', Bool.and_eq_true, Bool.and_eq_false_imp, Bool.or_eq_true, Bool.or_eq_false_iff, decide_eq_true_eq, decide_eq_false_iff_not, Bool.false_eq_true, reduceCtorEq, Int.not_le, Int.not_lt, Decidable.not_not] at h)); rotate_left; ((intro h); (try simp only [beq_self_eq_true, eq_self, not_true_eq_false, not_false_eq_true, decide_true, cond_true, cond_false, Bool.not_true, Bool.not_false, Bool.not_eq_true', Bool.not_eq_false', Bool.and_eq_true, Bool.and_eq_false_imp, Bool.or_eq_true, Bool.or_eq_false_iff, decide_eq_true_eq, decide_eq_false_iff_not, Bool.false_eq_true, reduceCtorEq, Int.not_le, Int.not_lt, Decidable.not_not] at h)))
    | (with_reducible refine z_r ?_ ?_)
    | (with_reducible refine z_wg ?_ ?_)
    | (with_reducible refine z_w ?_ ?_)
    | ((with_reducible apply sh_nil); (intro _))
    | ((with_reducible apply sh_int); (intro _))
    | ((with_reducible apply sh_bool); (intro _))
    | ((with_reducible apply sh_sl); (intro _))
    | ((with_reducible refine z_xf ?zc ?zx ?_); (case zc => decide +kernel); (case zx => decide +kernel))
    | ((with_reducible refine z_o ?zo ?_); (case zo => decide +kernel))
    | ((with_reducible refine z_x ?zx ?_); (case zx => decide +kernel))
    | fail)
  refine z_li (fun k => k ≤ a.length ∧ ∀ i, i < k → a.getD i default = b.getD i default) (0 : Nat) (fun k => a.length - k) (fun k => ⟨[(0, .one (.ro dSpot (a.map eSpot))), (1, .one (.ro dSpot (b.map eSpot))), (4, .one (.bool false)), (7, .one (.int .i64 a.length)), (8, .one (.int .i64 k))], []⟩) ⟨by omega, by omega⟩ ?_ ?_
  · simp only [List.length_map, fillTo_zero, Int.toNat_natCast, Option.isSome_some, and_self, fixB, Nat.reduceLeDiff, false_implies, true_implies, forall_const, St.le0, St.swaps, St.ren, mapV, renO, V.ren, Sc.ren, Ob.ren, swp, slsLe, obsLe, vLe, psLe, scLe, scsLe, obLe, Vq.look, Nat.reduceEqDiff, if_true, if_false, reduceCtorEq, ↓reduceIte, true_and, and_true] <;> (and_intros <;> first | rfl | omega | assumption)
  · intro k ⟨hk, hI⟩
    repeat' (first
    | ((with_reducible refine z_run ?_); (conv => whnf))
    | (with_reducible apply z_t)
    | (with_reducible apply z_f)
    | ((with_reducible apply z_b); ((intro h); (try simp only [beq_self_eq_true, eq_self, not_true_eq_false, not_false_eq_true, decide_true, cond_true, cond_false, Bool.not_true, Bool.not_false, Bool.not_eq_true', Bool.not_eq_false', Bool.and_eq_true, Bool.and_eq_false_imp, Bool.or_eq_true, Bool.or_eq_false_iff, decide_eq_true_eq, decide_eq_false_iff_not, Bool.false_eq_true, reduceCtorEq, Int.not_le, Int.not_lt, Decidable.not_not] at h)); rotate_left; ((intro h); (try simp only [beq_self_eq_true, eq_self, not_true_eq_false, not_false_eq_true, decide_true, cond_true, cond_false, Bool.not_true, Bool.not_false, Bool.not_eq_true', Bool.not_eq_false', Bool.and_eq_true, Bool.and_eq_false_imp, Bool.or_eq_true, Bool.or_eq_false_iff, decide_eq_true_eq, decide_eq_false_iff_not, Bool.false_eq_true, reduceCtorEq, Int.not_le, Int.not_lt, Decidable.not_not] at h)))
    | (with_reducible refine z_r ?_ ?_)
    | (with_reducible refine z_wg ?_ ?_)
    | (with_reducible refine z_w ?_ ?_)
    | ((with_reducible apply sh_nil); (intro _))
    | ((with_reducible apply sh_int); (intro _))
    | ((with_reducible apply sh_bool); (intro _))
    | ((with_reducible apply sh_sl); (intro _))
    | ((with_reducible refine z_xf ?zc ?zx ?_); (case zc => decide +kernel); (case zx => decide +kernel))
    | ((with_reducible refine z_o ?zo ?_); (case zo => decide +kernel))
    | ((with_reducible refine z_x ?zx ?_); (case zx => decide +kernel))
    | fail)
    all_goals ((try simp only [Int.toNat_natCast, tn1, tp1, List.length_map, eq_self, true_and, and_true] at *); (try simp (disch := omega) only [wr, Int.toNat_natCast, tn1, tp1, List.length_map, eq_self, true_and, and_true] at *))
    all_goals (first
      | omega
      | (refine z_n (k + 1) ⟨⟨by omega, all_succ hI (by simp only [Prod.ext_iff]; assumption)⟩, by omega⟩ ?_; simp only [List.length_map, fillTo_zero, Int.toNat_natCast, Option.isSome_some, and_self, fixB, Nat.reduceLeDiff, false_implies, true_implies, forall_const, St.le0, St.swaps, St.ren, mapV, renO, V.ren, Sc.ren, Ob.ren, swp, slsLe, obsLe, vLe, psLe, scLe, scsLe, obLe, Vq.look, Nat.reduceEqDiff, if_true, if_false, reduceCtorEq, ↓reduceIte, true_and, and_true] <;> (and_intros <;> first | rfl | omega | assumption); done)
      | (refine z_e rfl ?_; simp only [fin, finP, finM, ids, nodupB, tupP, tupM, memN, List.length_cons, List.length_nil, List.nil_append, List.append_nil, List.cons_append, Nat.zero_add, Nat.reduceAdd, ne_eq, not_false_eq_true, eq_self, ev, Vq.look, List.map_cons, List.map_nil, and_true, true_and, Nat.reduceEqDiff, if_true, if_false, reduceCtorEq, ↓reduceIte]; exact (decide_eq_false (lessP_eq fun i hi => hI i (by omega))).symm)
      | (refine z_e rfl ?_; simp only [fin, finP, finM, ids, nodupB, tupP, tupM, memN, List.length_cons, List.length_nil, List.nil_append, List.append_nil, List.cons_append, Nat.zero_add, Nat.reduceAdd, ne_eq, not_false_eq_true, eq_self, ev, Vq.look, List.map_cons, List.map_nil, and_true, true_and, Nat.reduceEqDiff, if_true, if_false, reduceCtorEq, ↓reduceIte]; rw [lessP_dec (by omega) hI (fun e => by simp_all)]; first | exact (decide_eq_true (by unfold spLt; omega)).symm | exact (decide_eq_false (by unfold spLt; omega)).symm | exact decide_eq_decide.2 (by unfold spLt; omega))
      | (trace_state; fail))
theorem l18Less_fn (a b : List TSpot) (hl : a.length ≤ 1048576) (hab : b.length = a.length) : FnC Try.prog 79 [(false, [.sq dSpot (a.map eSpot)]), (false, [.sq dSpot (b.map eSpot)])] (.one (.bool (decide (lessP a b)))) := by
  refine fn_z (ty := ty) (ts := [.tmp 4]) [0, 1, 4, 5, 9, 22, 44] mixed ty_ok Try.func79 (by kernel_rfl) rfl (by kernel_rfl) (by kernel_rfl) rfl (.inl rfl) (Nat.le_of_ble_eq_true rfl) (by simp only [entry, entryV, C.toS, Nat.zero_add, Nat.reduceAdd, List.map_cons, List.map_nil]; exact rfl) ?_
  repeat' (first
    | ((with_reducible refine z_run ?_); (conv => whnf))
    | (with_reducible apply z_t)
    | (with_reducible apply z_f)
    | ((with_reducible apply z_b); ((intro h); (try simp only [beq_self_eq_true, eq_self, not_true_eq_false, not_false_eq_true, decide_true, cond_true, cond_false, Bool.not_true, Bool.not_false, Bool.not_eq_true', Bool.not_eq_false', Bool.and_eq_true, Bool.and_eq_false_imp, Bool.or_eq_true, Bool.or_eq_false_iff, decide_eq_true_eq, decide_eq_false_iff_not, Bool.false_eq_true, reduceCtorEq, Int.not_le, Int.not_lt, Decidable.not_not] at h)); rotate_left; ((intro h); (try simp only [beq_self_eq_true, eq_self, not_true_eq_false, not_false_eq_true, decide_true, cond_true, cond_false, Bool.not_true, Bool.not_false, Bool.not_eq_true', Bool.not_eq_false', Bool.and_eq_true, Bool.and_eq_false_imp, Bool.or_eq_true, Bool.or_eq_false_iff, decide_eq_true_eq, decide_eq_false_iff_not, Bool.false_eq_true, reduceCtorEq, Int.not_le, Int.not_lt, Decidable.not_not] at h)))
    | (with_reducible refine z_r ?_ ?_)
    | (with_reducible refine z_wg ?_ ?_)
    | (with_reducible refine z_w ?_ ?_)
    | ((with_reducible apply sh_nil); (intro _))
    | ((with_reducible apply sh_int); (intro _))
    | ((with_reducible apply sh_bool); (intro _))
    | ((with_reducible apply sh_sl); (intro _))
    | ((with_reducible refine z_xf ?zc ?zx ?_); (case zc => decide +kernel); (case zx => decide +kernel))
    | ((with_reducible refine z_o ?zo ?_); (case zo => decide +kernel))
    | ((with_reducible refine z_x ?zx ?_); (case zx => decide +kernel))
    | fail)
  refine z_li (fun k => k ≤ a.length ∧ ∀ i, i < k → a.getD i default = b.getD i default) (0 : Nat) (fun k => a.length - k) (fun k => ⟨[(0, .one (.ro dSpot (a.map eSpot))), (1, .one (.ro dSpot (b.map eSpot))), (4, .one (.bool false)), (5, .one (.int .i64 k))], []⟩) ⟨by omega, by omega⟩ ?_ ?_
  · simp only [List.length_map, fillTo_zero, Int.toNat_natCast, Option.isSome_some, and_self, fixB, Nat.reduceLeDiff, false_implies, true_implies, forall_const, St.le0, St.swaps, St.ren, mapV, renO, V.ren, Sc.ren, Ob.ren, swp, slsLe, obsLe, vLe, psLe, scLe, scsLe, obLe, Vq.look, Nat.reduceEqDiff, if_true, if_false, reduceCtorEq, ↓reduceIte, true_and, and_true] <;> (and_intros <;> first | rfl | omega | assumption)
  · intro k ⟨hk, hI⟩
    repeat' (first
    | ((with_reducible refine z_run ?_); (conv => whnf))
    | (with_reducible apply z_t)
    | (with_reducible apply z_f)
    | ((with_reducible apply z_b); ((intro h); (try simp only [beq_self_eq_true, eq_self, not_true_eq_false, not_false_eq_true, decide_true, cond_true, cond_false, Bool.not_true, Bool.not_false, Bool.not_eq_true', Bool.not_eq_false', Bool.and_eq_true, Bool.and_eq_false_imp, Bool.or_eq_true, Bool.or_eq_false_iff, decide_eq_true_eq, decide_eq_false_iff_not, Bool.false_eq_true, reduceCtorEq, Int.not_le, Int.not_lt, Decidable.not_not] at h)); rotate_left; ((intro h); (try simp only [beq_self_eq_true, eq_self, not_true_eq_false, not_false_eq_true, decide_true, cond_true, cond_false, Bool.not_true, Bool.not_false, Bool.not_eq_true', Bool.not_eq_false', Bool.and_eq_true, Bool.and_eq_false_imp, Bool.or_eq_true, Bool.or_eq_false_iff, decide_eq_true_eq, decide_eq_false_iff_not, Bool.false_eq_true, reduceCtorEq, Int.not_le, Int.not_lt, Decidable.not_not] at h)))
    | (with_reducible refine z_r ?_ ?_)
    | (with_reducible refine z_wg ?_ ?_)
    | (with_reducible refine z_w ?_ ?_)
    | ((with_reducible apply sh_nil); (intro _))
    | ((with_reducible apply sh_int); (intro _))
    | ((with_reducible apply sh_bool); (intro _))
    | ((with_reducible apply sh_sl); (intro _))
    | ((with_reducible refine z_xf ?zc ?zx ?_); (case zc => decide +kernel); (case zx => decide +kernel))
    | ((with_reducible refine z_o ?zo ?_); (case zo => decide +kernel))
    | ((with_reducible refine z_x ?zx ?_); (case zx => decide +kernel))
    | fail)
    all_goals ((try simp only [Int.toNat_natCast, tn1, tp1, List.length_map, eq_self, true_and, and_true] at *); (try simp (disch := omega) only [wr, Int.toNat_natCast, tn1, tp1, List.length_map, eq_self, true_and, and_true] at *))
    all_goals (first
      | omega
      | (refine z_n (k + 1) ⟨⟨by omega, all_succ hI (Prod.ext (by assumption) (by assumption))⟩, by omega⟩ ?_; simp only [List.length_map, fillTo_zero, Int.toNat_natCast, Option.isSome_some, and_self, fixB, Nat.reduceLeDiff, false_implies, true_implies, forall_const, St.le0, St.swaps, St.ren, mapV, renO, V.ren, Sc.ren, Ob.ren, swp, slsLe, obsLe, vLe, psLe, scLe, scsLe, obLe, Vq.look, Nat.reduceEqDiff, if_true, if_false, reduceCtorEq, ↓reduceIte, true_and, and_true] <;> (and_intros <;> first | rfl | omega | assumption); done)
      | (refine z_e rfl ?_; simp only [fin, finP, finM, ids, nodupB, tupP, tupM, memN, List.length_cons, List.length_nil, List.nil_append, List.append_nil, List.cons_append, Nat.zero_add, Nat.reduceAdd, ne_eq, not_false_eq_true, eq_self, ev, Vq.look, List.map_cons, List.map_nil, and_true, true_and, Nat.reduceEqDiff, if_true, if_false, reduceCtorEq, ↓reduceIte]; exact (decide_eq_false (lessP_eq fun i hi => hI i (by omega))).symm)
      | (refine z_e rfl ?_; simp only [fin, finP, finM, ids, nodupB, tupP, tupM, memN, List.length_cons, List.length_nil, List.nil_append, List.append_nil, List.cons_append, Nat.zero_add, Nat.reduceAdd, ne_eq, not_false_eq_true, eq_self, ev, Vq.look, List.map_cons, List.map_nil, and_true, true_and, Nat.reduceEqDiff, if_true, if_false, reduceCtorEq, ↓reduceIte]; rw [lessP_dec (by omega) hI (fun e => by simp_all)]; first | exact (decide_eq_true (by unfold spLt; omega)).symm | exact (decide_eq_false (by unfold spLt; omega)).symm | exact decide_eq_decide.2 (by unfold spLt; omega))
      | (trace_state; fail))
theorem l18Moved_fn (w g : Nat) (sp : List TSpot) (hl : sp.length ≤ 1048576) (hw : WG w g) (hs : sp.length = w * g) (dx dy : Nat) (hx : dx < w) (hy : dy < g) : FnC Try.prog 76 [aQ w g sp, (false, [.int .i64 dx]), (false, [.int .i64 dy])] (.agg (rQ w g (shQ w g dx dy sp))) := by
  have w1 := hw.w1
  have w6 := hw.w6
  have g1 := hw.g1
  have g6 := hw.g6
  refine fn_z (ty := ty) (ts := [.cell 6 32 3]) [0, 1, 2, 3, 6, 7, 8, 9, 18, 24, 6] mixed ty_ok Try.func76 (by kernel_rfl) rfl (by kernel_rfl) (by kernel_rfl) rfl (.inl rfl) (Nat.le_of_ble_eq_true rfl) (by simp only [entry, entryV, C.toS, Nat.zero_add, Nat.reduceAdd, List.map_cons, List.map_nil]; exact rfl) ?_
  repeat' (first
    | ((with_reducible refine z_run ?_); (conv => whnf))
    | (with_reducible apply z_t)
    | (with_reducible apply z_f)
    | ((with_reducible apply z_b); ((intro h); (try simp only [beq_self_eq_true, eq_self, not_true_eq_false, not_false_eq_true, decide_true, cond_true, cond_false, Bool.not_true, Bool.not_false, Bool.not_eq_true', Bool.not_eq_false', Bool.and_eq_true, Bool.and_eq_false_imp, Bool.or_eq_true, Bool.or_eq_false_iff, decide_eq_true_eq, decide_eq_false_iff_not, Bool.false_eq_true, reduceCtorEq, Int.not_le, Int.not_lt, Decidable.not_not] at h)); rotate_left; ((intro h); (try simp only [beq_self_eq_true, eq_self, not_true_eq_false, not_false_eq_true, decide_true, cond_true, cond_false, Bool.not_true, Bool.not_false, Bool.not_eq_true', Bool.not_eq_false', Bool.and_eq_true, Bool.and_eq_false_imp, Bool.or_eq_true, Bool.or_eq_false_iff, decide_eq_true_eq, decide_eq_false_iff_not, Bool.false_eq_true, reduceCtorEq, Int.not_le, Int.not_lt, Decidable.not_not] at h)))
    | (with_reducible refine z_r ?_ ?_)
    | (with_reducible refine z_wg ?_ ?_)
    | (with_reducible refine z_w ?_ ?_)
    | ((with_reducible apply sh_nil); (intro _))
    | ((with_reducible apply sh_int); (intro _))
    | ((with_reducible apply sh_bool); (intro _))
    | ((with_reducible apply sh_sl); (intro _))
    | ((with_reducible refine z_xf ?zc ?zx ?_); (case zc => decide +kernel); (case zx => decide +kernel))
    | ((with_reducible refine z_o ?zo ?_); (case zo => decide +kernel))
    | ((with_reducible refine z_x ?zx ?_); (case zx => decide +kernel))
    | fail)
  refine z_li (fun y : Nat => y ≤ g) (0 : Nat) (fun y => g - y) (fun y => ⟨[(1, .one (.int .i64 dx)), (2, .one (.int .i64 dy)), (3, .one (.bx 3 0)), (6, .one (.bx 6 0)), (7, .one (.bx 7 0)), (8, .one (.int .i64 y))], [(7, .box [.int .i64 w, .int .i64 g, .root 77]), (77, .row 82 dSpot ((madeP w (shF w g dx dy sp) y 0).map eSpot)), (6, .box [.int .i64 0, .int .i64 0, .nil]), (3, .box [.int .i64 w, .int .i64 g, .ro dSpot (sp.map eSpot)])]⟩) (by omega) ?_ ?_
  · simp only [List.length_map, fillTo_zero, Int.toNat_natCast, Option.isSome_some, and_self, fixB, Nat.reduceLeDiff, false_implies, true_implies, forall_const, St.le0, St.swaps, St.ren, mapV, renO, V.ren, Sc.ren, Ob.ren, swp, slsLe, obsLe, vLe, psLe, scLe, scsLe, obLe, Vq.look, Nat.reduceEqDiff, if_true, if_false, reduceCtorEq, ↓reduceIte, true_and, and_true, madeP, List.range_zero, List.flatMap_nil, List.map_nil, List.append_nil]; and_intros <;> first | rfl | omega
  · intro y hy'
    repeat' (first
    | ((with_reducible refine z_run ?_); (conv => whnf))
    | (with_reducible apply z_t)
    | (with_reducible apply z_f)
    | ((with_reducible apply z_b); ((intro h); (try simp only [beq_self_eq_true, eq_self, not_true_eq_false, not_false_eq_true, decide_true, cond_true, cond_false, Bool.not_true, Bool.not_false, Bool.not_eq_true', Bool.not_eq_false', Bool.and_eq_true, Bool.and_eq_false_imp, Bool.or_eq_true, Bool.or_eq_false_iff, decide_eq_true_eq, decide_eq_false_iff_not, Bool.false_eq_true, reduceCtorEq, Int.not_le, Int.not_lt, Decidable.not_not] at h)); rotate_left; ((intro h); (try simp only [beq_self_eq_true, eq_self, not_true_eq_false, not_false_eq_true, decide_true, cond_true, cond_false, Bool.not_true, Bool.not_false, Bool.not_eq_true', Bool.not_eq_false', Bool.and_eq_true, Bool.and_eq_false_imp, Bool.or_eq_true, Bool.or_eq_false_iff, decide_eq_true_eq, decide_eq_false_iff_not, Bool.false_eq_true, reduceCtorEq, Int.not_le, Int.not_lt, Decidable.not_not] at h)))
    | (with_reducible refine z_r ?_ ?_)
    | (with_reducible refine z_wg ?_ ?_)
    | (with_reducible refine z_w ?_ ?_)
    | ((with_reducible apply sh_nil); (intro _))
    | ((with_reducible apply sh_int); (intro _))
    | ((with_reducible apply sh_bool); (intro _))
    | ((with_reducible apply sh_sl); (intro _))
    | ((with_reducible refine z_xf ?zc ?zx ?_); (case zc => decide +kernel); (case zx => decide +kernel))
    | ((with_reducible refine z_o ?zo ?_); (case zo => decide +kernel))
    | ((with_reducible refine z_x ?zx ?_); (case zx => decide +kernel))
    | fail)
    all_goals ((try simp only [Int.toNat_natCast, tn1, tp1, List.length_map, eq_self, true_and, and_true] at *); (try simp (disch := omega) only [wr, Int.toNat_natCast, tn1, tp1, List.length_map, eq_self, true_and, and_true] at *))
    all_goals (first
      | omega
      | (refine z_e rfl ?_; simp only [fin, finP, finM, ids, nodupB, tupP, tupM, memN, List.length_cons, List.length_nil, List.nil_append, List.append_nil, List.cons_append, Nat.zero_add, Nat.reduceAdd, ne_eq, not_false_eq_true, eq_self, ev, Vq.look, List.map_cons, List.map_nil, and_true, true_and, Nat.reduceEqDiff, if_true, if_false, reduceCtorEq, ↓reduceIte]; rw [shQ, show g = y by omega]; first | done | rfl | (and_intros <;> rfl))
      | skip)
    refine z_li (fun x : Nat => x ≤ w) (0 : Nat) (fun x => w - x) (fun x => ⟨[(1, .one (.int .i64 dx)), (2, .one (.int .i64 dy)), (3, .one (.bx 3 0)), (6, .one (.bx 6 0)), (7, .one (.bx 7 0)), (8, .one (.int .i64 y)), (9, .one (.int .i64 x))], [(7, .box [.int .i64 w, .int .i64 g, .root 77]), (77, .row 82 dSpot ((madeP w (shF w g dx dy sp) y x).map eSpot)), (6, .box [.int .i64 0, .int .i64 0, .nil]), (3, .box [.int .i64 w, .int .i64 g, .ro dSpot (sp.map eSpot)])]⟩) (by omega) ?_ ?_
    · simp only [List.length_map, fillTo_zero, Int.toNat_natCast, Option.isSome_some, and_self, fixB, Nat.reduceLeDiff, false_implies, true_implies, forall_const, St.le0, St.swaps, St.ren, mapV, renO, V.ren, Sc.ren, Ob.ren, swp, slsLe, obsLe, vLe, psLe, scLe, scsLe, obLe, Vq.look, Nat.reduceEqDiff, if_true, if_false, reduceCtorEq, ↓reduceIte, true_and, and_true] <;> (and_intros <;> first | rfl | omega | assumption)
    · intro x hx'
      have hml := madeP_len w (shF w g dx dy sp) y x
      have hyg : y * w ≤ 6 * 6 := Nat.mul_le_mul (by omega) (by omega)
      have b3 : (y + dy) % g < g := Nat.mod_lt _ (by omega)
      have b4 : (x + dx) % w < w := Nat.mod_lt _ (by omega)
      have b5 : (y + dy) % g * w ≤ 6 * 6 := Nat.mul_le_mul (by omega) (by omega)
      have b6 : ((y + dy) % g + 1) * w ≤ g * w := Nat.mul_le_mul (by omega) (Nat.le_refl _)
      rw [Nat.add_mul, Nat.one_mul, Nat.mul_comm g w, ← hs] at b6
      have e4 : IntKind.i64.wrap ((y : Int) + dy) = ((y + dy : Nat) : Int) := by rw [wr ⟨by omega, by omega⟩]; omega
      have e5 : (((y + dy : Nat) : Int)).tmod g = (((y + dy) % g : Nat) : Int) := (Int.ofNat_tmod _ _).symm
      have e6 : IntKind.i64.wrap ((((y + dy) % g : Nat) : Int) * w) = (((y + dy) % g * w : Nat) : Int) := by rw [← Int.natCast_mul]; exact wr ⟨by omega, by omega⟩
      have e7 : IntKind.i64.wrap ((x : Int) + dx) = ((x + dx : Nat) : Int) := by rw [wr ⟨by omega, by omega⟩]; omega
      have e8 : (((x + dx : Nat) : Int)).tmod w = (((x + dx) % w : Nat) : Int) := (Int.ofNat_tmod _ _).symm
      have e9 : IntKind.i64.wrap ((((y + dy) % g * w : Nat) : Int) + (((x + dx) % w : Nat) : Int)) = (((y + dy) % g * w + (x + dx) % w : Nat) : Int) := by rw [wr ⟨by omega, by omega⟩]; omega
      by_cases hxw : x < w
      · repeat' (first
    | ((with_reducible refine z_run ?_); (conv => whnf))
    | (with_reducible apply z_t)
    | (with_reducible apply z_f)
    | ((with_reducible apply z_b); ((intro h); (try simp only [beq_self_eq_true, eq_self, not_true_eq_false, not_false_eq_true, decide_true, cond_true, cond_false, Bool.not_true, Bool.not_false, Bool.not_eq_true', Bool.not_eq_false', Bool.and_eq_true, Bool.and_eq_false_imp, Bool.or_eq_true, Bool.or_eq_false_iff, decide_eq_true_eq, decide_eq_false_iff_not, Bool.false_eq_true, reduceCtorEq, Int.not_le, Int.not_lt, Decidable.not_not] at h)); rotate_left; ((intro h); (try simp only [beq_self_eq_true, eq_self, not_true_eq_false, not_false_eq_true, decide_true, cond_true, cond_false, Bool.not_true, Bool.not_false, Bool.not_eq_true', Bool.not_eq_false', Bool.and_eq_true, Bool.and_eq_false_imp, Bool.or_eq_true, Bool.or_eq_false_iff, decide_eq_true_eq, decide_eq_false_iff_not, Bool.false_eq_true, reduceCtorEq, Int.not_le, Int.not_lt, Decidable.not_not] at h)))
    | (with_reducible refine z_r ?_ ?_)
    | (with_reducible refine z_wg ?_ ?_)
    | (with_reducible refine z_w ?_ ?_)
    | ((with_reducible apply sh_nil); (intro _))
    | ((with_reducible apply sh_int); (intro _))
    | ((with_reducible apply sh_bool); (intro _))
    | ((with_reducible apply sh_sl); (intro _))
    | ((with_reducible refine z_xf ?zc ?zx ?_); (case zc => decide +kernel); (case zx => decide +kernel))
    | ((with_reducible refine z_o ?zo ?_); (case zo => decide +kernel))
    | ((with_reducible refine z_x ?zx ?_); (case zx => decide +kernel))
    | fail)
        all_goals (try rw [e4] at *)
        all_goals (try rw [e5] at *)
        all_goals (try rw [e6] at *)
        all_goals (try rw [e7] at *)
        all_goals (try rw [e8] at *)
        all_goals (try rw [e9] at *)
        all_goals (try simp only [Int.toNat_natCast, List.length_map] at *)
        all_goals (first
          | omega
          | (simp only [List.length_cons, List.length_nil, hml]; omega)
          | (refine z_n (x + 1) ⟨by omega, by omega⟩ ?_; rw [madeP_succ, List.map_append]; (try rw [wr (x := (x : Int) + 1) ⟨by omega, by omega⟩]); simp only [List.length_map, fillTo_zero, Int.toNat_natCast, Option.isSome_some, and_self, fixB, Nat.reduceLeDiff, false_implies, true_implies, forall_const, St.le0, St.swaps, St.ren, mapV, renO, V.ren, Sc.ren, Ob.ren, swp, slsLe, obsLe, vLe, psLe, scLe, scsLe, obLe, Vq.look, Nat.reduceEqDiff, if_true, if_false, reduceCtorEq, ↓reduceIte, true_and, and_true] <;> (and_intros <;> first | rfl | omega | assumption); done)
          | (trace_state; fail))
      · repeat' (first
    | ((with_reducible refine z_run ?_); (conv => whnf))
    | (with_reducible apply z_t)
    | (with_reducible apply z_f)
    | ((with_reducible apply z_b); ((intro h); (try simp only [beq_self_eq_true, eq_self, not_true_eq_false, not_false_eq_true, decide_true, cond_true, cond_false, Bool.not_true, Bool.not_false, Bool.not_eq_true', Bool.not_eq_false', Bool.and_eq_true, Bool.and_eq_false_imp, Bool.or_eq_true, Bool.or_eq_false_iff, decide_eq_true_eq, decide_eq_false_iff_not, Bool.false_eq_true, reduceCtorEq, Int.not_le, Int.not_lt, Decidable.not_not] at h)); rotate_left; ((intro h); (try simp only [beq_self_eq_true, eq_self, not_true_eq_false, not_false_eq_true, decide_true, cond_true, cond_false, Bool.not_true, Bool.not_false, Bool.not_eq_true', Bool.not_eq_false', Bool.and_eq_true, Bool.and_eq_false_imp, Bool.or_eq_true, Bool.or_eq_false_iff, decide_eq_true_eq, decide_eq_false_iff_not, Bool.false_eq_true, reduceCtorEq, Int.not_le, Int.not_lt, Decidable.not_not] at h)))
    | (with_reducible refine z_r ?_ ?_)
    | (with_reducible refine z_wg ?_ ?_)
    | (with_reducible refine z_w ?_ ?_)
    | ((with_reducible apply sh_nil); (intro _))
    | ((with_reducible apply sh_int); (intro _))
    | ((with_reducible apply sh_bool); (intro _))
    | ((with_reducible apply sh_sl); (intro _))
    | ((with_reducible refine z_xf ?zc ?zx ?_); (case zc => decide +kernel); (case zx => decide +kernel))
    | ((with_reducible refine z_o ?zo ?_); (case zo => decide +kernel))
    | ((with_reducible refine z_x ?zx ?_); (case zx => decide +kernel))
    | fail)
        all_goals ((try simp only [Int.toNat_natCast, tn1, tp1, List.length_map, eq_self, true_and, and_true] at *); (try simp (disch := omega) only [wr, Int.toNat_natCast, tn1, tp1, List.length_map, eq_self, true_and, and_true] at *))
        all_goals (first
          | omega
          | (refine z_n (y + 1) ⟨by omega, by omega⟩ ?_; rw [madeP_next, show x = w by omega]; simp only [List.length_map, fillTo_zero, Int.toNat_natCast, Option.isSome_some, and_self, fixB, Nat.reduceLeDiff, false_implies, true_implies, forall_const, St.le0, St.swaps, St.ren, mapV, renO, V.ren, Sc.ren, Ob.ren, swp, slsLe, obsLe, vLe, psLe, scLe, scsLe, obLe, Vq.look, Nat.reduceEqDiff, if_true, if_false, reduceCtorEq, ↓reduceIte, true_and, and_true] <;> (and_intros <;> first | rfl | omega | assumption); done)
          | (trace_state; fail))
end Go.Proofs.Ytcibheinilkcoaa
