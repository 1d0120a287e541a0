/- The statement Rows.FnExactSeedAfterSaid: for every two ints the law FnExactSeedAfter returns true and leaves its arguments as they were. No conditions. -/
import Derived.Test.YthdaggpmmaaidaaRows
import Derived.WalkKit
import Derived.ProofKit
import Derived.OpenShut
import Derived.Lib.Hide
namespace Go.Proofs.Ythdaggpmmaaidaa.fnExactSeedAfter
open Go.ChangeShapes Go.WideShapes Go.ChangeAt Go.RowKit
set_option linter.unusedVariables false      -- a walk need not use every 'w<i>' (that an integer argument fits its kind)

theorem own : ownKnob Try.prog.godebug = none := by kernel_rfl


def wi (n a b : Int) : Bool := decide (a ≤ n) && decide (n ≤ b)

theorem within_t (n a b : Int) (w : World) (h1 : a ≤ n) (h2 : n ≤ b) :
    Calls Try.prog 31 #[.int .i64 n, .int .i64 a, .int .i64 b] w fun e w' => e = .returned (.bool true) ∧ w = w' := by
  go_enter Try.func31, Try.ntmps31
  go_wp2
  go_ret
  exact ⟨rfl, rfl⟩
theorem within_f (n a b : Int) (w : World) (h : ¬ (a ≤ n ∧ n ≤ b)) :
    Calls Try.prog 31 #[.int .i64 n, .int .i64 a, .int .i64 b] w fun e w' => e = .returned (.bool false) ∧ w = w' := by
  by_cases h1 : a ≤ n
  · have h2 : ¬ n ≤ b := fun h2 => h ⟨h1, h2⟩
    clear h
    go_enter Try.func31, Try.ntmps31
    go_wp2
    go_ret
    exact ⟨rfl, rfl⟩
  · clear h
    go_enter Try.func31, Try.ntmps31
    go_wp2
    go_ret
    exact ⟨rfl, rfl⟩
theorem in_t (n a b : Int) (w : World) (h1 : a ≤ n) (h2 : n ≤ b) :
    Calls Try.prog 30 #[.int .i64 n, .int .i64 a, .int .i64 b] w fun e w' => e = .returned (.bool true) ∧ w = w' := by
  go_enter Try.func30, Try.ntmps30
  go_wp2
  go_ret
  exact ⟨rfl, rfl⟩
theorem in_f (n a b : Int) (w : World) (h : ¬ (a ≤ n ∧ n ≤ b)) :
    Calls Try.prog 30 #[.int .i64 n, .int .i64 a, .int .i64 b] w fun e w' => e = .returned (.bool false) ∧ w = w' := by
  by_cases h1 : a ≤ n
  · have h2 : ¬ n ≤ b := fun h2 => h ⟨h1, h2⟩
    clear h
    go_enter Try.func30, Try.ntmps30
    go_wp2
    go_ret
    exact ⟨rfl, rfl⟩
  · clear h
    go_enter Try.func30, Try.ntmps30
    go_wp2
    go_ret
    exact ⟨rfl, rfl⟩

def iter : Nat → Int → Int
  | 0, s => s
  | k + 1, s => (75 * iter k s + 74) % 65537
theorem iter_bd (k : Nat) (s : Int) (h0 : 0 ≤ s) (h1 : s ≤ 65536) : 0 ≤ iter k s ∧ iter k s ≤ 65536 := by
  cases k with
  | zero => exact ⟨h0, h1⟩
  | succ k => simp only [iter]; omega
theorem iter_succ (k : Nat) (s : Int) : iter (k + 1) s = (75 * iter k s + 74) % 65537 := rfl
def seedR (s k : Int) : Int := if (0 ≤ s ∧ s ≤ 65536) ∧ 0 ≤ k ∧ k ≤ 1000 then iter k.toNat s else -1
theorem ret_int {k : IntKind} {a b : Int} (h : a = b) : Ending.returned (.int k a) = .returned (.int k b) := by rw [h]

set_option maxHeartbeats 1000000 in
theorem implSeed (s k : Int) (w : World) :
    Calls Try.prog 10 #[.int .i64 s, .int .i64 k] w fun e w' => e = .returned (.int .i64 (seedR s k)) ∧ w = w' := by
  unfold seedR
  by_cases hs : 0 ≤ s ∧ s ≤ 65536
  · obtain ⟨hs0, hs1⟩ := hs
    by_cases hk : 0 ≤ k ∧ k ≤ 1000
    · obtain ⟨hk0, hk1⟩ := hk
      obtain ⟨m, rfl⟩ := Int.eq_ofNat_of_zero_le hk0
      go_enter Try.func10, Try.ntmps10
      go_wp2_with ((with_reducible refine (within_t _ _ _ _ (by omega) (by omega)).mono ?_); rintro e w' ⟨rfl, rfl⟩)
      go_loop [0, 14] (fun a i => ∃ j : Nat, j ≤ m ∧ i = .int .i64 j ∧ a = .int .i64 (iter j s)) (fun _ i => m - (intOf i).toNat)
      case atStart => exact ⟨0, by omega, rfl, rfl⟩
      case round =>
        obtain ⟨j, hj, rfl, rfl⟩ := hrel
        obtain ⟨hb0, hb1⟩ := iter_bd j s hs0 hs1
        have H := Lib.hid (iter_succ j s)
        by_cases hlt : j < m
        · go_wp2
          go_round
          case rel => exact ⟨j + 1, by omega, by go_num, by rw [H.out]⟩
          case measure => simp [intOf]; omega
        · obtain rfl : j = m := by omega
          go_wp2
          go_ret
          exact ⟨ret_int (by simp), rfl⟩
    · go_enter Try.func10, Try.ntmps10
      go_wp2_with (first | ((with_reducible refine (within_t _ _ _ _ (by omega) (by omega)).mono ?_); rintro e w' ⟨rfl, rfl⟩) | ((with_reducible refine (within_f _ _ _ _ (by omega)).mono ?_); rintro e w' ⟨rfl, rfl⟩))
      go_ret
      exact ⟨rfl, rfl⟩
  · go_enter Try.func10, Try.ntmps10
    go_wp2_with ((with_reducible refine (within_f _ _ _ _ (by omega)).mono ?_); rintro e w' ⟨rfl, rfl⟩)
    go_ret
    exact ⟨rfl, rfl⟩

set_option maxHeartbeats 1000000 in
theorem specSeed (s k : Int) (w : World) :
    Calls Try.prog 9 #[.int .i64 s, .int .i64 k] w fun e w' => e = .returned (.int .i64 (seedR s k)) ∧ w = w' := by
  unfold seedR
  by_cases hs : 0 ≤ s ∧ s ≤ 65536
  · obtain ⟨hs0, hs1⟩ := hs
    by_cases hk : 0 ≤ k ∧ k ≤ 1000
    · obtain ⟨hk0, hk1⟩ := hk
      obtain ⟨m, rfl⟩ := Int.eq_ofNat_of_zero_le hk0
      go_enter Try.func9, Try.ntmps9
      go_wp2_with ((with_reducible refine (in_t _ _ _ _ (by omega) (by omega)).mono ?_); rintro e w' ⟨rfl, rfl⟩)
      go_loop [0, 5] (fun a i => ∃ j : Nat, j ≤ m ∧ i = .int .i64 j ∧ a = .int .i64 (iter j s)) (fun _ i => m - (intOf i).toNat)
      case atStart => exact ⟨0, by omega, rfl, rfl⟩
      case round =>
        obtain ⟨j, hj, rfl, rfl⟩ := hrel
        obtain ⟨hb0, hb1⟩ := iter_bd j s hs0 hs1
        have H := Lib.hid (iter_succ j s)
        by_cases hlt : j < m
        · go_wp2
          go_round
          case rel => exact ⟨j + 1, by omega, by go_num, by rw [H.out]⟩
          case measure => simp [intOf]; omega
        · obtain rfl : j = m := by omega
          go_wp2
          go_ret
          exact ⟨ret_int (by simp), rfl⟩
    · go_enter Try.func9, Try.ntmps9
      go_wp2_with (first | ((with_reducible refine (in_t _ _ _ _ (by omega) (by omega)).mono ?_); rintro e w' ⟨rfl, rfl⟩) | ((with_reducible refine (in_f _ _ _ _ (by omega)).mono ?_); rintro e w' ⟨rfl, rfl⟩))
      go_ret
      exact ⟨rfl, rfl⟩
  · go_enter Try.func9, Try.ntmps9
    go_wp2_with ((with_reducible refine (in_f _ _ _ _ (by omega)).mono ?_); rintro e w' ⟨rfl, rfl⟩)
    go_ret
    exact ⟨rfl, rfl⟩

/-! ### STEP 1: THE WALK: the Go text returns true. 'Grown w w'': the world has at most new blocks (Derived/RowKit3.lean). Part the cases AHEAD of 'go_enter' where a test parts the walk; take each callee by a contract of your own. -/
theorem walk (a0 : Int) (a1 : Int) (w0 : (Lit.int .i64 a0).wf = true) (w1 : (Lit.int .i64 a1).wf = true) (w : World) :
    Calls Try.prog 3 #[.int .i64 a0, .int .i64 a1] w fun e w' => e = .returned (.bool true) ∧ Grown w w' := by
  clear w0 w1
  go_enter Try.func3, Try.ntmps3
  go_wp2_with (first | ((with_reducible refine (specSeed _ _ _).mono ?_); rintro e w' ⟨rfl, rfl⟩) | ((with_reducible refine (implSeed _ _ _).mono ?_); rintro e w' ⟨rfl, rfl⟩))
  go_ret
  exact ⟨rfl, Grown.refl _⟩

/-! ### THE ROW's STEP: WRITTEN OUT: LEAVE IT -/
set_option maxRecDepth 100000 in
theorem lifted (os : Os) (started : os.Started) (H : Type) (enc : TypeId × Value → H) :
    ReturnsInHanded {} Try.checked os 3 .any (Rows.fnExactSeedAfterSpec.pre6 enc Try.prog Try.f3 Rows.fnExactSeedAfterRow.domain false) (Rows.fnExactSeedAfterSpec.post enc Try.prog Try.f3 false true false false) := by
  refine returnsInHanded_of_change (C := Try.checked) own started (by kernel_rfl) Try.func3
    (ChangeSpec.witness6 (enc := enc) (C := Try.checked) false ⟨#[], #[.int .i64 0, .int .i64 0], []⟩ 8 (by kernel_rfl) (by kernel_rfl) (by kernel_rfl) (by kernel_rfl)) ?_
  intro W base args ds gs before hval0 hW hcnd _
  have hval : ∀ (j : Nat) t v, Try.f3.params[j]? = some t → args[j]? = some v → Value.okWide Try.prog W .any base t v := hval0
  have hW' := hW
  obtain ⟨p, q, hA0, hV, rfl, hfz, hnd⟩ := hW
  have hA : DataW.TrodAll enc Try.prog W 0 (fun _ => true) true Try.f3.params.toList args.toList ds p := hA0
  rw [Try.params3] at hA hval
  obtain ⟨v0, vs0, d0, ds0, p0, q0, hargs, rfl, rfl, h0, r0⟩ := trodAll_cons hA
  obtain ⟨v1, vs1, d1, ds1, p1, q1, rfl, rfl, rfl, h1, r1⟩ := trodAll_cons r0
  obtain ⟨rfl, rfl, rfl⟩ := trodAll_nil r1
  obtain rfl : args = #[v0, v1] := by cases args; simp_all
  obtain ⟨rfl, rfl⟩ := trodVars_none hV
  obtain ⟨a0, rfl, rfl, rfl, w0⟩ := open_int Try.underlying3 (hval 0 3 v0 rfl rfl) h0
  obtain ⟨a1, rfl, rfl, rfl, w1⟩ := open_int Try.underlying3 (hval 1 3 v1 rfl rfl) h1
  clear hA0 hval0
  simp only [List.append_nil] at hW'
  refine (walk a0 a1 w0 w1 W).mono fun e W' ⟨he, hg⟩ => ?_
  subst he
  exact ⟨_, rfl, post_of_same (pa := []) (pv := []) hW' (fun _ _ _ => (trodAll_cons_mk (shut_bool Try.underlying4 _) trodAll_mk0)) (fun sp _ => (trodAll_cons_mk (shut_int Try.underlying3 w0) (trodAll_cons_mk (shut_int Try.underlying3 w1) trodAll_mk0))) (fun _ _ => rfl) rfl
    (hg.frame _) hg.2.1 (ok_one (by kernel_rfl) rfl (okWide_bool_mk Try.underlying4 _))⟩

theorem over : Rows.fnExactSeedAfterRow.holds Try.pinned (OpenSpec.ofChange Rows.fnExactSeedAfterSpec) :=
  OpenClaim.holds_of_wide 3 Try.f3 rfl rfl rfl rfl rfl rfl rfl ⟨rfl, rfl, rfl, rfl, rfl⟩ rfl rfl rfl rfl rfl (by kernel_rfl) Try.func3 (by kernel_rfl)
    (of_decide_eq_true (by kernel_rfl)) (by unfold Func.isWrapper; first | (rw [if_pos (by decide +kernel)]; kernel_rfl) | (rw [if_neg (by decide +kernel)]; exact ⟨rfl, rfl⟩))
    (fun os started H enc _ => lifted os started H enc)

/-- ████ THE STATEMENT ████ -/
theorem proved : Rows.FnExactSeedAfterSaid :=
  over
#print axioms proved
end Go.Proofs.Ythdaggpmmaaidaa.fnExactSeedAfter
