/- The statement Rows.FnQuiltsSaid: for every text of bytes, the law FnQuilts returns true and leaves its argument as it was. No conditions. -/
import Derived.Test.YtcibheinilkcoaaQltT
namespace Go.Proofs.Ytcibheinilkcoaa.fnQuilts
open Go.Vq
set_option linter.unusedSimpArgs false
set_option maxHeartbeats 1000000
theorem body (l : List Int) (hl : l.length ≤ 1048576) (hb : bytes l) (w g : Nat) (sp : List TSpot) (bs : List TBlk) (hD : DrawnQ w g sp bs) (hd : FnC Try.prog 43 [(false, [.sq dU (l.map eU)])] (.tup [(true, [.int .i64 w, .int .i64 g, .fz dSpot (sp.map eSpot)]), (false, [.fz dBlk (bs.map eBlk)])])) : FnC Try.prog 10 [(false, [.sq dU (l.map eU)])] (.one (.bool true)) := by
  have hlen := hD.len
  have hq := hD.ok
  obtain ⟨hwg, hsl⟩ := qOk_wg hq
  have w1 := hwg.w1
  have w6 := hwg.w6
  have g1 := hwg.g1
  have g6 := hwg.g6
  have hwg36 : w * g ≤ 6 * 6 := Nat.mul_le_mul w6 g6
  have hbl := hq.2.1
  have htq := tq_ok hq
  have htl := tqL_len w g sp
  obtain ⟨Z, hZ⟩ : ∃ Z : Nat, (bs.getD 0 default).1 = Z := ⟨(bs.getD 0 default).1.toNat, by have h0 := (hq.2.2 _ (getD_mem (l := bs) (k := 0) (by omega))).1.1; omega⟩
  have hz4 := (hq.2.2 _ (getD_mem (l := bs) (k := 0) (by omega))).1.1
  rw [hZ] at hz4
  have hwz : w * Z ≤ 6 * 4 := Nat.mul_le_mul w6 (by omega)
  have hgz : g * Z ≤ 6 * 4 := Nat.mul_le_mul g6 (by omega)
  have hwz1 : 1 * 1 ≤ w * Z := Nat.mul_le_mul w1 (by omega)
  have hgz1 : 1 * 1 ≤ g * Z := Nat.mul_le_mul g1 (by omega)
  have b0 := atV_bd hb 0
  have b1 := atV_bd hb 1
  have z0 : (bs.getD (Int.toNat 0) default).1 = (Z : Int) := hZ
  have q1 : IntKind.i64.wrap ((w : Int) * (bs.getD (Int.toNat 0) default).1) = ((w * Z : Nat) : Int) := by rw [z0, ← Int.natCast_mul]; exact wr ⟨by omega, by omega⟩
  have q2 : IntKind.i64.wrap ((g : Int) * (bs.getD (Int.toNat 0) default).1) = ((g * Z : Nat) : Int) := by rw [z0, ← Int.natCast_mul]; exact wr ⟨by omega, by omega⟩
  have md : ∀ v : Int, 0 ≤ v → ∀ m : Nat, 1 ≤ m → ∃ X : Nat, v.tmod m = X ∧ X < m := fun v hv m hm => by
    have h1 := Int.emod_nonneg v (b := (m : Int)) (by omega)
    have h2 := Int.emod_lt_of_pos v (b := (m : Int)) (by omega)
    exact ⟨(v % m).toNat, by rw [Int.tmod_eq_emod_of_nonneg hv]; omega, by omega⟩
  obtain ⟨X, eX, hX⟩ := md _ b0.1 (w * Z) (by omega)
  obtain ⟨Y, eY, hY⟩ := md _ b1.1 (g * Z) (by omega)
  have cT := implTurnFz w g sp bs (by omega) hq
  have cQ : FnC Try.prog 46 [aQ g w (tqL w g sp), aBs bs] (.one (.bool true)) := by
    have := implQuiltOk g w (tqL w g sp) bs (by omega)
    rwa [decide_eq_true htq] at this
  have hul := useK_len sp bs.length sp.length
  have hqal : (qaR sp bs).length = 6 := qaL_len sp bs bs.length 0
  have EX : (atV l 0).tmod (IntKind.i64.wrap ((w : Int) * (bs.getD (Int.toNat 0) default).1)) = X := by rw [q1]; exact eX
  have EY : (atV l 1).tmod (IntKind.i64.wrap ((g : Int) * (bs.getD (Int.toNat 0) default).1)) = Y := by rw [q2]; exact eY
  have EV : IntKind.i64.wrap (IntKind.i64.wrap (IntKind.i64.wrap ((g : Int) * (bs.getD (Int.toNat 0) default).1) - 1) - (atV l 1).tmod (IntKind.i64.wrap ((g : Int) * (bs.getD (Int.toNat 0) default).1))) = ((g * Z - 1 - Y : Nat) : Int) := by
    rw [EY, q2, wr (x := ((g * Z : Nat) : Int) - 1) ⟨by omega, by omega⟩, wr ⟨by omega, by omega⟩]; omega
  have gen : ∀ a q : Nat, a < 100 → q ≤ a → IntKind.i64.wrap (q : Int) = q := fun a q ha hq => wr ⟨by omega, by omega⟩
  have dv : ∀ a : Nat, a < 100 → IntKind.i64.wrap ((a : Int).tdiv (bs.getD (Int.toNat 0) default).1) = ((a / Z : Nat) : Int) := fun a ha => by
    rw [z0, Int.tdiv_eq_ediv_of_nonneg (by omega), ← Int.natCast_ediv]
    exact gen a _ ha (Nat.div_le_self a Z)
  have mv : ∀ a : Nat, (a : Int).tmod (bs.getD (Int.toNat 0) default).1 = ((a % Z : Nat) : Int) := fun a => by
    rw [z0, Int.tmod_eq_emod_of_nonneg (by omega), ← Int.natCast_emod]
  have DX : IntKind.i64.wrap (((atV l 0).tmod (IntKind.i64.wrap ((w : Int) * (bs.getD (Int.toNat 0) default).1))).tdiv (bs.getD (Int.toNat 0) default).1) = ((X / Z : Nat) : Int) := by rw [EX]; exact dv X (by omega)
  have DY : IntKind.i64.wrap (((atV l 1).tmod (IntKind.i64.wrap ((g : Int) * (bs.getD (Int.toNat 0) default).1))).tdiv (bs.getD (Int.toNat 0) default).1) = ((Y / Z : Nat) : Int) := by rw [EY]; exact dv Y (by omega)
  have MX : ((atV l 0).tmod (IntKind.i64.wrap ((w : Int) * (bs.getD (Int.toNat 0) default).1))).tmod (bs.getD (Int.toNat 0) default).1 = ((X % Z : Nat) : Int) := by rw [EX]; exact mv X
  have MY : ((atV l 1).tmod (IntKind.i64.wrap ((g : Int) * (bs.getD (Int.toNat 0) default).1))).tmod (bs.getD (Int.toNat 0) default).1 = ((Y % Z : Nat) : Int) := by rw [EY]; exact mv Y
  have hXn : X / Z < w := Nat.div_lt_of_lt_mul (by rw [Nat.mul_comm]; exact hX)
  have hYn : Y / Z < g := Nat.div_lt_of_lt_mul (by rw [Nat.mul_comm]; exact hY)
  have hok := shAt_ok hq hZ hXn hYn
  have hbl16 := blk_len hok.1
  have cW1 : ∀ v1 v2 : Int, v1 = X → v2 = Y → FnC Try.prog 48 [aQ w g sp, aBs bs, (false, [.int .i64 v1]), (false, [.int .i64 v2])] (.agg (rC (whAt Z w sp bs X Y))) := by
    rintro _ _ rfl rfl; exact implWholeAt w g sp bs (by omega) hq Z hZ X Y hX hY
  have cW2 : ∀ v1 v2 : Int, v1 = ((g * Z - 1 - Y : Nat) : Int) → v2 = X → FnC Try.prog 48 [aQ g w (tqL w g sp), aBs bs, (false, [.int .i64 v1]), (false, [.int .i64 v2])] (.agg (rC (turnC (whAt Z w sp bs X Y)))) := by
    rintro _ _ rfl rfl
    have := implWholeAt g w (tqL w g sp) bs (by omega) htq Z hZ (g * Z - 1 - Y) X (by omega) hX
    rwa [wh_turn hq hZ (by omega) hX hY] at this
  have cS : ∀ v1 v2 : Int, v1 = ((X / Z : Nat) : Int) → v2 = ((Y / Z : Nat) : Int) → FnC Try.prog 51 [aQ w g sp, aBs bs, (false, [.int .i64 v1]), (false, [.int .i64 v2])] (.agg [.int .i64 (shAt w sp bs (X / Z) (Y / Z)).1, .fz dCell ((shAt w sp bs (X / Z) (Y / Z)).2.map eCell)]) := by rintro _ _ rfl rfl; exact implShownAt w g sp bs (by omega) hq _ _ hXn hYn
  have cC : ∀ v1 v2 : Int, v1 = ((X % Z : Nat) : Int) → v2 = ((Y % Z : Nat) : Int) → FnC Try.prog 50 [aB (shAt w sp bs (X / Z) (Y / Z)).1 (shAt w sp bs (X / Z) (Y / Z)).2, (false, [.int .i64 v1]), (false, [.int .i64 v2])] (.agg (rC (whAt Z w sp bs X Y))) := by rintro _ _ rfl rfl; exact specCellAt _ _ (by omega) _ _
  refine fn_z (ty := ty) (ts := [.tmp 2]) [0, 2, 3, 4, 5, 6, 7, 8, 9, 10, 11, 12, 13, 14, 15, 16, 17, 18, 19, 21, 65, 122, 126, 138, 149, 164, 169, 182] mixed ty_ok Try.func10 (by kernel_rfl) rfl (by kernel_rfl) (by kernel_rfl) rfl (.inl rfl) (Nat.le_of_ble_eq_true rfl) (by simp only [entry, entryV, C.toS, Nat.zero_add, Nat.reduceAdd, List.map_cons, List.map_nil]; exact rfl) ?_
  repeat' (first
    | ((with_reducible refine z_run ?_); (conv => whnf))
    | (with_reducible apply z_t)
    | (with_reducible apply z_f)
    | ((with_reducible apply z_b); ((intro h); (try simp only [beq_self_eq_true, eq_self, not_true_eq_false, not_false_eq_true, decide_true, cond_true, cond_false, Bool.not_true, Bool.not_false, Bool.not_eq_true', Bool.not_eq_false', Bool.and_eq_true, Bool.and_eq_false_imp, Bool.or_eq_true, Bool.or_eq_false_iff, decide_eq_true_eq, decide_eq_false_iff_not, Bool.false_eq_true, reduceCtorEq, Int.not_le, Int.not_lt, Decidable.not_not] at h)); rotate_left; ((intro h); (try simp only [beq_self_eq_true, eq_self, not_true_eq_false, not_false_eq_true, decide_true, cond_true, cond_false, Bool.not_true, Bool.not_false, Bool.not_eq_true', Bool.not_eq_false', Bool.and_eq_true, Bool.and_eq_false_imp, Bool.or_eq_true, Bool.or_eq_false_iff, decide_eq_true_eq, decide_eq_false_iff_not, Bool.false_eq_true, reduceCtorEq, Int.not_le, Int.not_lt, Decidable.not_not] at h)))
    | (with_reducible refine z_r ?_ ?_)
    | (with_reducible refine z_wg ?_ ?_)
    | (with_reducible refine z_w ?_ ?_)
    | ((with_reducible apply sh_nil); (intro _))
    | ((with_reducible apply sh_int); (intro _))
    | ((with_reducible apply sh_bool); (intro _))
    | ((with_reducible apply sh_sl); (intro _))
    | ((with_reducible refine z_xf ?zc ?zx ?_); (case zc => decide +kernel); (case zx => decide +kernel))
    | (with_reducible refine z_k (big_fn l hl) ?_)
    | (with_reducible refine z_k hd ?_)
    | (with_reducible refine z_k cT ?_)
    | (with_reducible refine z_k (implUseOf _ _ _ _ (by omega) hq) ?_)
    | (with_reducible refine z_k (implQuiltAreas _ _ _ _ (by omega) hq) ?_)
    | (with_reducible refine z_k cQ ?_)
    | (with_reducible refine z_k (at_fn l hl hb _ (by omega)) ?_)
    | (with_reducible refine z_k (cW1 _ _ EX EY) ?_)
    | (with_reducible refine z_k (cW2 _ _ EV EX) ?_)
    | (with_reducible refine z_k (cS _ _ DX DY) ?_)
    | (with_reducible refine z_k (cC _ _ MX MY) ?_)
    | (with_reducible refine z_k (specTurnCell _) ?_)
    | ((with_reducible refine z_o ?zo ?_); (case zo => decide +kernel))
    | ((with_reducible refine z_x ?zx ?_); (case zx => decide +kernel))
    | fail)
  all_goals (try rw [q1] at *)
  all_goals (try rw [q2] at *)
  all_goals (try rw [z0] at *)
  all_goals (try simp only [List.length_map] at *)
  all_goals (first
    | omega
    | contradiction
    | (exfalso; omega)
    | (exfalso; exact h ⟨rfl, rfl, rfl⟩)
    | skip)
  have hus : ∀ k, k ≤ bs.length → 0 ≤ usum sp (fun _ => 1) k ∧ usum sp (fun _ => 1) k ≤ 36 * 1 * k := usum_bdm sp (fun _ => 1) (by omega) bs.length (fun i _ => ⟨by decide, by decide⟩)
  have hug : ∀ k, k < bs.length → (useK sp bs.length sp.length).getD k default = cntS sp k := fun k h => by rw [useK_get sp h, List.take_of_length_le (Nat.le_refl _)]
  refine z_li (fun k : Nat => k ≤ bs.length) (0 : Nat) (fun k => bs.length - k) (fun k => ⟨[(3, .one (.bx 3 0)), (4, .one (.ro dBlk (bs.map eBlk))), (5, .one (.bx 5 0)), (7, .one (.root 35)), (8, .one (.root 38)), (9, .one (.int .i64 Z)), (13, .one (.int .i64 (usum sp (fun _ => 1) k))), (14, .one (.int .i64 k))], [(38, .row 3 dI ((qaR sp bs).map eI)), (35, .row 3 dI ((useK sp bs.length sp.length).map eI)), (5, .box [.int .i64 g, .int .i64 w, .ro dSpot ((tqL w g sp).map eSpot)]), (3, .box [.int .i64 w, .int .i64 g, .ro dSpot (sp.map eSpot)])]⟩) (by omega) ?_ ?_
  · simp only [usum]; simp only [List.length_map, fillTo_zero, Int.toNat_natCast, Option.isSome_some, and_self, fixB, Nat.reduceLeDiff, false_implies, true_implies, forall_const, St.le0, St.swaps, St.ren, mapV, renO, V.ren, Sc.ren, Ob.ren, swp, slsLe, obsLe, vLe, psLe, scLe, scsLe, obLe, Vq.look, Nat.reduceEqDiff, if_true, if_false, reduceCtorEq, ↓reduceIte, true_and, and_true] <;> (and_intros <;> first | rfl | omega | assumption)
  · intro k hk
    have hu1 := hus k hk
    by_cases hlt : k < bs.length
    · have hu2 := hug k hlt
      have hu3 := hus (k + 1) hlt
      simp only [usum, Int.mul_one] at hu3
      repeat' (first
    | ((with_reducible refine z_run ?_); (conv => whnf))
    | (with_reducible apply z_t)
    | (with_reducible apply z_f)
    | ((with_reducible apply z_b); ((intro h); (try simp only [beq_self_eq_true, eq_self, not_true_eq_false, not_false_eq_true, decide_true, cond_true, cond_false, Bool.not_true, Bool.not_false, Bool.not_eq_true', Bool.not_eq_false', Bool.and_eq_true, Bool.and_eq_false_imp, Bool.or_eq_true, Bool.or_eq_false_iff, decide_eq_true_eq, decide_eq_false_iff_not, Bool.false_eq_true, reduceCtorEq, Int.not_le, Int.not_lt, Decidable.not_not] at h)); rotate_left; ((intro h); (try simp only [beq_self_eq_true, eq_self, not_true_eq_false, not_false_eq_true, decide_true, cond_true, cond_false, Bool.not_true, Bool.not_false, Bool.not_eq_true', Bool.not_eq_false', Bool.and_eq_true, Bool.and_eq_false_imp, Bool.or_eq_true, Bool.or_eq_false_iff, decide_eq_true_eq, decide_eq_false_iff_not, Bool.false_eq_true, reduceCtorEq, Int.not_le, Int.not_lt, Decidable.not_not] at h)))
    | (with_reducible refine z_r ?_ ?_)
    | (with_reducible refine z_wg ?_ ?_)
    | (with_reducible refine z_w ?_ ?_)
    | ((with_reducible apply sh_nil); (intro _))
    | ((with_reducible apply sh_int); (intro _))
    | ((with_reducible apply sh_bool); (intro _))
    | ((with_reducible apply sh_sl); (intro _))
    | ((with_reducible refine z_xf ?zc ?zx ?_); (case zc => decide +kernel); (case zx => decide +kernel))
    | ((with_reducible refine z_o ?zo ?_); (case zo => decide +kernel))
    | ((with_reducible refine z_x ?zx ?_); (case zx => decide +kernel))
    | fail)
      all_goals ((try simp only [Int.toNat_natCast, tn1, tp1, List.length_map, eq_self, true_and, and_true] at *); (try simp (disch := omega) only [wr, Int.toNat_natCast, tn1, tp1, List.length_map, eq_self, true_and, and_true] at *))
      all_goals (try rw [hu2] at *)
      all_goals (first
        | omega
        | (refine z_n (k + 1) ⟨by omega, by omega⟩ ?_; simp only [usum, Int.mul_one]; (try rw [wr ⟨by omega, by omega⟩]); simp only [List.length_map, fillTo_zero, Int.toNat_natCast, Option.isSome_some, and_self, fixB, Nat.reduceLeDiff, false_implies, true_implies, forall_const, St.le0, St.swaps, St.ren, mapV, renO, V.ren, Sc.ren, Ob.ren, swp, slsLe, obsLe, vLe, psLe, scLe, scsLe, obLe, Vq.look, Nat.reduceEqDiff, if_true, if_false, reduceCtorEq, ↓reduceIte, true_and, and_true] <;> (and_intros <;> first | rfl | omega | assumption); done)
        | (trace_state; fail))
    · repeat' (first
    | ((with_reducible refine z_run ?_); (conv => whnf))
    | (with_reducible apply z_t)
    | (with_reducible apply z_f)
    | ((with_reducible apply z_b); ((intro h); (try simp only [beq_self_eq_true, eq_self, not_true_eq_false, not_false_eq_true, decide_true, cond_true, cond_false, Bool.not_true, Bool.not_false, Bool.not_eq_true', Bool.not_eq_false', Bool.and_eq_true, Bool.and_eq_false_imp, Bool.or_eq_true, Bool.or_eq_false_iff, decide_eq_true_eq, decide_eq_false_iff_not, Bool.false_eq_true, reduceCtorEq, Int.not_le, Int.not_lt, Decidable.not_not] at h)); rotate_left; ((intro h); (try simp only [beq_self_eq_true, eq_self, not_true_eq_false, not_false_eq_true, decide_true, cond_true, cond_false, Bool.not_true, Bool.not_false, Bool.not_eq_true', Bool.not_eq_false', Bool.and_eq_true, Bool.and_eq_false_imp, Bool.or_eq_true, Bool.or_eq_false_iff, decide_eq_true_eq, decide_eq_false_iff_not, Bool.false_eq_true, reduceCtorEq, Int.not_le, Int.not_lt, Decidable.not_not] at h)))
    | (with_reducible refine z_r ?_ ?_)
    | (with_reducible refine z_wg ?_ ?_)
    | (with_reducible refine z_w ?_ ?_)
    | ((with_reducible apply sh_nil); (intro _))
    | ((with_reducible apply sh_int); (intro _))
    | ((with_reducible apply sh_bool); (intro _))
    | ((with_reducible apply sh_sl); (intro _))
    | ((with_reducible refine z_xf ?zc ?zx ?_); (case zc => decide +kernel); (case zx => decide +kernel))
    | ((with_reducible refine z_o ?zo ?_); (case zo => decide +kernel))
    | ((with_reducible refine z_x ?zx ?_); (case zx => decide +kernel))
    | fail)
      all_goals ((try simp only [Int.toNat_natCast, tn1, tp1, List.length_map, eq_self, true_and, and_true] at *); (try simp (disch := omega) only [wr, Int.toNat_natCast, tn1, tp1, List.length_map, eq_self, true_and, and_true] at *))
      all_goals (first
        | omega
        | skip)
      rw [show usum sp (fun _ => 1) k = ((w * g : Nat) : Int) by rw [show k = bs.length by omega, use_sum hq, hsl]]
      have hqb := fun a => qaF_bd (sp := sp) (bs := bs) (by omega) (by omega) a bs.length (Nat.le_refl _)
      have hs6b : ∀ k : Nat, 0 ≤ sum6 (fun a => qaF sp bs a bs.length) k ∧ sum6 (fun a => qaF sp bs a bs.length) k ≤ 13824 * k := fun k => by
        induction k with
        | zero => simp [sum6]
        | succ k ih => have := hqb k; simp only [sum6]; omega
      have hgq : ∀ k, k < 6 → (qaR sp bs).getD k default = qaF sp bs k bs.length := fun k h => by
        have e : qaR sp bs = (List.range 6).map fun a : Nat => qaF sp bs a bs.length := by unfold qaR qaL; exact List.map_congr_left fun a _ => if_neg (by omega)
        rw [e]; simp [List.getD, h]
      clear h
      refine z_li (fun k : Nat => k ≤ 6) (0 : Nat) (fun k => 6 - k) (fun k => ⟨[(3, .one (.bx 3 0)), (4, .one (.ro dBlk (bs.map eBlk))), (5, .one (.bx 5 0)), (8, .one (.root 38)), (9, .one (.int .i64 Z)), (13, .one (.int .i64 ((w * g : Nat) : Int))), (15, .one (.int .i64 (sum6 (fun a => qaF sp bs a bs.length) k))), (16, .one (.int .i64 k))], [(38, .row 3 dI ((qaR sp bs).map eI)), (5, .box [.int .i64 g, .int .i64 w, .ro dSpot ((tqL w g sp).map eSpot)]), (3, .box [.int .i64 w, .int .i64 g, .ro dSpot (sp.map eSpot)])]⟩) (by omega) ?_ ?_
      · simp only [sum6]; simp only [List.length_map, fillTo_zero, Int.toNat_natCast, Option.isSome_some, and_self, fixB, Nat.reduceLeDiff, false_implies, true_implies, forall_const, St.le0, St.swaps, St.ren, mapV, renO, V.ren, Sc.ren, Ob.ren, swp, slsLe, obsLe, vLe, psLe, scLe, scsLe, obLe, Vq.look, Nat.reduceEqDiff, if_true, if_false, reduceCtorEq, ↓reduceIte, true_and, and_true] <;> (and_intros <;> first | rfl | omega | assumption)
      · intro k hk
        have h6b := hs6b k
        have hqk := hqb k
        by_cases hlt : k < 6
        · have f7 := hgq k hlt
          repeat' (first
    | ((with_reducible refine z_run ?_); (conv => whnf))
    | (with_reducible apply z_t)
    | (with_reducible apply z_f)
    | ((with_reducible apply z_b); ((intro h); (try simp only [beq_self_eq_true, eq_self, not_true_eq_false, not_false_eq_true, decide_true, cond_true, cond_false, Bool.not_true, Bool.not_false, Bool.not_eq_true', Bool.not_eq_false', Bool.and_eq_true, Bool.and_eq_false_imp, Bool.or_eq_true, Bool.or_eq_false_iff, decide_eq_true_eq, decide_eq_false_iff_not, Bool.false_eq_true, reduceCtorEq, Int.not_le, Int.not_lt, Decidable.not_not] at h)); rotate_left; ((intro h); (try simp only [beq_self_eq_true, eq_self, not_true_eq_false, not_false_eq_true, decide_true, cond_true, cond_false, Bool.not_true, Bool.not_false, Bool.not_eq_true', Bool.not_eq_false', Bool.and_eq_true, Bool.and_eq_false_imp, Bool.or_eq_true, Bool.or_eq_false_iff, decide_eq_true_eq, decide_eq_false_iff_not, Bool.false_eq_true, reduceCtorEq, Int.not_le, Int.not_lt, Decidable.not_not] at h)))
    | (with_reducible refine z_r ?_ ?_)
    | (with_reducible refine z_wg ?_ ?_)
    | (with_reducible refine z_w ?_ ?_)
    | ((with_reducible apply sh_nil); (intro _))
    | ((with_reducible apply sh_int); (intro _))
    | ((with_reducible apply sh_bool); (intro _))
    | ((with_reducible apply sh_sl); (intro _))
    | ((with_reducible refine z_xf ?zc ?zx ?_); (case zc => decide +kernel); (case zx => decide +kernel))
    | ((with_reducible refine z_o ?zo ?_); (case zo => decide +kernel))
    | ((with_reducible refine z_x ?zx ?_); (case zx => decide +kernel))
    | fail)
          all_goals ((try simp only [Int.toNat_natCast, tn1, tp1, List.length_map, eq_self, true_and, and_true] at *); (try simp (disch := omega) only [wr, Int.toNat_natCast, tn1, tp1, List.length_map, eq_self, true_and, and_true] at *))
          all_goals (try rw [f7] at *)
          all_goals (first
            | omega
            | (refine z_n (k + 1) ⟨by omega, by omega⟩ ?_; rw [sum6]; (try rw [wr ⟨by omega, by omega⟩]); simp only [List.length_map, fillTo_zero, Int.toNat_natCast, Option.isSome_some, and_self, fixB, Nat.reduceLeDiff, false_implies, true_implies, forall_const, St.le0, St.swaps, St.ren, mapV, renO, V.ren, Sc.ren, Ob.ren, swp, slsLe, obsLe, vLe, psLe, scLe, scsLe, obLe, Vq.look, Nat.reduceEqDiff, if_true, if_false, reduceCtorEq, ↓reduceIte, true_and, and_true] <;> (and_intros <;> first | rfl | omega | assumption); done)
            | (trace_state; fail))
        · repeat' (first
    | ((with_reducible refine z_run ?_); (conv => whnf))
    | (with_reducible apply z_t)
    | (with_reducible apply z_f)
    | ((with_reducible apply z_b); ((intro h); (try simp only [beq_self_eq_true, eq_self, not_true_eq_false, not_false_eq_true, decide_true, cond_true, cond_false, Bool.not_true, Bool.not_false, Bool.not_eq_true', Bool.not_eq_false', Bool.and_eq_true, Bool.and_eq_false_imp, Bool.or_eq_true, Bool.or_eq_false_iff, decide_eq_true_eq, decide_eq_false_iff_not, Bool.false_eq_true, reduceCtorEq, Int.not_le, Int.not_lt, Decidable.not_not] at h)); rotate_left; ((intro h); (try simp only [beq_self_eq_true, eq_self, not_true_eq_false, not_false_eq_true, decide_true, cond_true, cond_false, Bool.not_true, Bool.not_false, Bool.not_eq_true', Bool.not_eq_false', Bool.and_eq_true, Bool.and_eq_false_imp, Bool.or_eq_true, Bool.or_eq_false_iff, decide_eq_true_eq, decide_eq_false_iff_not, Bool.false_eq_true, reduceCtorEq, Int.not_le, Int.not_lt, Decidable.not_not] at h)))
    | (with_reducible refine z_r ?_ ?_)
    | (with_reducible refine z_wg ?_ ?_)
    | (with_reducible refine z_w ?_ ?_)
    | ((with_reducible apply sh_nil); (intro _))
    | ((with_reducible apply sh_int); (intro _))
    | ((with_reducible apply sh_bool); (intro _))
    | ((with_reducible apply sh_sl); (intro _))
    | ((with_reducible refine z_xf ?zc ?zx ?_); (case zc => decide +kernel); (case zx => decide +kernel))
    | ((with_reducible refine z_o ?zo ?_); (case zo => decide +kernel))
    | ((with_reducible refine z_x ?zx ?_); (case zx => decide +kernel))
    | fail)
          all_goals ((try simp only [Int.toNat_natCast, tn1, tp1, List.length_map, eq_self, true_and, and_true] at *); (try simp (disch := omega) only [wr, Int.toNat_natCast, tn1, tp1, List.length_map, eq_self, true_and, and_true] at *))
          all_goals (first
            | omega
            | skip)
          have hS : sum6 (fun a => qaF sp bs a bs.length) k = 4 * ((Z : Int) * Z) * ((w * g : Nat) : Int) := by rw [show k = 6 by omega, qa_sum6 hq, hZ, hsl]
          have hS2 : 0 ≤ 4 * ((Z : Int) * Z) * ((w * g : Nat) : Int) ∧ 4 * ((Z : Int) * Z) * ((w * g : Nat) : Int) ≤ 82944 := by omega
          rw [hS]
          clear h
          refine z_li (fun j : Nat => j ≤ 4) (0 : Nat) (fun j => 4 - j) (fun j => ⟨[(3, .one (.bx 3 0)), (4, .one (.ro dBlk (bs.map eBlk))), (5, .one (.bx 5 0)), (8, .one (.root 38)), (9, .one (.int .i64 Z)), (13, .one (.int .i64 ((w * g : Nat) : Int))), (15, .one (.int .i64 (4 * ((Z : Int) * Z) * ((w * g : Nat) : Int)))), (17, .one (.bx 17 0)), (18, .one (.int .i64 j))], [(17, .box [.int .i64 (tqN w g sp j).1, .int .i64 (tqN w g sp j).2.1, .ro dSpot ((tqN w g sp j).2.2.map eSpot)]), (38, .row 3 dI ((qaR sp bs).map eI)), (5, .box [.int .i64 g, .int .i64 w, .ro dSpot ((tqL w g sp).map eSpot)]), (3, .box [.int .i64 w, .int .i64 g, .ro dSpot (sp.map eSpot)])]⟩) (by omega) ?_ ?_
          · simp only [tqN]; simp only [List.length_map, fillTo_zero, Int.toNat_natCast, Option.isSome_some, and_self, fixB, Nat.reduceLeDiff, false_implies, true_implies, forall_const, St.le0, St.swaps, St.ren, mapV, renO, V.ren, Sc.ren, Ob.ren, swp, slsLe, obsLe, vLe, psLe, scLe, scsLe, obLe, Vq.look, Nat.reduceEqDiff, if_true, if_false, reduceCtorEq, ↓reduceIte, true_and, and_true] <;> (and_intros <;> first | rfl | omega | assumption)
          · intro j hj
            have hqj := tqN_ok hq j
            have hlj := qOk_len hqj
            by_cases hj4 : j < 4
            · repeat' (first
    | ((with_reducible refine z_run ?_); (conv => whnf))
    | (with_reducible apply z_t)
    | (with_reducible apply z_f)
    | ((with_reducible apply z_b); ((intro h); (try simp only [beq_self_eq_true, eq_self, not_true_eq_false, not_false_eq_true, decide_true, cond_true, cond_false, Bool.not_true, Bool.not_false, Bool.not_eq_true', Bool.not_eq_false', Bool.and_eq_true, Bool.and_eq_false_imp, Bool.or_eq_true, Bool.or_eq_false_iff, decide_eq_true_eq, decide_eq_false_iff_not, Bool.false_eq_true, reduceCtorEq, Int.not_le, Int.not_lt, Decidable.not_not] at h)); rotate_left; ((intro h); (try simp only [beq_self_eq_true, eq_self, not_true_eq_false, not_false_eq_true, decide_true, cond_true, cond_false, Bool.not_true, Bool.not_false, Bool.not_eq_true', Bool.not_eq_false', Bool.and_eq_true, Bool.and_eq_false_imp, Bool.or_eq_true, Bool.or_eq_false_iff, decide_eq_true_eq, decide_eq_false_iff_not, Bool.false_eq_true, reduceCtorEq, Int.not_le, Int.not_lt, Decidable.not_not] at h)))
    | (with_reducible refine z_r ?_ ?_)
    | (with_reducible refine z_wg ?_ ?_)
    | (with_reducible refine z_w ?_ ?_)
    | ((with_reducible apply sh_nil); (intro _))
    | ((with_reducible apply sh_int); (intro _))
    | ((with_reducible apply sh_bool); (intro _))
    | ((with_reducible apply sh_sl); (intro _))
    | ((with_reducible refine z_xf ?zc ?zx ?_); (case zc => decide +kernel); (case zx => decide +kernel))
    | (with_reducible refine z_k (implTurnFz _ _ _ _ (by omega) hqj) ?_)
    | ((with_reducible refine z_o ?zo ?_); (case zo => decide +kernel))
    | ((with_reducible refine z_x ?zx ?_); (case zx => decide +kernel))
    | fail)
              all_goals ((try simp only [Int.toNat_natCast, tn1, tp1, List.length_map, eq_self, true_and, and_true] at *); (try simp (disch := omega) only [wr, Int.toNat_natCast, tn1, tp1, List.length_map, eq_self, true_and, and_true] at *))
              all_goals (first
                | omega
                | (refine z_n (j + 1) ⟨by omega, by omega⟩ ?_; simp only [tqN]; simp only [List.length_map, fillTo_zero, Int.toNat_natCast, Option.isSome_some, and_self, fixB, Nat.reduceLeDiff, false_implies, true_implies, forall_const, St.le0, St.swaps, St.ren, mapV, renO, V.ren, Sc.ren, Ob.ren, swp, slsLe, obsLe, vLe, psLe, scLe, scsLe, obLe, Vq.look, Nat.reduceEqDiff, if_true, if_false, reduceCtorEq, ↓reduceIte, true_and, and_true] <;> (and_intros <;> first | rfl | omega | assumption); done)
                | (trace_state; fail))
            · rw [show j = 4 by omega, tqN4 hq]
              repeat' (first
    | ((with_reducible refine z_run ?_); (conv => whnf))
    | (with_reducible apply z_t)
    | (with_reducible apply z_f)
    | ((with_reducible apply z_b); ((intro h); (try simp only [beq_self_eq_true, eq_self, not_true_eq_false, not_false_eq_true, decide_true, cond_true, cond_false, Bool.not_true, Bool.not_false, Bool.not_eq_true', Bool.not_eq_false', Bool.and_eq_true, Bool.and_eq_false_imp, Bool.or_eq_true, Bool.or_eq_false_iff, decide_eq_true_eq, decide_eq_false_iff_not, Bool.false_eq_true, reduceCtorEq, Int.not_le, Int.not_lt, Decidable.not_not] at h)); rotate_left; ((intro h); (try simp only [beq_self_eq_true, eq_self, not_true_eq_false, not_false_eq_true, decide_true, cond_true, cond_false, Bool.not_true, Bool.not_false, Bool.not_eq_true', Bool.not_eq_false', Bool.and_eq_true, Bool.and_eq_false_imp, Bool.or_eq_true, Bool.or_eq_false_iff, decide_eq_true_eq, decide_eq_false_iff_not, Bool.false_eq_true, reduceCtorEq, Int.not_le, Int.not_lt, Decidable.not_not] at h)))
    | (with_reducible refine z_r ?_ ?_)
    | (with_reducible refine z_wg ?_ ?_)
    | (with_reducible refine z_w ?_ ?_)
    | ((with_reducible apply sh_nil); (intro _))
    | ((with_reducible apply sh_int); (intro _))
    | ((with_reducible apply sh_bool); (intro _))
    | ((with_reducible apply sh_sl); (intro _))
    | ((with_reducible refine z_xf ?zc ?zx ?_); (case zc => decide +kernel); (case zx => decide +kernel))
    | ((with_reducible refine z_o ?zo ?_); (case zo => decide +kernel))
    | ((with_reducible refine z_x ?zx ?_); (case zx => decide +kernel))
    | fail)
              all_goals ((try simp only [Int.toNat_natCast, tn1, tp1, List.length_map, eq_self, true_and, and_true] at *); (try simp (disch := omega) only [wr, Int.toNat_natCast, tn1, tp1, List.length_map, eq_self, true_and, and_true] at *))
              all_goals (first
                | omega
                | (exfalso; exact h trivial)
                | skip)
              have cA : FnC Try.prog 45 [aQ g w (tqL w g sp), aBs bs] (.one (.own 3 dI ((qaR sp bs).map eI))) := by
                have := implQuiltAreas g w (tqL w g sp) bs (by omega) htq
                rwa [tq_areas hq] at this
              have zz := sq_wrap hz4
              have F1 : ((w * g : Nat) : Int) = IntKind.i64.wrap ((w : Int) * g) := by rw [← Int.natCast_mul]; exact (wr ⟨by omega, by omega⟩).symm
              have F2 : 4 * ((Z : Int) * Z) * ((w * g : Nat) : Int) = IntKind.i64.wrap (IntKind.i64.wrap (IntKind.i64.wrap (4 * (Z : Int)) * Z) * ((w * g : Nat) : Int)) := by
                rw [wr (x := 4 * (Z : Int)) ⟨by omega, by omega⟩, show 4 * (Z : Int) * Z = 4 * ((Z : Int) * Z) from Int.mul_assoc .., wr (x := 4 * ((Z : Int) * Z)) ⟨by omega, by omega⟩]
                exact (wr ⟨by omega, by omega⟩).symm
              clear h
              refine z_li (fun k : Nat => k ≤ sp.length) (0 : Nat) (fun k => sp.length - k) (fun k => ⟨[(3, .one (.bx 3 0)), (4, .one (.ro dBlk (bs.map eBlk))), (5, .one (.bx 5 0)), (8, .one (.root 38)), (9, .one (.int .i64 Z)), (13, .one (.int .i64 ((w * g : Nat) : Int))), (15, .one (.int .i64 (4 * ((Z : Int) * Z) * ((w * g : Nat) : Int)))), (17, .one (.bx 17 0)), (19, .one (.int .i64 k))], [(17, .box [.int .i64 w, .int .i64 g, .ro dSpot (sp.map eSpot)]), (38, .row 3 dI ((qaR sp bs).map eI)), (5, .box [.int .i64 g, .int .i64 w, .ro dSpot ((tqL w g sp).map eSpot)]), (3, .box [.int .i64 w, .int .i64 g, .ro dSpot (sp.map eSpot)])]⟩) (by omega) ?_ ?_
              · simp only [List.length_map, fillTo_zero, Int.toNat_natCast, Option.isSome_some, and_self, fixB, Nat.reduceLeDiff, false_implies, true_implies, forall_const, St.le0, St.swaps, St.ren, mapV, renO, V.ren, Sc.ren, Ob.ren, swp, slsLe, obsLe, vLe, psLe, scLe, scsLe, obLe, Vq.look, Nat.reduceEqDiff, if_true, if_false, reduceCtorEq, ↓reduceIte, true_and, and_true] <;> (and_intros <;> first | rfl | omega | assumption)
              · intro k hk
                repeat' (first
    | ((with_reducible refine z_run ?_); (conv => whnf))
    | (with_reducible apply z_t)
    | (with_reducible apply z_f)
    | ((with_reducible apply z_b); ((intro h); (try simp only [beq_self_eq_true, eq_self, not_true_eq_false, not_false_eq_true, decide_true, cond_true, cond_false, Bool.not_true, Bool.not_false, Bool.not_eq_true', Bool.not_eq_false', Bool.and_eq_true, Bool.and_eq_false_imp, Bool.or_eq_true, Bool.or_eq_false_iff, decide_eq_true_eq, decide_eq_false_iff_not, Bool.false_eq_true, reduceCtorEq, Int.not_le, Int.not_lt, Decidable.not_not] at h)); rotate_left; ((intro h); (try simp only [beq_self_eq_true, eq_self, not_true_eq_false, not_false_eq_true, decide_true, cond_true, cond_false, Bool.not_true, Bool.not_false, Bool.not_eq_true', Bool.not_eq_false', Bool.and_eq_true, Bool.and_eq_false_imp, Bool.or_eq_true, Bool.or_eq_false_iff, decide_eq_true_eq, decide_eq_false_iff_not, Bool.false_eq_true, reduceCtorEq, Int.not_le, Int.not_lt, Decidable.not_not] at h)))
    | (with_reducible refine z_r ?_ ?_)
    | (with_reducible refine z_wg ?_ ?_)
    | (with_reducible refine z_w ?_ ?_)
    | ((with_reducible apply sh_nil); (intro _))
    | ((with_reducible apply sh_int); (intro _))
    | ((with_reducible apply sh_bool); (intro _))
    | ((with_reducible apply sh_sl); (intro _))
    | ((with_reducible refine z_xf ?zc ?zx ?_); (case zc => decide +kernel); (case zx => decide +kernel))
    | (with_reducible refine z_k cA ?_)
    | (with_reducible refine z_k (lSameInts_fn _ _ (by omega)) ?_)
    | ((with_reducible refine z_o ?zo ?_); (case zo => decide +kernel))
    | ((with_reducible refine z_x ?zx ?_); (case zx => decide +kernel))
    | fail)
                all_goals (try simp only [List.length_map, Int.toNat_natCast] at *)
                all_goals (first
                  | omega
                  | exact absurd F1 (by assumption)
                  | exact absurd F2 (by assumption)
                  | exact absurd (⟨trivial, trivial⟩ : True ∧ True) (by assumption)
                  | (exfalso; exact h trivial)
                  | (exfalso; exact h ⟨rfl, rfl⟩)
                  | (exfalso; exact h rfl)
                  | (refine z_n (k + 1) ⟨by omega, by omega⟩ ?_; (try rw [wr ⟨by omega, by omega⟩]); simp only [List.length_map, fillTo_zero, Int.toNat_natCast, Option.isSome_some, and_self, fixB, Nat.reduceLeDiff, false_implies, true_implies, forall_const, St.le0, St.swaps, St.ren, mapV, renO, V.ren, Sc.ren, Ob.ren, swp, slsLe, obsLe, vLe, psLe, scLe, scsLe, obLe, Vq.look, Nat.reduceEqDiff, if_true, if_false, reduceCtorEq, ↓reduceIte, true_and, and_true] <;> (and_intros <;> first | rfl | omega | assumption); done)
                  | (refine z_e rfl ?_; simp only [fin, finP, finM, ids, nodupB, tupP, tupM, memN, List.length_cons, List.length_nil, List.nil_append, List.append_nil, List.cons_append, Nat.zero_add, Nat.reduceAdd, ne_eq, not_false_eq_true, eq_self, ev, Vq.look, List.map_cons, List.map_nil, and_true, true_and, Nat.reduceEqDiff, if_true, if_false, reduceCtorEq, ↓reduceIte]; done)
                  | (refine z_e rfl ?_; simp only [fin, finP, finM, ids, nodupB, tupP, tupM, memN, List.length_cons, List.length_nil, List.nil_append, List.append_nil, List.cons_append, Nat.zero_add, Nat.reduceAdd, ne_eq, not_false_eq_true, eq_self, ev, Vq.look, List.map_cons, List.map_nil, and_true, true_and, Nat.reduceEqDiff, if_true, if_false, reduceCtorEq, ↓reduceIte]; rfl)
                  | (refine z_e rfl ?_; simp only [fin, finP, finM, ids, nodupB, tupP, tupM, memN, List.length_cons, List.length_nil, List.nil_append, List.append_nil, List.cons_append, Nat.zero_add, Nat.reduceAdd, ne_eq, not_false_eq_true, eq_self, ev, Vq.look, List.map_cons, List.map_nil, and_true, true_and, Nat.reduceEqDiff, if_true, if_false, reduceCtorEq, ↓reduceIte]; simp only [cond_true, decide_true]; done)
                  | (trace_state; fail))
theorem law : LawFn Try.prog 10 [(false, [.sl dU])] := by
  intro caps hk hok
  obtain ⟨cs0, q0, rfl, e0, hk0⟩ := caps_cons hk
  obtain rfl := caps_nil hk0
  obtain ⟨c0_0, r0_0, rfl, f0_0, g0_0⟩ := kds_cons e0
  obtain rfl := kds_nil g0_0
  have ok0_0 := hok _ (List.getElem_mem (n := 0) (by simp)) _ (List.getElem_mem (n := 0) (by simp))
  simp only [List.getElem_cons_zero, List.getElem_cons_succ] at ok0_0
  obtain ⟨rows0_0, rfl⟩ := kd_sl f0_0
  obtain ⟨l, rfl⟩ := rows_map (e := eU) rowU ok0_0.rows.1
  have wl := ok0_0.len
  rw [List.length_map] at wl
  have hb := bytes_of ok0_0
  by_cases hl : l.length ≤ 1048576
  · obtain ⟨w, g, sp, bs, h1, h2⟩ := drawQuiltFz l hl
    exact body l hl hb w g sp bs h1 h2
  · refine fn_z (ty := ty) (ts := [.tmp 2]) [0, 2, 3, 4, 5, 6, 7, 8, 9, 10, 11, 12, 13, 14, 15, 16, 17, 18, 19, 21, 65, 122, 126, 138, 149, 164, 169, 182] mixed ty_ok Try.func10 (by kernel_rfl) rfl (by kernel_rfl) (by kernel_rfl) rfl (.inl rfl) (Nat.le_of_ble_eq_true rfl) (by simp only [entry, entryV, C.toS, Nat.zero_add, Nat.reduceAdd, List.map_cons, List.map_nil]; exact rfl) ?_
    repeat' (first
    | ((with_reducible refine z_run ?_); (conv => whnf))
    | (with_reducible apply z_t)
    | (with_reducible apply z_f)
    | ((with_reducible apply z_b); ((intro h); (try simp only [beq_self_eq_true, eq_self, not_true_eq_false, not_false_eq_true, decide_true, cond_true, cond_false, Bool.not_true, Bool.not_false, Bool.not_eq_true', Bool.not_eq_false', Bool.and_eq_true, Bool.and_eq_false_imp, Bool.or_eq_true, Bool.or_eq_false_iff, decide_eq_true_eq, decide_eq_false_iff_not, Bool.false_eq_true, reduceCtorEq, Int.not_le, Int.not_lt, Decidable.not_not] at h)); rotate_left; ((intro h); (try simp only [beq_self_eq_true, eq_self, not_true_eq_false, not_false_eq_true, decide_true, cond_true, cond_false, Bool.not_true, Bool.not_false, Bool.not_eq_true', Bool.not_eq_false', Bool.and_eq_true, Bool.and_eq_false_imp, Bool.or_eq_true, Bool.or_eq_false_iff, decide_eq_true_eq, decide_eq_false_iff_not, Bool.false_eq_true, reduceCtorEq, Int.not_le, Int.not_lt, Decidable.not_not] at h)))
    | (with_reducible refine z_r ?_ ?_)
    | (with_reducible refine z_wg ?_ ?_)
    | (with_reducible refine z_w ?_ ?_)
    | ((with_reducible apply sh_nil); (intro _))
    | ((with_reducible apply sh_int); (intro _))
    | ((with_reducible apply sh_bool); (intro _))
    | ((with_reducible apply sh_sl); (intro _))
    | ((with_reducible refine z_xf ?zc ?zx ?_); (case zc => decide +kernel); (case zx => decide +kernel))
    | (with_reducible refine z_k (big_no l hl) ?_)
    | ((with_reducible refine z_o ?zo ?_); (case zo => decide +kernel))
    | ((with_reducible refine z_x ?zx ?_); (case zx => decide +kernel))
    | fail)
    all_goals (first | omega | refine z_e rfl ?_; simp only [fin, finP, finM, ids, nodupB, tupP, tupM, memN, List.length_cons, List.length_nil, List.nil_append, List.append_nil, List.cons_append, Nat.zero_add, Nat.reduceAdd, ne_eq, not_false_eq_true, eq_self, ev, Vq.look, List.map_cons, List.map_nil, and_true, true_and, Nat.reduceEqDiff, if_true, if_false, reduceCtorEq, ↓reduceIte])
set_option maxRecDepth 100000 in
theorem lifted (os : Os) (started : os.Started) (H : Type) (enc : TypeId × Value → H) :
    ReturnsInHanded {} Try.checked os 10 .any (Rows.fnQuiltsSpec.pre6 enc Try.prog Try.f10 Rows.fnQuiltsRow.domain false) (Rows.fnQuiltsSpec.post enc Try.prog Try.f10 false true false false) :=
  law_lift 9 [(false, [.sl [.int .u8]])] (by kernel_rfl) started (by kernel_rfl) Try.func10
    (ChangeSpec.witness6 (enc := enc) (C := Try.checked) false ⟨#[], #[.slice none 0 0], []⟩ 8 (by kernel_rfl) (by kernel_rfl) (by kernel_rfl) (by kernel_rfl))
    rfl (by kernel_rfl) (show Try.checked.prog.underlying 4 = some .bool by kernel_rfl) (by intro ds h; obtain ⟨d0, rfl⟩ := len1 (h.trans (show Try.f10.params.size = 1 by kernel_rfl)); rfl) (by kernel_rfl) (by kernel_rfl) (by kernel_rfl) (by kernel_rfl) (by kernel_rfl) law
theorem over : Rows.fnQuiltsRow.holds Try.pinned (OpenSpec.ofChange Rows.fnQuiltsSpec) :=
  OpenClaim.holds_of_wide 10 Try.f10 rfl rfl rfl rfl rfl rfl rfl ⟨rfl, rfl, rfl, rfl, rfl⟩ rfl rfl rfl rfl rfl (by kernel_rfl) Try.func10 (by kernel_rfl)
    (of_decide_eq_true (by kernel_rfl)) (by unfold Func.isWrapper; first | (rw [if_pos (by decide +kernel)]; kernel_rfl) | (rw [if_neg (by decide +kernel)]; exact ⟨rfl, rfl⟩))
    (fun os started H enc _ => lifted os started H enc)
/-- THE STATEMENT -/
theorem proved : Rows.FnQuiltsSaid := over
#print axioms proved
end Go.Proofs.Ytcibheinilkcoaa.fnQuilts
