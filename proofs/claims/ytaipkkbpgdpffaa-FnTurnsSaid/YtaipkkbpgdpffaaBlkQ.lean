/- Turns and mirrors that undo one another; contracts of turned and mirrored blocks, their cells only to be read. No conditions. -/
import Derived.Test.YtaipkkbpgdpffaaBlkP
import Derived.Test.YtaipkkbpgdpffaaBlkL
namespace Go.Proofs.Ytaipkkbpgdpffaa
open Go.Vq
set_option linter.unusedSimpArgs false
set_option maxHeartbeats 1000000
def cellsAll : List TCell := (List.range 3).flatMap fun s : Nat => (List.range 6).flatMap fun a : Nat => (List.range 6).map fun b : Nat => (((s : Int), (a : Int), (b : Int)) : TCell)
theorem cell_mem {t : TCell} (h : cellOk t) : t ∈ cellsAll := by
  obtain ⟨s, a, b⟩ := t
  obtain ⟨h1, h2, h3, h4⟩ := h
  dsimp only at h1 h2 h3 h4
  refine List.mem_flatMap.2 ⟨s.toNat, List.mem_range.2 (by omega), List.mem_flatMap.2 ⟨a.toNat, List.mem_range.2 (by omega), List.mem_map.2 ⟨b.toNat, List.mem_range.2 (by omega), ?_⟩⟩⟩
  rw [Int.toNat_of_nonneg h1.1, Int.toNat_of_nonneg h2.1, Int.toNat_of_nonneg h3.1]
theorem cell_all {p : TCell → Prop} (h : ∀ t ∈ cellsAll, cellOk t → p t) {t : TCell} (ht : cellOk t) : p t := h t (cell_mem ht) ht
theorem turnC4 {t : TCell} (h : cellOk t) : turnC (turnC (turnC (turnC t))) = t := cell_all (p := fun t => turnC (turnC (turnC (turnC t))) = t) (by decide +kernel) h
theorem mirC2 {t : TCell} (h : cellOk t) : mirC (mirC t) = t := cell_all (p := fun t => mirC (mirC t) = t) (by decide +kernel) h
theorem tmtC {t : TCell} (h : cellOk t) : turnC (mirC (turnC t)) = mirC t := cell_all (p := fun t => turnC (mirC (turnC t)) = mirC t) (by decide +kernel) h
/-- cells that are changed and moved -/
def blkQ (m : Nat) (q : TCell → TCell) (f : Nat → Nat) (c : List TCell) : TBlk := ((m : Int), (List.range (m * m)).map fun k => q (c.getD (f k) default))
theorem rng_getD {m k : Nat} (g : Nat → TCell) (h : k < m) : ((List.range m).map g).getD k default = g k := by simp [List.getD, h]
theorem blkQ_ok {m : Nat} {q : TCell → TCell} (hq : ∀ t, cellOk t → cellOk (q t)) {c : List TCell} (h : blkOk m c) {f : Nat → Nat} (hf : ∀ k, k < m * m → f k < m * m) : bOk (blkQ m q f c) := map_ok hq h hf
theorem turnQ {m : Nat} {q : TCell → TCell} (hq : ∀ t, cellOk t → cellOk (q t)) {c : List TCell} (h : blkOk m c) {f : Nat → Nat} (hf : ∀ k, k < m * m → f k < m * m) : turnB (blkQ m q f c) = blkQ m (fun t => turnC (q t)) (fun k => f (rI m k)) c := by
  obtain ⟨m', e, hm, hl⟩ := blkN h
  obtain rfl : m = m' := by omega
  have ht : blkOk m ((List.range (m * m)).map fun k => q (c.getD (f k) default)) := blkQ_ok hq h hf
  rw [blkQ, turnB_eq ht, blkQ]
  congr 1
  refine List.map_congr_left fun k hk => ?_
  rw [rng_getD _ (rI_lt hm k (List.mem_range.1 hk))]
theorem mirQ {m : Nat} {q : TCell → TCell} (hq : ∀ t, cellOk t → cellOk (q t)) {c : List TCell} (h : blkOk m c) {f : Nat → Nat} (hf : ∀ k, k < m * m → f k < m * m) : mirB (blkQ m q f c) = blkQ m (fun t => mirC (q t)) (fun k => f (mI m k)) c := by
  obtain ⟨m', e, hm, hl⟩ := blkN h
  obtain rfl : m = m' := by omega
  have ht : blkOk m ((List.range (m * m)).map fun k => q (c.getD (f k) default)) := blkQ_ok hq h hf
  rw [blkQ, mirB_eq ht, blkQ]
  congr 1
  refine List.map_congr_left fun k hk => ?_
  rw [rng_getD _ (mI_lt hm k (List.mem_range.1 hk))]
theorem eqQ {m : Nat} {q q' : TCell → TCell} {c : List TCell} (h : blkOk m c) {f f' : Nat → Nat} (hf : ∀ k, k < m * m → f k < m * m) (hq : ∀ t, cellOk t → q t = q' t) (hff : ∀ k, k < m * m → f k = f' k) : blkQ m q f c = blkQ m q' f' c := by
  obtain ⟨m', e, hm, hl⟩ := blkN h
  obtain rfl : m = m' := by omega
  unfold blkQ
  congr 1
  refine List.map_congr_left fun k hk => ?_
  rw [← hff k (List.mem_range.1 hk), hq _ (blk_get h (by rw [hl]; exact hf k (List.mem_range.1 hk)))]
theorem idQ {m : Nat} {c : List TCell} (h : blkOk m c) : blkQ m (fun t => t) (fun k => k) c = ((m : Int), c) := by
  obtain ⟨m', e, hm, hl⟩ := blkN h
  obtain rfl : m = m' := by omega
  unfold blkQ
  congr 1
  rw [← hl]
  refine List.ext_getElem (by simp) fun i h1 h2 => ?_
  simp only [List.getElem_map, List.getElem_range]
  rw [List.getD_eq_getElem?_getD, List.getElem?_eq_getElem (by simpa using h1)]; rfl
theorem rI4 {m : Nat} (h : 1 ≤ m ∧ m ≤ 4) : ∀ k, k < m * m → rI m (rI m (rI m (rI m k))) = k := side4 (p := fun m => ∀ k, k < m * m → rI m (rI m (rI m (rI m k))) = k) h (by decide) (by decide) (by decide) (by decide)
theorem mI2 {m : Nat} (h : 1 ≤ m ∧ m ≤ 4) : ∀ k, k < m * m → mI m (mI m k) = k := side4 (p := fun m => ∀ k, k < m * m → mI m (mI m k) = k) h (by decide) (by decide) (by decide) (by decide)
theorem tmtI {m : Nat} (h : 1 ≤ m ∧ m ≤ 4) : ∀ k, k < m * m → rI m (mI m (rI m k)) = mI m k := side4 (p := fun m => ∀ k, k < m * m → rI m (mI m (rI m k)) = mI m k) h (by decide) (by decide) (by decide) (by decide)
theorem turnN4 {b : TBlk} (h : bOk b) : turnN 4 b = b := by
  obtain ⟨n, c⟩ := b
  obtain ⟨m, rfl, hm, hl⟩ := blkN h
  have r1 := rI_lt hm
  have e := idQ h
  have t1 : ∀ t, cellOk t → cellOk (turnC t) := fun t ht => turnC_ok ht
  simp only [turnN]
  rw [← e, turnQ (fun _ ht => ht) h (fun _ hk => hk), turnQ t1 h r1, turnQ (fun t ht => t1 _ (t1 t ht)) h (fun k hk => r1 _ (r1 k hk)), turnQ (fun t ht => t1 _ (t1 _ (t1 t ht))) h (fun k hk => r1 _ (r1 _ (r1 k hk)))]
  exact eqQ h (fun k hk => r1 _ (r1 _ (r1 _ (r1 k hk)))) (fun t ht => turnC4 ht) (rI4 hm)
theorem mirB2 {b : TBlk} (h : bOk b) : mirB (mirB b) = b := by
  obtain ⟨n, c⟩ := b
  obtain ⟨m, rfl, hm, hl⟩ := blkN h
  have r1 := mI_lt hm
  rw [← idQ h, mirQ (fun _ ht => ht) h (fun _ hk => hk), mirQ (fun t ht => mirC_ok ht) h r1]
  exact eqQ h (fun k hk => r1 _ (r1 k hk)) (fun t ht => mirC2 ht) (mI2 hm)
theorem tmtB {b : TBlk} (h : bOk b) : turnB (mirB (turnB b)) = mirB b := by
  obtain ⟨n, c⟩ := b
  obtain ⟨m, rfl, hm, hl⟩ := blkN h
  have r1 := rI_lt hm
  have r2 := mI_lt hm
  rw [← idQ h, turnQ (fun _ ht => ht) h (fun _ hk => hk), mirQ (fun t ht => turnC_ok ht) h r1, turnQ (fun t ht => mirC_ok (turnC_ok ht)) h (fun k hk => r1 _ (r2 k hk)), mirQ (fun _ ht => ht) h (fun _ hk => hk)]
  exact eqQ h (fun k hk => r1 _ (r2 _ (r1 k hk))) (fun t ht => tmtC ht) (tmtI hm)
theorem areaT_mir {b : TBlk} (h : bOk b) : areaT (mirB b).1 (mirB b).2 = areaT b.1 b.2 := by
  have h2 : blkOk (mirB b).1 (mirB b).2 := (mirB_ok h).1
  have h' : blkOk b.1 b.2 := h
  rw [areaT, if_pos h2, areaT, if_pos h']
  unfold areaL
  refine List.map_congr_left fun a _ => ?_
  rw [areaR, if_pos h2, areaR, if_pos h']
  exact sumP_mirB h fun t ht => cell_all (p := fun t => cellA (mirC t) a = cellA t a) (fun t _ ht => by
    have := mirC_ok ht
    rw [cellA, if_pos this, cellA, if_pos ht]
    unfold mirC
    rw [if_pos ht]
    split
    · rfl
    · dsimp only; omega) ht
theorem seen4 {b : TBlk} (h : bOk b) : seenB b 4 = mirB b := by
  rw [seenB, if_pos ⟨h, by omega, by omega⟩]; rfl
theorem seen_lt {b : TBlk} (h : bOk b) {k : Nat} (hk : k < 4) : seenB b k = turnN k b := by
  rw [seenB, if_pos ⟨h, by omega, by omega⟩, startB, if_pos (by omega), show ((k : Int) % 4).toNat = k by omega]
theorem cellAt_turn {m : Nat} {c : List TCell} (h : blkOk m c) {x y : Nat} (hx : x < m) (hy : y < m) : cellAt (turnB (m, c)).1 (turnB (m, c)).2 ((m : Int) - 1 - y) x = turnC (cellAt m c x y) := by
  obtain ⟨m', e, hm, hl⟩ := blkN h
  obtain rfl : m = m' := by omega
  have ht := (turnB_ok (b := ((m : Int), c)) h).1
  rw [turnB_eq h] at ht ⊢
  rw [cellAt, if_pos ⟨ht, by omega, by omega⟩, cellAt, if_pos ⟨h, by omega, by omega⟩]
  dsimp only
  have e1 : ((x : Int) * m + ((m : Int) - 1 - y)).toNat = x * m + (m - 1 - y) := by
    rw [← Int.natCast_mul, show (m : Int) - 1 - y = ((m - 1 - y : Nat) : Int) by omega, ← Int.natCast_add, Int.toNat_natCast]
  have e2 : ((y : Int) * m + x).toNat = y * m + x := by rw [← Int.natCast_mul, ← Int.natCast_add, Int.toNat_natCast]
  have h1 : x * m + (m - 1 - y) < m * m := by
    have : x * m + m ≤ m * m := by rw [← Nat.succ_mul]; exact Nat.mul_le_mul_right m hx
    omega
  rw [e1, e2, rng_getD _ h1]
  congr 2
  unfold rI
  rw [Nat.mul_comm x m, Nat.mul_add_div (by omega), Nat.div_eq_of_lt (by omega), Nat.mul_add_mod, Nat.mod_eq_of_lt (by omega), show m - 1 - (m - 1 - y) = y by omega]
  rfl
theorem colA_turn {t : TCell} (h : cellOk t) : ∀ s : Nat, s < 4 → colA (turnC t) (((s : Int) + 1) % 4) = colA t s := cell_all (p := fun t => ∀ s : Nat, s < 4 → colA (turnC t) (((s : Int) + 1) % 4) = colA t s) (by decide +kernel) h
theorem colA_mir {t : TCell} (h : cellOk t) : ∀ s : Nat, s < 4 → colA (mirC t) s = colA t (([2, 1, 0, 3] : List Int).getD s default) := cell_all (p := fun t => ∀ s : Nat, s < 4 → colA (mirC t) s = colA t (([2, 1, 0, 3] : List Int).getD s default)) (by decide +kernel) h
theorem implTurnF (n : Int) (c : List TCell) (hl : c.length ≤ 2097152) : FnC Try.prog 43 [aB n c] (.agg [.int .i64 (turnB (n, c)).1, .fz dCell ((turnB (n, c)).2.map eCell)]) := by
  have h := implTurnBlock n c hl
  refine ⟨h.cal, h.fn.weak ?_⟩
  simp only [List.length_map, fillTo_zero, Int.toNat_natCast, Option.isSome_some, and_self, fixB, Nat.reduceLeDiff, false_implies, true_implies, forall_const, St.le0, St.swaps, St.ren, mapV, renO, V.ren, Sc.ren, Ob.ren, swp, slsLe, obsLe, vLe, scLe, scsLe, obLe, Vq.look, Nat.reduceEqDiff, if_true, if_false, reduceCtorEq, ↓reduceIte, true_and, and_true, Rs.V, Rs.O, scsOf, obsOf, turnB]
theorem implMirF (n : Int) (c : List TCell) (hl : c.length ≤ 2097152) : FnC Try.prog 44 [aB n c] (.agg [.int .i64 (mirB (n, c)).1, .fz dCell ((mirB (n, c)).2.map eCell)]) := by
  have h := implMirrorBlock n c hl
  refine ⟨h.cal, h.fn.weak ?_⟩
  simp only [List.length_map, fillTo_zero, Int.toNat_natCast, Option.isSome_some, and_self, fixB, Nat.reduceLeDiff, false_implies, true_implies, forall_const, St.le0, St.swaps, St.ren, mapV, renO, V.ren, Sc.ren, Ob.ren, swp, slsLe, obsLe, vLe, scLe, scsLe, obLe, Vq.look, Nat.reduceEqDiff, if_true, if_false, reduceCtorEq, ↓reduceIte, true_and, and_true, Rs.V, Rs.O, scsOf, obsOf, mirB]
theorem specCellAt (n : Int) (c : List TCell) (hl : c.length ≤ 2097152) (x y : Int) : FnC Try.prog 46 [aB n c, (false, [.int .i64 x]), (false, [.int .i64 y])] (.agg (rC (cellAt n c x y))) := by
  by_cases hp : isPl n c x y
  · obtain ⟨e1, e2, e3, e4⟩ := idx_bd hp.1.1 hp.2.1 hp.2.2
    have hlen := hp.1.2.1
    have hn := hp.1.1
    have hx := hp.2.1
    have hy := hp.2.2
    refine fn_z (ty := ty) (ts := [.cell 6 34 3]) [0, 1, 2, 3, 6, 25, 6] mixed ty_ok Try.func46 (by kernel_rfl) rfl (by kernel_rfl) (by kernel_rfl) rfl (.inl rfl) (Nat.le_of_ble_eq_true rfl) (by simp only [entry, entryV, C.toS, Nat.zero_add, Nat.reduceAdd, List.map_cons, List.map_nil]; exact rfl) ?_
    repeat' (first
    | ((with_reducible refine z_run ?_); (conv => whnf))
    | (with_reducible apply z_t)
    | (with_reducible apply z_f)
    | ((with_reducible apply z_b); ((intro h); (try simp only [beq_self_eq_true, eq_self, not_true_eq_false, not_false_eq_true, decide_true, cond_true, cond_false, Bool.not_true, Bool.not_false, Bool.not_eq_true', Bool.not_eq_false', Bool.and_eq_true, Bool.and_eq_false_imp, Bool.or_eq_true, Bool.or_eq_false_iff, decide_eq_true_eq, decide_eq_false_iff_not, Bool.false_eq_true, reduceCtorEq, Int.not_le, Int.not_lt, Decidable.not_not] at h)); rotate_left; ((intro h); (try simp only [beq_self_eq_true, eq_self, not_true_eq_false, not_false_eq_true, decide_true, cond_true, cond_false, Bool.not_true, Bool.not_false, Bool.not_eq_true', Bool.not_eq_false', Bool.and_eq_true, Bool.and_eq_false_imp, Bool.or_eq_true, Bool.or_eq_false_iff, decide_eq_true_eq, decide_eq_false_iff_not, Bool.false_eq_true, reduceCtorEq, Int.not_le, Int.not_lt, Decidable.not_not] at h)))
    | (with_reducible refine z_r ?_ ?_)
    | (with_reducible refine z_wg ?_ ?_)
    | (with_reducible refine z_w ?_ ?_)
    | ((with_reducible apply sh_nil); (intro _))
    | ((with_reducible apply sh_int); (intro _))
    | ((with_reducible apply sh_bool); (intro _))
    | ((with_reducible apply sh_sl); (intro _))
    | ((with_reducible refine z_xf ?zc ?zx ?_); (case zc => decide +kernel); (case zx => decide +kernel))
    | (with_reducible refine z_k (specBlockOk _ _ hl) ?_)
    | (with_reducible refine z_k (in_fn _ _ _) ?_)
    | ((with_reducible refine z_o ?zo ?_); (case zo => decide +kernel))
    | ((with_reducible refine z_x ?zx ?_); (case zx => decide +kernel))
    | ((refine z_mf (d := ?zD) (f := ?zF) (caps := ?zA) (τ := ?zT) (ps := ?zP) (cs := ?zC) ?zd ?ze ?zt ?za ?zp ?zl ?_); (case zd => exact rfl); (case ze => exact rfl); (case zt => (simp only [frzAll, frz, frzL, frzV, frzS, drp, unSs, unS, unsing, ev, Vq.look, List.map_cons, List.map_nil, List.drop_zero, List.drop_succ_cons, Nat.reduceAdd, Nat.zero_add, Option.map_some, Nat.reduceEqDiff, if_true, if_false, reduceCtorEq, ↓reduceIte]; exact rfl)); (case za => exact rfl); (case zp => exact rfl); (case zl => (simp only [unSs, unS, unsing, List.drop_zero, List.drop_succ_cons, Nat.reduceAdd, Nat.zero_add, Option.map_some, List.length_map, fillTo_zero, Int.toNat_natCast, Option.isSome_some, and_self, fixB, Nat.reduceLeDiff, false_implies, true_implies, forall_const, St.le0, St.swaps, St.ren, mapV, renO, V.ren, Sc.ren, Ob.ren, swp, slsLe, obsLe, vLe, scLe, scsLe, obLe, Vq.look, Nat.reduceEqDiff, if_true, if_false, reduceCtorEq, ↓reduceIte, true_and, and_true] <;> (and_intros <;> first | rfl | omega))))
    | fail)
    all_goals ((try simp only [Int.toNat_natCast, tn1, tp1, List.length_map, eq_self, true_and, and_true] at *); (try simp (disch := omega) only [wr, Int.toNat_natCast, tn1, tp1, List.length_map, eq_self, true_and, and_true] at *))
    all_goals (try rw [e1] at *)
    all_goals (try rw [e2] at *)
    all_goals (first | omega | (refine z_e rfl ?_; simp only [fin, finP, finM, ids, nodupB, tupP, tupM, memN, List.length_cons, List.length_nil, List.nil_append, List.append_nil, List.cons_append, Nat.zero_add, Nat.reduceAdd, ne_eq, not_false_eq_true, eq_self, ev, Vq.look, List.map_cons, List.map_nil, and_true, true_and, Nat.reduceEqDiff, if_true, if_false, reduceCtorEq, ↓reduceIte]; rw [cellAt, if_pos hp]; and_intros <;> rfl) | exact absurd hp.1 (by assumption) | (exfalso; omega) | (trace_state; fail))
  · refine fn_z (ty := ty) (ts := [.cell 6 34 3]) [0, 1, 2, 3, 6, 25, 6] mixed ty_ok Try.func46 (by kernel_rfl) rfl (by kernel_rfl) (by kernel_rfl) rfl (.inl rfl) (Nat.le_of_ble_eq_true rfl) (by simp only [entry, entryV, C.toS, Nat.zero_add, Nat.reduceAdd, List.map_cons, List.map_nil]; exact rfl) ?_
    repeat' (first
    | ((with_reducible refine z_run ?_); (conv => whnf))
    | (with_reducible apply z_t)
    | (with_reducible apply z_f)
    | ((with_reducible apply z_b); ((intro h); (try simp only [beq_self_eq_true, eq_self, not_true_eq_false, not_false_eq_true, decide_true, cond_true, cond_false, Bool.not_true, Bool.not_false, Bool.not_eq_true', Bool.not_eq_false', Bool.and_eq_true, Bool.and_eq_false_imp, Bool.or_eq_true, Bool.or_eq_false_iff, decide_eq_true_eq, decide_eq_false_iff_not, Bool.false_eq_true, reduceCtorEq, Int.not_le, Int.not_lt, Decidable.not_not] at h)); rotate_left; ((intro h); (try simp only [beq_self_eq_true, eq_self, not_true_eq_false, not_false_eq_true, decide_true, cond_true, cond_false, Bool.not_true, Bool.not_false, Bool.not_eq_true', Bool.not_eq_false', Bool.and_eq_true, Bool.and_eq_false_imp, Bool.or_eq_true, Bool.or_eq_false_iff, decide_eq_true_eq, decide_eq_false_iff_not, Bool.false_eq_true, reduceCtorEq, Int.not_le, Int.not_lt, Decidable.not_not] at h)))
    | (with_reducible refine z_r ?_ ?_)
    | (with_reducible refine z_wg ?_ ?_)
    | (with_reducible refine z_w ?_ ?_)
    | ((with_reducible apply sh_nil); (intro _))
    | ((with_reducible apply sh_int); (intro _))
    | ((with_reducible apply sh_bool); (intro _))
    | ((with_reducible apply sh_sl); (intro _))
    | ((with_reducible refine z_xf ?zc ?zx ?_); (case zc => decide +kernel); (case zx => decide +kernel))
    | (with_reducible refine z_k (specBlockOk _ _ hl) ?_)
    | (with_reducible refine z_k (in_fn _ _ _) ?_)
    | ((with_reducible refine z_o ?zo ?_); (case zo => decide +kernel))
    | ((with_reducible refine z_x ?zx ?_); (case zx => decide +kernel))
    | ((refine z_mf (d := ?zD) (f := ?zF) (caps := ?zA) (τ := ?zT) (ps := ?zP) (cs := ?zC) ?zd ?ze ?zt ?za ?zp ?zl ?_); (case zd => exact rfl); (case ze => exact rfl); (case zt => (simp only [frzAll, frz, frzL, frzV, frzS, drp, unSs, unS, unsing, ev, Vq.look, List.map_cons, List.map_nil, List.drop_zero, List.drop_succ_cons, Nat.reduceAdd, Nat.zero_add, Option.map_some, Nat.reduceEqDiff, if_true, if_false, reduceCtorEq, ↓reduceIte]; exact rfl)); (case za => exact rfl); (case zp => exact rfl); (case zl => (simp only [unSs, unS, unsing, List.drop_zero, List.drop_succ_cons, Nat.reduceAdd, Nat.zero_add, Option.map_some, List.length_map, fillTo_zero, Int.toNat_natCast, Option.isSome_some, and_self, fixB, Nat.reduceLeDiff, false_implies, true_implies, forall_const, St.le0, St.swaps, St.ren, mapV, renO, V.ren, Sc.ren, Ob.ren, swp, slsLe, obsLe, vLe, scLe, scsLe, obLe, Vq.look, Nat.reduceEqDiff, if_true, if_false, reduceCtorEq, ↓reduceIte, true_and, and_true] <;> (and_intros <;> first | rfl | omega))))
    | fail)
    all_goals ((try simp only [Int.toNat_natCast, tn1, tp1, List.length_map, eq_self, true_and, and_true] at *); (try simp (disch := omega) only [wr, Int.toNat_natCast, tn1, tp1, List.length_map, eq_self, true_and, and_true] at *))
    all_goals (try (have hb : blkOk n c := by assumption))
    all_goals (try (have hn := hb.1; rw [wr (x := n - 1) ⟨by omega, by omega⟩] at *))
    all_goals (first | (refine z_e rfl ?_; simp only [fin, finP, finM, ids, nodupB, tupP, tupM, memN, List.length_cons, List.length_nil, List.nil_append, List.append_nil, List.cons_append, Nat.zero_add, Nat.reduceAdd, ne_eq, not_false_eq_true, eq_self, ev, Vq.look, List.map_cons, List.map_nil, and_true, true_and, Nat.reduceEqDiff, if_true, if_false, reduceCtorEq, ↓reduceIte]; rw [cellAt, if_neg hp]; and_intros <;> rfl) | (exfalso; exact hp ⟨by assumption, by assumption, by assumption⟩) | (trace_state; fail))
end Go.Proofs.Ytaipkkbpgdpffaa
