/- Pieces of quilts: plain mathematics. No conditions. Contracts of PiecesFor and what it stands on. No conditions. -/
import Derived.Test.YtcibheinilkcoaaQltC
import Derived.Test.YtcibheinilkcoaaBlkW
import Derived.Test.YtcibheinilkcoaaBlkA
namespace Go.Proofs.Ytcibheinilkcoaa
open Go.Vq
set_option linter.unusedSimpArgs false
set_option maxHeartbeats 1000000
theorem sumP_take {φ : TCell → Int} {c : List TCell} {k : Nat} (h : k < c.length) : sumP φ (c.take (k + 1)) = sumP φ (c.take k) + φ (c.getD k default) := by
  rw [takeD h, sumP, sumP, List.map_append, List.sum_append]; simp
theorem sumP_bds {φ : TCell → Int} {u : Int} (h : ∀ t, 0 ≤ φ t ∧ φ t ≤ u) (c : List TCell) : 0 ≤ sumP φ c ∧ sumP φ c ≤ u * c.length := by
  unfold sumP
  induction c with
  | nil => simp
  | cons t c ih =>
    have := h t
    simp only [List.map_cons, List.sum_cons, List.length_cons]
    rw [show u * ((c.length + 1 : Nat) : Int) = u * c.length + u by rw [Int.natCast_add, Int.mul_add]; simp]
    omega
def tri1 (t : TCell) : Int := if t.1 = 0 then 0 else 2
theorem tri1_bd (t : TCell) : 0 ≤ tri1 t ∧ tri1 t ≤ 2 := by unfold tri1; split <;> omega
theorem tri_turn {t : TCell} (h : cellOk t) : tri1 (turnC t) = tri1 t := by
  unfold tri1 turnC
  rw [if_pos h]
  by_cases e1 : t.1 = 1
  · rw [if_pos e1, if_neg (by dsimp only; omega), if_neg (by omega)]
  · rw [if_neg e1]
    by_cases e2 : t.1 = 2
    · rw [if_pos e2, if_neg (by dsimp only; omega), if_neg (by omega)]
    · rw [if_neg e2]
theorem tri_mir {t : TCell} (h : cellOk t) : tri1 (mirC t) = tri1 t := by
  have := h.1
  unfold tri1 mirC
  rw [if_pos h]
  by_cases e : t.1 = 0
  · rw [if_pos e, if_pos e]
  · rw [if_neg e, if_neg e, if_neg (by dsimp only; omega)]
def triR (n : Int) (c : List TCell) : Int := if blkOk n c then sumP tri1 c else -1
def pcN (b : TBlk) : Int := b.2.length + (triR b.1 b.2).tdiv 2
theorem pcN_seen {b : TBlk} (h : bOk b) {k : Int} (hk : 0 ≤ k ∧ k ≤ 7) : pcN (seenB b k) = pcN b := by
  have h2 := (seenB_ok h hk).1
  have hb : blkOk b.1 b.2 := h
  have hs : blkOk (seenB b k).1 (seenB b k).2 := h2
  rw [pcN, pcN, triR, if_pos hs, triR, if_pos hb, seenB_len' h hk, sumP_seenB h (fun t => tri_turn) (fun t => tri_mir) hk]
theorem triR_bd {b : TBlk} (h : bOk b) : 0 ≤ triR b.1 b.2 ∧ triR b.1 b.2 ≤ 32 := by
  have hb : blkOk b.1 b.2 := h
  rw [triR, if_pos hb]
  have h1 := sumP_bds tri1_bd b.2
  have := blk_len hb
  omega
theorem pcN_bd {b : TBlk} (h : bOk b) : 0 ≤ pcN b ∧ pcN b ≤ 32 := by
  have h1 := triR_bd h
  have h2 := blk_len h
  unfold pcN
  rw [Int.tdiv_eq_ediv_of_nonneg h1.1]
  omega
/-! ### how often the blocks are shown -/
def cntS (sp : List TSpot) (i : Nat) : Int := ((sp.countP fun s => decide (s.1 = (i : Int)) : Nat) : Int)
theorem cntS_bd (sp : List TSpot) (i : Nat) : 0 ≤ cntS sp i ∧ cntS sp i ≤ sp.length := by
  have := List.countP_le_length (p := fun s : TSpot => decide (s.1 = (i : Int))) (l := sp)
  unfold cntS; omega
def useK (sp : List TSpot) (m : Nat) (k : Nat) : List Int := (List.range m).map fun i => cntS (sp.take k) i
theorem useK_len (sp : List TSpot) (m k : Nat) : (useK sp m k).length = m := by simp [useK]
theorem useK_get (sp : List TSpot) {m k i : Nat} (h : i < m) : (useK sp m k).getD i default = cntS (sp.take k) i := by simp [useK, List.getD, h]
theorem useK_zero (sp : List TSpot) (m : Nat) : useK sp m 0 = List.replicate m 0 := by
  unfold useK
  refine List.ext_getElem (by simp) fun i h1 h2 => ?_
  simp [cntS]
theorem useK_succ {sp : List TSpot} {m k : Nat} (hk : k < sp.length) (h0 : 0 ≤ (sp.getD k default).1) : (useK sp m k).set (sp.getD k default).1.toNat ((useK sp m k).getD (sp.getD k default).1.toNat default + 1) = useK sp m (k + 1) := by
  refine List.ext_getElem (by simp [useK]) fun i h1 h2 => ?_
  have hi : i < m := by simpa [useK] using h2
  have e : cntS (sp.take (k + 1)) i = cntS (sp.take k) i + if (sp.getD k default).1 = (i : Int) then 1 else 0 := by
    rw [takeD hk]; unfold cntS; rw [List.countP_append, List.countP_singleton]
    by_cases h : (sp.getD k default).1 = (i : Int)
    · rw [if_pos h, if_pos (by simpa using h)]; simp
    · rw [if_neg h, if_neg (by simpa using h)]; simp
  have e2 : (useK sp m (k + 1))[i] = cntS (sp.take (k + 1)) i := by simp [useK]
  have e3 : (useK sp m k)[i]'(by rw [useK_len]; exact hi) = cntS (sp.take k) i := by simp [useK]
  rw [e2, e, List.getElem_set]
  by_cases h : (sp.getD k default).1 = (i : Int)
  · rw [if_pos (by omega), if_pos h, show (sp.getD k default).1.toNat = i by omega, useK_get sp hi]
  · rw [if_neg (by omega), if_neg h, e3]; omega
def usum (sp : List TSpot) (f : Nat → Int) : Nat → Int
  | 0 => 0
  | i + 1 => usum sp f i + cntS sp i * f i
theorem usum_cons (s : TSpot) (sp : List TSpot) (f : Nat → Int) (h0 : 0 ≤ s.1) : ∀ m, usum (s :: sp) f m = usum sp f m + if s.1.toNat < m then f s.1.toNat else 0
  | 0 => by simp [usum]
  | i + 1 => by
    have ih := usum_cons s sp f h0 i
    have e : cntS (s :: sp) i = cntS sp i + if s.1 = (i : Int) then 1 else 0 := by
      unfold cntS; rw [List.countP_cons]
      by_cases h : s.1 = (i : Int)
      · rw [if_pos (by simpa using h), if_pos h]; simp
      · rw [if_neg (by simpa using h), if_neg h]; simp
    simp only [usum]
    rw [ih, e]
    by_cases h : s.1 = (i : Int)
    · rw [if_pos h, if_neg (by omega), if_pos (by omega), show s.1.toNat = i by omega, Int.add_mul]; omega
    · rw [if_neg h]
      by_cases h2 : s.1.toNat < i
      · rw [if_pos h2, if_pos (by omega), Int.add_zero (cntS sp i)]; omega
      · rw [if_neg h2, if_neg (by omega), Int.add_zero (cntS sp i)]; omega
theorem usum_all (f : Nat → Int) (m : Nat) : ∀ sp : List TSpot, (∀ s ∈ sp, 0 ≤ s.1 ∧ s.1 < m) → usum sp f m = (sp.map fun s => f s.1.toNat).sum
  | [], _ => by
    have : ∀ i, usum [] f i = 0 := fun i => by
      induction i with
      | zero => rfl
      | succ i ih => simp [usum, ih, cntS]
    simp [this]
  | s :: sp, h => by
    have hs := h s (by simp)
    rw [usum_cons s sp f hs.1, usum_all f m sp fun t ht => h t (by simp [ht]), if_pos (by omega)]
    simp only [List.map_cons, List.sum_cons]; omega
def shL (sp : List TSpot) (bs : List TBlk) (k : Nat) : List TBlk := (sp.take k).map fun s => seenB (bs.getD s.1.toNat default) s.2
theorem shL_len (sp : List TSpot) (bs : List TBlk) {k : Nat} (h : k ≤ sp.length) : (shL sp bs k).length = k := by simp [shL]; omega
theorem shL_succ {sp : List TSpot} (bs : List TBlk) {k : Nat} (h : k < sp.length) : shL sp bs (k + 1) = shL sp bs k ++ [seenB (bs.getD (sp.getD k default).1.toNat default) (sp.getD k default).2] := by
  unfold shL; rw [takeD h, List.map_append]; rfl
theorem shL_get {sp : List TSpot} (bs : List TBlk) {k : Nat} (h : k < sp.length) : (shL sp bs sp.length).getD k default = seenB (bs.getD (sp.getD k default).1.toNat default) (sp.getD k default).2 := by
  unfold shL
  have e : sp.getD k default = sp[k] := by rw [List.getD_eq_getElem?_getD, List.getElem?_eq_getElem h]; rfl
  rw [e, List.take_of_length_le (Nat.le_refl _), List.getD_eq_getElem?_getD (l := sp.map _), List.getElem?_map, List.getElem?_eq_getElem h]; rfl
theorem shL_c (sp : List TSpot) (bs : List TBlk) (k i : Nat) : ((shL sp bs k).getD i default).2.length ≤ 16 := by
  by_cases h : i < (shL sp bs k).length
  · have := getD_mem (l := shL sp bs k) (k := i) h
    obtain ⟨s, hs, e⟩ := List.mem_map.1 this
    rw [← e]; exact seenB_len _ _
  · rw [List.getD_eq_getElem?_getD, List.getElem?_eq_none (by omega)]; exact Nat.zero_le _
theorem qOk_blk {w g : Int} {sp : List TSpot} {bs : List TBlk} (h : qOk w g sp bs) {i : Nat} (hi : i < bs.length) : bOk (bs.getD i default) := (h.2.2 _ (getD_mem hi)).1
theorem qOk_spot {w g : Int} {sp : List TSpot} {bs : List TBlk} (h : qOk w g sp bs) {k : Nat} (hk : k < sp.length) : (0 ≤ (sp.getD k default).1 ∧ (sp.getD k default).1 < bs.length) ∧ 0 ≤ (sp.getD k default).2 ∧ (sp.getD k default).2 ≤ 7 := by
  have := h.1.2.2.2 _ (getD_mem hk)
  unfold spotOk at this; omega
theorem qOk_len {w g : Int} {sp : List TSpot} {bs : List TBlk} (h : qOk w g sp bs) : 1 ≤ sp.length ∧ sp.length ≤ 36 := by
  have h1 := wg_wrap h.1.1 h.1.2.1
  have h2 := h.1.2.2.1
  omega
/-- the sum of a number over what is shown -/
def shS (q : TBlk → Int) (sp : List TSpot) (bs : List TBlk) (k : Nat) : Int := ((shL sp bs k).map q).sum
theorem shS_succ (q : TBlk → Int) {sp : List TSpot} (bs : List TBlk) {k : Nat} (h : k < sp.length) : shS q sp bs (k + 1) = shS q sp bs k + q (seenB (bs.getD (sp.getD k default).1.toNat default) (sp.getD k default).2) := by
  unfold shS; rw [shL_succ bs h, List.map_append, List.sum_append]; simp
theorem shS_eq {w g : Int} {sp : List TSpot} {bs : List TBlk} (h : qOk w g sp bs) (q : TBlk → Int) (hq : ∀ b, bOk b → ∀ k, 0 ≤ k ∧ k ≤ 7 → q (seenB b k) = q b) : shS q sp bs sp.length = usum sp (fun i => q (bs.getD i default)) bs.length := by
  have hs : ∀ s ∈ sp, (0 ≤ s.1 ∧ s.1 < bs.length) ∧ 0 ≤ s.2 ∧ s.2 ≤ 7 := fun s hs => by
    have := h.1.2.2.2 s hs
    unfold spotOk at this; omega
  rw [usum_all _ _ sp fun s h => (hs s h).1, shS, shL, List.take_of_length_le (Nat.le_refl _), List.map_map]
  congr 1
  refine List.map_congr_left fun s hm => ?_
  obtain ⟨⟨h1, h2⟩, h3⟩ := hs s hm
  exact hq _ (qOk_blk h (by omega)) _ h3
theorem shS_bd {w g : Int} {sp : List TSpot} {bs : List TBlk} (h : qOk w g sp bs) (q : TBlk → Int) {u : Int} (hq : ∀ b, bOk b → 0 ≤ q b ∧ q b ≤ u) : ∀ k : Nat, k ≤ sp.length → 0 ≤ shS q sp bs k ∧ shS q sp bs k ≤ u * k
  | 0, _ => by simp [shS, shL]
  | k + 1, hk => by
    have ih := shS_bd h q hq k (by omega)
    obtain ⟨h1, h2⟩ := qOk_spot h (k := k) (by omega)
    have := hq _ (seenB_ok (qOk_blk h (i := (sp.getD k default).1.toNat) (by omega)) h2).1
    rw [shS_succ q bs (by omega), show u * ((k + 1 : Nat) : Int) = u * k + u by rw [Int.natCast_add, Int.mul_add]; simp]
    omega
theorem usum_bdm (sp : List TSpot) (f : Nat → Int) {u : Int} (hl : sp.length ≤ 36) (m : Nat) (hf : ∀ i, i < m → 0 ≤ f i ∧ f i ≤ u) : ∀ k : Nat, k ≤ m → 0 ≤ usum sp f k ∧ usum sp f k ≤ 36 * u * k
  | 0, _ => by simp [usum]
  | k + 1, hk => by
    have ih := usum_bdm sp f hl m hf k (by omega)
    have h1 := cntS_bd sp k
    have h2 := hf k (by omega)
    have h3 : 0 ≤ cntS sp k * f k := Int.mul_nonneg h1.1 h2.1
    have h4 : cntS sp k * f k ≤ 36 * u := Int.mul_le_mul (by omega) h2.2 h2.1 (by omega)
    simp only [usum]
    rw [show 36 * u * ((k + 1 : Nat) : Int) = 36 * u * k + 36 * u by rw [Int.natCast_add, Int.mul_add]; simp]
    omega
theorem usum_bd6 {w g : Int} {sp : List TSpot} {bs : List TBlk} (h : qOk w g sp bs) (q : TBlk → Int) {u : Int} (hq : ∀ b, bOk b → 0 ≤ q b ∧ q b ≤ u) (k : Nat) (hk : k ≤ bs.length) : 0 ≤ usum sp (fun i => q (bs.getD i default)) k ∧ usum sp (fun i => q (bs.getD i default)) k ≤ 36 * u * k :=
  usum_bdm sp _ (qOk_len h).2 bs.length (fun i hi => hq _ (qOk_blk h hi)) k hk
theorem implCountTriangles (n : Int) (c : List TCell) (hl : c.length ≤ 1048576) : FnC Try.prog 84 [aB n c] (.one (.int .i64 (triR n c))) := by
  refine fn_z (ty := ty) (ts := [.tmp 2]) [0, 1, 2, 3, 5, 8, 10, 11, 12, 13, 18] mixed ty_ok Try.func84 (by kernel_rfl) rfl (by kernel_rfl) (by kernel_rfl) rfl (.inl rfl) (Nat.le_of_ble_eq_true rfl) (by simp only [entry, entryV, C.toS, Nat.zero_add, Nat.reduceAdd, List.map_cons, List.map_nil]; exact rfl) ?_
  repeat' (first
    | ((with_reducible refine z_run ?_); (conv => whnf))
    | (with_reducible apply z_t)
    | (with_reducible apply z_f)
    | ((with_reducible apply z_b); ((intro h); (try simp only [beq_self_eq_true, eq_self, not_true_eq_false, not_false_eq_true, decide_true, cond_true, cond_false, Bool.not_true, Bool.not_false, Bool.not_eq_true', Bool.not_eq_false', Bool.and_eq_true, Bool.and_eq_false_imp, Bool.or_eq_true, Bool.or_eq_false_iff, decide_eq_true_eq, decide_eq_false_iff_not, Bool.false_eq_true, reduceCtorEq, Int.not_le, Int.not_lt, Decidable.not_not] at h)); rotate_left; ((intro h); (try simp only [beq_self_eq_true, eq_self, not_true_eq_false, not_false_eq_true, decide_true, cond_true, cond_false, Bool.not_true, Bool.not_false, Bool.not_eq_true', Bool.not_eq_false', Bool.and_eq_true, Bool.and_eq_false_imp, Bool.or_eq_true, Bool.or_eq_false_iff, decide_eq_true_eq, decide_eq_false_iff_not, Bool.false_eq_true, reduceCtorEq, Int.not_le, Int.not_lt, Decidable.not_not] at h)))
    | (with_reducible refine z_r ?_ ?_)
    | (with_reducible refine z_wg ?_ ?_)
    | (with_reducible refine z_w ?_ ?_)
    | ((with_reducible apply sh_nil); (intro _))
    | ((with_reducible apply sh_int); (intro _))
    | ((with_reducible apply sh_bool); (intro _))
    | ((with_reducible apply sh_sl); (intro _))
    | ((with_reducible refine z_xf ?zc ?zx ?_); (case zc => decide +kernel); (case zx => decide +kernel))
    | (with_reducible refine z_k (implBlockOk _ _ (by omega)) ?_)
    | ((with_reducible refine z_o ?zo ?_); (case zo => decide +kernel))
    | ((with_reducible refine z_x ?zx ?_); (case zx => decide +kernel))
    | fail)
  all_goals ((try simp only [Int.toNat_natCast, tn1, tp1, List.length_map, eq_self, true_and, and_true] at *); (try simp (disch := omega) only [wr, Int.toNat_natCast, tn1, tp1, List.length_map, eq_self, true_and, and_true] at *))
  all_goals (first
    | (refine z_e rfl ?_; simp only [fin, finP, finM, ids, nodupB, tupP, tupM, memN, List.length_cons, List.length_nil, List.nil_append, List.append_nil, List.cons_append, Nat.zero_add, Nat.reduceAdd, ne_eq, not_false_eq_true, eq_self, ev, Vq.look, List.map_cons, List.map_nil, and_true, true_and, Nat.reduceEqDiff, if_true, if_false, reduceCtorEq, ↓reduceIte]; rw [triR, if_neg (by assumption)])
    | skip)
  refine z_li (fun k : Nat => k ≤ c.length) (0 : Nat) (fun k => c.length - k) (fun k => ⟨[(1, .one (.bx 1 0)), (3, .one (.int .i64 (sumP tri1 (c.take k)))), (10, .one (.ro dCell (c.map eCell))), (11, .one (.int .i64 c.length)), (12, .one (.int .i64 k))], [(1, .box [.int .i64 n, .ro dCell (c.map eCell)])]⟩) (by omega) ?_ ?_
  · simp only [List.length_map, fillTo_zero, Int.toNat_natCast, Option.isSome_some, and_self, fixB, Nat.reduceLeDiff, false_implies, true_implies, forall_const, St.le0, St.swaps, St.ren, mapV, renO, V.ren, Sc.ren, Ob.ren, swp, slsLe, obsLe, vLe, psLe, scLe, scsLe, obLe, Vq.look, Nat.reduceEqDiff, if_true, if_false, reduceCtorEq, ↓reduceIte, true_and, and_true] <;> (and_intros <;> first | rfl | omega | assumption)
  · intro k hk
    have hs := sumP_bds tri1_bd (c.take k)
    rw [List.length_take] at hs
    repeat' (first
    | ((with_reducible refine z_run ?_); (conv => whnf))
    | (with_reducible apply z_t)
    | (with_reducible apply z_f)
    | ((with_reducible apply z_b); ((intro h); (try simp only [beq_self_eq_true, eq_self, not_true_eq_false, not_false_eq_true, decide_true, cond_true, cond_false, Bool.not_true, Bool.not_false, Bool.not_eq_true', Bool.not_eq_false', Bool.and_eq_true, Bool.and_eq_false_imp, Bool.or_eq_true, Bool.or_eq_false_iff, decide_eq_true_eq, decide_eq_false_iff_not, Bool.false_eq_true, reduceCtorEq, Int.not_le, Int.not_lt, Decidable.not_not] at h)); rotate_left; ((intro h); (try simp only [beq_self_eq_true, eq_self, not_true_eq_false, not_false_eq_true, decide_true, cond_true, cond_false, Bool.not_true, Bool.not_false, Bool.not_eq_true', Bool.not_eq_false', Bool.and_eq_true, Bool.and_eq_false_imp, Bool.or_eq_true, Bool.or_eq_false_iff, decide_eq_true_eq, decide_eq_false_iff_not, Bool.false_eq_true, reduceCtorEq, Int.not_le, Int.not_lt, Decidable.not_not] at h)))
    | (with_reducible refine z_r ?_ ?_)
    | (with_reducible refine z_wg ?_ ?_)
    | (with_reducible refine z_w ?_ ?_)
    | ((with_reducible apply sh_nil); (intro _))
    | ((with_reducible apply sh_int); (intro _))
    | ((with_reducible apply sh_bool); (intro _))
    | ((with_reducible apply sh_sl); (intro _))
    | ((with_reducible refine z_xf ?zc ?zx ?_); (case zc => decide +kernel); (case zx => decide +kernel))
    | ((with_reducible refine z_o ?zo ?_); (case zo => decide +kernel))
    | ((with_reducible refine z_x ?zx ?_); (case zx => decide +kernel))
    | fail)
    all_goals ((try simp only [Int.toNat_natCast, tn1, tp1, List.length_map, eq_self, true_and, and_true] at *); (try simp (disch := omega) only [wr, Int.toNat_natCast, tn1, tp1, List.length_map, eq_self, true_and, and_true] at *))
    all_goals (first
      | omega
      | (refine z_n (k + 1) ⟨by omega, by omega⟩ ?_; rw [sumP_take (by omega), tri1, if_neg (by assumption)]; simp only [List.length_map, fillTo_zero, Int.toNat_natCast, Option.isSome_some, and_self, fixB, Nat.reduceLeDiff, false_implies, true_implies, forall_const, St.le0, St.swaps, St.ren, mapV, renO, V.ren, Sc.ren, Ob.ren, swp, slsLe, obsLe, vLe, psLe, scLe, scsLe, obLe, Vq.look, Nat.reduceEqDiff, if_true, if_false, reduceCtorEq, ↓reduceIte, true_and, and_true] <;> (and_intros <;> first | rfl | omega | assumption); done)
      | (refine z_n (k + 1) ⟨by omega, by omega⟩ ?_; rw [sumP_take (by omega), tri1, if_pos (by assumption), Int.add_zero]; simp only [List.length_map, fillTo_zero, Int.toNat_natCast, Option.isSome_some, and_self, fixB, Nat.reduceLeDiff, false_implies, true_implies, forall_const, St.le0, St.swaps, St.ren, mapV, renO, V.ren, Sc.ren, Ob.ren, swp, slsLe, obsLe, vLe, psLe, scLe, scsLe, obLe, Vq.look, Nat.reduceEqDiff, if_true, if_false, reduceCtorEq, ↓reduceIte, true_and, and_true] <;> (and_intros <;> first | rfl | omega | assumption); done)
      | (refine z_e rfl ?_; simp only [fin, finP, finM, ids, nodupB, tupP, tupM, memN, List.length_cons, List.length_nil, List.nil_append, List.append_nil, List.cons_append, Nat.zero_add, Nat.reduceAdd, ne_eq, not_false_eq_true, eq_self, ev, Vq.look, List.map_cons, List.map_nil, and_true, true_and, Nat.reduceEqDiff, if_true, if_false, reduceCtorEq, ↓reduceIte]; rw [triR, if_pos (by assumption), List.take_of_length_le (by omega)])
      | (trace_state; fail))
theorem specCountTriangles (n : Int) (c : List TCell) (hl : c.length ≤ 1048576) : FnC Try.prog 82 [aB n c] (.one (.int .i64 (triR n c))) := by
  refine fn_z (ty := ty) (ts := [.tmp 2]) [0, 1, 2, 3, 4, 7, 12, 21] mixed ty_ok Try.func82 (by kernel_rfl) rfl (by kernel_rfl) (by kernel_rfl) rfl (.inl rfl) (Nat.le_of_ble_eq_true rfl) (by simp only [entry, entryV, C.toS, Nat.zero_add, Nat.reduceAdd, List.map_cons, List.map_nil]; exact rfl) ?_
  repeat' (first
    | ((with_reducible refine z_run ?_); (conv => whnf))
    | (with_reducible apply z_t)
    | (with_reducible apply z_f)
    | ((with_reducible apply z_b); ((intro h); (try simp only [beq_self_eq_true, eq_self, not_true_eq_false, not_false_eq_true, decide_true, cond_true, cond_false, Bool.not_true, Bool.not_false, Bool.not_eq_true', Bool.not_eq_false', Bool.and_eq_true, Bool.and_eq_false_imp, Bool.or_eq_true, Bool.or_eq_false_iff, decide_eq_true_eq, decide_eq_false_iff_not, Bool.false_eq_true, reduceCtorEq, Int.not_le, Int.not_lt, Decidable.not_not] at h)); rotate_left; ((intro h); (try simp only [beq_self_eq_true, eq_self, not_true_eq_false, not_false_eq_true, decide_true, cond_true, cond_false, Bool.not_true, Bool.not_false, Bool.not_eq_true', Bool.not_eq_false', Bool.and_eq_true, Bool.and_eq_false_imp, Bool.or_eq_true, Bool.or_eq_false_iff, decide_eq_true_eq, decide_eq_false_iff_not, Bool.false_eq_true, reduceCtorEq, Int.not_le, Int.not_lt, Decidable.not_not] at h)))
    | (with_reducible refine z_r ?_ ?_)
    | (with_reducible refine z_wg ?_ ?_)
    | (with_reducible refine z_w ?_ ?_)
    | ((with_reducible apply sh_nil); (intro _))
    | ((with_reducible apply sh_int); (intro _))
    | ((with_reducible apply sh_bool); (intro _))
    | ((with_reducible apply sh_sl); (intro _))
    | ((with_reducible refine z_xf ?zc ?zx ?_); (case zc => decide +kernel); (case zx => decide +kernel))
    | (with_reducible refine z_k (specBlockOk _ _ (by omega)) ?_)
    | ((with_reducible refine z_o ?zo ?_); (case zo => decide +kernel))
    | ((with_reducible refine z_x ?zx ?_); (case zx => decide +kernel))
    | fail)
  all_goals ((try simp only [Int.toNat_natCast, tn1, tp1, List.length_map, eq_self, true_and, and_true] at *); (try simp (disch := omega) only [wr, Int.toNat_natCast, tn1, tp1, List.length_map, eq_self, true_and, and_true] at *))
  all_goals (first
    | (refine z_e rfl ?_; simp only [fin, finP, finM, ids, nodupB, tupP, tupM, memN, List.length_cons, List.length_nil, List.nil_append, List.append_nil, List.cons_append, Nat.zero_add, Nat.reduceAdd, ne_eq, not_false_eq_true, eq_self, ev, Vq.look, List.map_cons, List.map_nil, and_true, true_and, Nat.reduceEqDiff, if_true, if_false, reduceCtorEq, ↓reduceIte]; rw [triR, if_neg (by assumption)])
    | skip)
  refine z_li (fun k : Nat => k ≤ c.length) (0 : Nat) (fun k => c.length - k) (fun k => ⟨[(1, .one (.bx 1 0)), (3, .one (.int .i64 (sumP tri1 (c.take k)))), (4, .one (.int .i64 k))], [(1, .box [.int .i64 n, .ro dCell (c.map eCell)])]⟩) (by omega) ?_ ?_
  · simp only [List.length_map, fillTo_zero, Int.toNat_natCast, Option.isSome_some, and_self, fixB, Nat.reduceLeDiff, false_implies, true_implies, forall_const, St.le0, St.swaps, St.ren, mapV, renO, V.ren, Sc.ren, Ob.ren, swp, slsLe, obsLe, vLe, psLe, scLe, scsLe, obLe, Vq.look, Nat.reduceEqDiff, if_true, if_false, reduceCtorEq, ↓reduceIte, true_and, and_true] <;> (and_intros <;> first | rfl | omega | assumption)
  · intro k hk
    have hs := sumP_bds tri1_bd (c.take k)
    rw [List.length_take] at hs
    repeat' (first
    | ((with_reducible refine z_run ?_); (conv => whnf))
    | (with_reducible apply z_t)
    | (with_reducible apply z_f)
    | ((with_reducible apply z_b); ((intro h); (try simp only [beq_self_eq_true, eq_self, not_true_eq_false, not_false_eq_true, decide_true, cond_true, cond_false, Bool.not_true, Bool.not_false, Bool.not_eq_true', Bool.not_eq_false', Bool.and_eq_true, Bool.and_eq_false_imp, Bool.or_eq_true, Bool.or_eq_false_iff, decide_eq_true_eq, decide_eq_false_iff_not, Bool.false_eq_true, reduceCtorEq, Int.not_le, Int.not_lt, Decidable.not_not] at h)); rotate_left; ((intro h); (try simp only [beq_self_eq_true, eq_self, not_true_eq_false, not_false_eq_true, decide_true, cond_true, cond_false, Bool.not_true, Bool.not_false, Bool.not_eq_true', Bool.not_eq_false', Bool.and_eq_true, Bool.and_eq_false_imp, Bool.or_eq_true, Bool.or_eq_false_iff, decide_eq_true_eq, decide_eq_false_iff_not, Bool.false_eq_true, reduceCtorEq, Int.not_le, Int.not_lt, Decidable.not_not] at h)))
    | (with_reducible refine z_r ?_ ?_)
    | (with_reducible refine z_wg ?_ ?_)
    | (with_reducible refine z_w ?_ ?_)
    | ((with_reducible apply sh_nil); (intro _))
    | ((with_reducible apply sh_int); (intro _))
    | ((with_reducible apply sh_bool); (intro _))
    | ((with_reducible apply sh_sl); (intro _))
    | ((with_reducible refine z_xf ?zc ?zx ?_); (case zc => decide +kernel); (case zx => decide +kernel))
    | ((with_reducible refine z_o ?zo ?_); (case zo => decide +kernel))
    | ((with_reducible refine z_x ?zx ?_); (case zx => decide +kernel))
    | fail)
    all_goals ((try simp only [Int.toNat_natCast, tn1, tp1, List.length_map, eq_self, true_and, and_true] at *); (try simp (disch := omega) only [wr, Int.toNat_natCast, tn1, tp1, List.length_map, eq_self, true_and, and_true] at *))
    all_goals (first
      | omega
      | (refine z_n (k + 1) ⟨by omega, by omega⟩ ?_; rw [sumP_take (by omega), tri1, if_neg (by assumption)]; simp only [List.length_map, fillTo_zero, Int.toNat_natCast, Option.isSome_some, and_self, fixB, Nat.reduceLeDiff, false_implies, true_implies, forall_const, St.le0, St.swaps, St.ren, mapV, renO, V.ren, Sc.ren, Ob.ren, swp, slsLe, obsLe, vLe, psLe, scLe, scsLe, obLe, Vq.look, Nat.reduceEqDiff, if_true, if_false, reduceCtorEq, ↓reduceIte, true_and, and_true] <;> (and_intros <;> first | rfl | omega | assumption); done)
      | (refine z_n (k + 1) ⟨by omega, by omega⟩ ?_; rw [sumP_take (by omega), tri1, if_pos (by assumption), Int.add_zero]; simp only [List.length_map, fillTo_zero, Int.toNat_natCast, Option.isSome_some, and_self, fixB, Nat.reduceLeDiff, false_implies, true_implies, forall_const, St.le0, St.swaps, St.ren, mapV, renO, V.ren, Sc.ren, Ob.ren, swp, slsLe, obsLe, vLe, psLe, scLe, scsLe, obLe, Vq.look, Nat.reduceEqDiff, if_true, if_false, reduceCtorEq, ↓reduceIte, true_and, and_true] <;> (and_intros <;> first | rfl | omega | assumption); done)
      | (refine z_e rfl ?_; simp only [fin, finP, finM, ids, nodupB, tupP, tupM, memN, List.length_cons, List.length_nil, List.nil_append, List.append_nil, List.cons_append, Nat.zero_add, Nat.reduceAdd, ne_eq, not_false_eq_true, eq_self, ev, Vq.look, List.map_cons, List.map_nil, and_true, true_and, Nat.reduceEqDiff, if_true, if_false, reduceCtorEq, ↓reduceIte]; rw [triR, if_pos (by assumption), List.take_of_length_le (by omega)])
      | (trace_state; fail))
theorem shown_fn (w g : Int) (sp : List TSpot) (bs : List TBlk) (hl : sp.length + bs.length + cellsN bs ≤ 1048576) (hq : qOk w g sp bs) : FnC Try.prog 83 [aQ w g sp, aBs bs] (.one (.own 63 dBlk ((shL sp bs sp.length).map eBlk))) := by
  have hsl := qOk_len hq
  refine fn_z (ty := ty) (ts := [.tmp 4]) [0, 1, 2, 4, 5, 7, 10, 11, 12, 13] mixed ty_ok Try.func83 (by kernel_rfl) rfl (by kernel_rfl) (by kernel_rfl) rfl (.inl rfl) (Nat.le_of_ble_eq_true rfl) (by simp only [entry, entryV, C.toS, Nat.zero_add, Nat.reduceAdd, List.map_cons, List.map_nil]; exact rfl) ?_
  repeat' (first
    | ((with_reducible refine z_run ?_); (conv => whnf))
    | (with_reducible apply z_t)
    | (with_reducible apply z_f)
    | ((with_reducible apply z_b); ((intro h); (try simp only [beq_self_eq_true, eq_self, not_true_eq_false, not_false_eq_true, decide_true, cond_true, cond_false, Bool.not_true, Bool.not_false, Bool.not_eq_true', Bool.not_eq_false', Bool.and_eq_true, Bool.and_eq_false_imp, Bool.or_eq_true, Bool.or_eq_false_iff, decide_eq_true_eq, decide_eq_false_iff_not, Bool.false_eq_true, reduceCtorEq, Int.not_le, Int.not_lt, Decidable.not_not] at h)); rotate_left; ((intro h); (try simp only [beq_self_eq_true, eq_self, not_true_eq_false, not_false_eq_true, decide_true, cond_true, cond_false, Bool.not_true, Bool.not_false, Bool.not_eq_true', Bool.not_eq_false', Bool.and_eq_true, Bool.and_eq_false_imp, Bool.or_eq_true, Bool.or_eq_false_iff, decide_eq_true_eq, decide_eq_false_iff_not, Bool.false_eq_true, reduceCtorEq, Int.not_le, Int.not_lt, Decidable.not_not] at h)))
    | (with_reducible refine z_r ?_ ?_)
    | (with_reducible refine z_wg ?_ ?_)
    | (with_reducible refine z_w ?_ ?_)
    | ((with_reducible apply sh_nil); (intro _))
    | ((with_reducible apply sh_int); (intro _))
    | ((with_reducible apply sh_bool); (intro _))
    | ((with_reducible apply sh_sl); (intro _))
    | ((with_reducible refine z_xf ?zc ?zx ?_); (case zc => decide +kernel); (case zx => decide +kernel))
    | ((with_reducible refine z_o ?zo ?_); (case zo => decide +kernel))
    | ((with_reducible refine z_x ?zx ?_); (case zx => decide +kernel))
    | fail)
  all_goals ((try simp only [Int.toNat_natCast, tn1, tp1, List.length_map, eq_self, true_and, and_true] at *); (try simp (disch := omega) only [wr, Int.toNat_natCast, tn1, tp1, List.length_map, eq_self, true_and, and_true] at *))
  refine z_li (fun k : Nat => k ≤ sp.length) (0 : Nat) (fun k => sp.length - k) (fun k => ⟨[(1, .one (.ro dBlk (bs.map eBlk))), (2, .one (.bx 2 0)), (5, .one (.root 8)), (10, .one (.ro dSpot (sp.map eSpot))), (11, .one (.int .i64 sp.length)), (12, .one (.int .i64 k))], [(8, .row 63 dBlk ((shL sp bs k).map eBlk)), (2, .box [.int .i64 w, .int .i64 g, .ro dSpot (sp.map eSpot)])]⟩) (by omega) ?_ ?_
  · simp only [List.length_map, fillTo_zero, Int.toNat_natCast, Option.isSome_some, and_self, fixB, Nat.reduceLeDiff, false_implies, true_implies, forall_const, St.le0, St.swaps, St.ren, mapV, renO, V.ren, Sc.ren, Ob.ren, swp, slsLe, obsLe, vLe, psLe, scLe, scsLe, obLe, Vq.look, Nat.reduceEqDiff, if_true, if_false, reduceCtorEq, ↓reduceIte, true_and, and_true] <;> (and_intros <;> first | rfl | omega | assumption)
  · intro k hk
    have hvl := shL_len sp bs hk
    by_cases hlt : k < sp.length
    · have hsp := qOk_spot hq hlt
      have hcl := cellsN_get (bs := bs) (k := (sp.getD k default).1.toNat) (by omega)
      repeat' (first
    | ((with_reducible refine z_run ?_); (conv => whnf))
    | (with_reducible apply z_t)
    | (with_reducible apply z_f)
    | ((with_reducible apply z_b); ((intro h); (try simp only [beq_self_eq_true, eq_self, not_true_eq_false, not_false_eq_true, decide_true, cond_true, cond_false, Bool.not_true, Bool.not_false, Bool.not_eq_true', Bool.not_eq_false', Bool.and_eq_true, Bool.and_eq_false_imp, Bool.or_eq_true, Bool.or_eq_false_iff, decide_eq_true_eq, decide_eq_false_iff_not, Bool.false_eq_true, reduceCtorEq, Int.not_le, Int.not_lt, Decidable.not_not] at h)); rotate_left; ((intro h); (try simp only [beq_self_eq_true, eq_self, not_true_eq_false, not_false_eq_true, decide_true, cond_true, cond_false, Bool.not_true, Bool.not_false, Bool.not_eq_true', Bool.not_eq_false', Bool.and_eq_true, Bool.and_eq_false_imp, Bool.or_eq_true, Bool.or_eq_false_iff, decide_eq_true_eq, decide_eq_false_iff_not, Bool.false_eq_true, reduceCtorEq, Int.not_le, Int.not_lt, Decidable.not_not] at h)))
    | (with_reducible refine z_r ?_ ?_)
    | (with_reducible refine z_wg ?_ ?_)
    | (with_reducible refine z_w ?_ ?_)
    | ((with_reducible apply sh_nil); (intro _))
    | ((with_reducible apply sh_int); (intro _))
    | ((with_reducible apply sh_bool); (intro _))
    | ((with_reducible apply sh_sl); (intro _))
    | ((with_reducible refine z_xf ?zc ?zx ?_); (case zc => decide +kernel); (case zx => decide +kernel))
    | (with_reducible refine z_k (implSeenF _ _ (by simp only [Int.toNat_natCast]; omega) _) ?_)
    | ((with_reducible refine z_o ?zo ?_); (case zo => decide +kernel))
    | ((with_reducible refine z_x ?zx ?_); (case zx => decide +kernel))
    | fail)
      all_goals ((try simp only [Int.toNat_natCast, tn1, tp1, List.length_map, eq_self, true_and, and_true] at *); (try simp (disch := omega) only [wr, Int.toNat_natCast, tn1, tp1, List.length_map, eq_self, true_and, and_true] at *))
      all_goals (first
        | omega
        | (simp only [List.length_map, List.length_cons, List.length_nil, hvl]; omega)
        | (refine z_n (k + 1) ⟨by omega, by omega⟩ ?_; rw [shL_succ bs hlt, List.map_append]; simp only [List.length_map, fillTo_zero, Int.toNat_natCast, Option.isSome_some, and_self, fixB, Nat.reduceLeDiff, false_implies, true_implies, forall_const, St.le0, St.swaps, St.ren, mapV, renO, V.ren, Sc.ren, Ob.ren, swp, slsLe, obsLe, vLe, psLe, scLe, scsLe, obLe, Vq.look, Nat.reduceEqDiff, if_true, if_false, reduceCtorEq, ↓reduceIte, true_and, and_true] <;> (and_intros <;> first | rfl | omega | assumption); done)
        | (trace_state; fail))
    · repeat' (first
    | ((with_reducible refine z_run ?_); (conv => whnf))
    | (with_reducible apply z_t)
    | (with_reducible apply z_f)
    | ((with_reducible apply z_b); ((intro h); (try simp only [beq_self_eq_true, eq_self, not_true_eq_false, not_false_eq_true, decide_true, cond_true, cond_false, Bool.not_true, Bool.not_false, Bool.not_eq_true', Bool.not_eq_false', Bool.and_eq_true, Bool.and_eq_false_imp, Bool.or_eq_true, Bool.or_eq_false_iff, decide_eq_true_eq, decide_eq_false_iff_not, Bool.false_eq_true, reduceCtorEq, Int.not_le, Int.not_lt, Decidable.not_not] at h)); rotate_left; ((intro h); (try simp only [beq_self_eq_true, eq_self, not_true_eq_false, not_false_eq_true, decide_true, cond_true, cond_false, Bool.not_true, Bool.not_false, Bool.not_eq_true', Bool.not_eq_false', Bool.and_eq_true, Bool.and_eq_false_imp, Bool.or_eq_true, Bool.or_eq_false_iff, decide_eq_true_eq, decide_eq_false_iff_not, Bool.false_eq_true, reduceCtorEq, Int.not_le, Int.not_lt, Decidable.not_not] at h)))
    | (with_reducible refine z_r ?_ ?_)
    | (with_reducible refine z_wg ?_ ?_)
    | (with_reducible refine z_w ?_ ?_)
    | ((with_reducible apply sh_nil); (intro _))
    | ((with_reducible apply sh_int); (intro _))
    | ((with_reducible apply sh_bool); (intro _))
    | ((with_reducible apply sh_sl); (intro _))
    | ((with_reducible refine z_xf ?zc ?zx ?_); (case zc => decide +kernel); (case zx => decide +kernel))
    | ((with_reducible refine z_o ?zo ?_); (case zo => decide +kernel))
    | ((with_reducible refine z_x ?zx ?_); (case zx => decide +kernel))
    | fail)
      all_goals ((try simp only [Int.toNat_natCast, tn1, tp1, List.length_map, eq_self, true_and, and_true] at *); (try simp (disch := omega) only [wr, Int.toNat_natCast, tn1, tp1, List.length_map, eq_self, true_and, and_true] at *))
      all_goals (first
        | omega
        | (refine z_e rfl ?_; simp only [fin, finP, finM, ids, nodupB, tupP, tupM, memN, List.length_cons, List.length_nil, List.nil_append, List.append_nil, List.cons_append, Nat.zero_add, Nat.reduceAdd, ne_eq, not_false_eq_true, eq_self, ev, Vq.look, List.map_cons, List.map_nil, and_true, true_and, Nat.reduceEqDiff, if_true, if_false, reduceCtorEq, ↓reduceIte]; rw [show sp.length = k by omega]; done)
        | (trace_state; fail))
theorem specUseOf (w g : Int) (sp : List TSpot) (bs : List TBlk) (hl : sp.length + bs.length + cellsN bs ≤ 1048576) (hq : qOk w g sp bs) : FnC Try.prog 81 [aQ w g sp, aBs bs] (.one (.own 3 dI ((useK sp bs.length sp.length).map eI))) := by
  have hsl := qOk_len hq
  refine fn_z (ty := ty) (ts := [.tmp 4]) [0, 1, 2, 4, 5, 6, 10, 19] mixed ty_ok Try.func81 (by kernel_rfl) rfl (by kernel_rfl) (by kernel_rfl) rfl (.inl rfl) (Nat.le_of_ble_eq_true rfl) (by simp only [entry, entryV, C.toS, Nat.zero_add, Nat.reduceAdd, List.map_cons, List.map_nil]; exact rfl) ?_
  repeat' (first
    | ((with_reducible refine z_run ?_); (conv => whnf))
    | (with_reducible apply z_t)
    | (with_reducible apply z_f)
    | ((with_reducible apply z_b); ((intro h); (try simp only [beq_self_eq_true, eq_self, not_true_eq_false, not_false_eq_true, decide_true, cond_true, cond_false, Bool.not_true, Bool.not_false, Bool.not_eq_true', Bool.not_eq_false', Bool.and_eq_true, Bool.and_eq_false_imp, Bool.or_eq_true, Bool.or_eq_false_iff, decide_eq_true_eq, decide_eq_false_iff_not, Bool.false_eq_true, reduceCtorEq, Int.not_le, Int.not_lt, Decidable.not_not] at h)); rotate_left; ((intro h); (try simp only [beq_self_eq_true, eq_self, not_true_eq_false, not_false_eq_true, decide_true, cond_true, cond_false, Bool.not_true, Bool.not_false, Bool.not_eq_true', Bool.not_eq_false', Bool.and_eq_true, Bool.and_eq_false_imp, Bool.or_eq_true, Bool.or_eq_false_iff, decide_eq_true_eq, decide_eq_false_iff_not, Bool.false_eq_true, reduceCtorEq, Int.not_le, Int.not_lt, Decidable.not_not] at h)))
    | (with_reducible refine z_r ?_ ?_)
    | (with_reducible refine z_wg ?_ ?_)
    | (with_reducible refine z_w ?_ ?_)
    | ((with_reducible apply sh_nil); (intro _))
    | ((with_reducible apply sh_int); (intro _))
    | ((with_reducible apply sh_bool); (intro _))
    | ((with_reducible apply sh_sl); (intro _))
    | ((with_reducible refine z_xf ?zc ?zx ?_); (case zc => decide +kernel); (case zx => decide +kernel))
    | (with_reducible refine z_k (specQuiltOk _ _ _ _ hl) ?_)
    | ((with_reducible refine z_o ?zo ?_); (case zo => decide +kernel))
    | ((with_reducible refine z_x ?zx ?_); (case zx => decide +kernel))
    | fail)
  all_goals ((try simp only [Int.toNat_natCast, tn1, tp1, List.length_map, eq_self, true_and, and_true] at *); (try simp (disch := omega) only [wr, Int.toNat_natCast, tn1, tp1, List.length_map, eq_self, true_and, and_true] at *))
  all_goals (first
    | contradiction
    | omega
    | skip)
  refine z_li (fun k : Nat => k ≤ sp.length) (0 : Nat) (fun k => sp.length - k) (fun k => ⟨[(1, .one (.ro dBlk (bs.map eBlk))), (2, .one (.bx 2 0)), (5, .one (.root 14)), (6, .one (.int .i64 k))], [(14, .row 3 dI ((useK sp bs.length k).map eI)), (2, .box [.int .i64 w, .int .i64 g, .ro dSpot (sp.map eSpot)])]⟩) (by omega) ?_ ?_
  · rw [useK_zero, List.map_replicate]; simp only [List.length_map, fillTo_zero, Int.toNat_natCast, Option.isSome_some, and_self, fixB, Nat.reduceLeDiff, false_implies, true_implies, forall_const, St.le0, St.swaps, St.ren, mapV, renO, V.ren, Sc.ren, Ob.ren, swp, slsLe, obsLe, vLe, psLe, scLe, scsLe, obLe, Vq.look, Nat.reduceEqDiff, if_true, if_false, reduceCtorEq, ↓reduceIte, true_and, and_true] <;> (and_intros <;> first | rfl | omega | assumption)
  · intro k hk
    have hul := useK_len sp bs.length k
    by_cases hlt : k < sp.length
    · have hsp := qOk_spot hq hlt
      have hcb := cntS_bd (sp.take k) (sp.getD k default).1.toNat
      rw [List.length_take] at hcb
      have hus := useK_succ (m := bs.length) hlt hsp.1.1
      have hug := useK_get sp (m := bs.length) (k := k) (i := (sp.getD k default).1.toNat) (by omega)
      repeat' (first
    | ((with_reducible refine z_run ?_); (conv => whnf))
    | (with_reducible apply z_t)
    | (with_reducible apply z_f)
    | ((with_reducible apply z_b); ((intro h); (try simp only [beq_self_eq_true, eq_self, not_true_eq_false, not_false_eq_true, decide_true, cond_true, cond_false, Bool.not_true, Bool.not_false, Bool.not_eq_true', Bool.not_eq_false', Bool.and_eq_true, Bool.and_eq_false_imp, Bool.or_eq_true, Bool.or_eq_false_iff, decide_eq_true_eq, decide_eq_false_iff_not, Bool.false_eq_true, reduceCtorEq, Int.not_le, Int.not_lt, Decidable.not_not] at h)); rotate_left; ((intro h); (try simp only [beq_self_eq_true, eq_self, not_true_eq_false, not_false_eq_true, decide_true, cond_true, cond_false, Bool.not_true, Bool.not_false, Bool.not_eq_true', Bool.not_eq_false', Bool.and_eq_true, Bool.and_eq_false_imp, Bool.or_eq_true, Bool.or_eq_false_iff, decide_eq_true_eq, decide_eq_false_iff_not, Bool.false_eq_true, reduceCtorEq, Int.not_le, Int.not_lt, Decidable.not_not] at h)))
    | (with_reducible refine z_r ?_ ?_)
    | (with_reducible refine z_wg ?_ ?_)
    | (with_reducible refine z_w ?_ ?_)
    | ((with_reducible apply sh_nil); (intro _))
    | ((with_reducible apply sh_int); (intro _))
    | ((with_reducible apply sh_bool); (intro _))
    | ((with_reducible apply sh_sl); (intro _))
    | ((with_reducible refine z_xf ?zc ?zx ?_); (case zc => decide +kernel); (case zx => decide +kernel))
    | ((with_reducible refine z_o ?zo ?_); (case zo => decide +kernel))
    | ((with_reducible refine z_x ?zx ?_); (case zx => decide +kernel))
    | fail)
      all_goals ((try simp only [Int.toNat_natCast, tn1, tp1, List.length_map, eq_self, true_and, and_true] at *); (try simp (disch := omega) only [wr, Int.toNat_natCast, tn1, tp1, List.length_map, eq_self, true_and, and_true] at *))
      all_goals (first
        | omega
        | (simp only [List.length_map, List.length_cons, List.length_nil, hul]; omega)
        | (refine z_n (k + 1) ⟨by omega, by omega⟩ ?_; rw [← hus, ← set_map]; simp only [List.length_map, fillTo_zero, Int.toNat_natCast, Option.isSome_some, and_self, fixB, Nat.reduceLeDiff, false_implies, true_implies, forall_const, St.le0, St.swaps, St.ren, mapV, renO, V.ren, Sc.ren, Ob.ren, swp, slsLe, obsLe, vLe, psLe, scLe, scsLe, obLe, Vq.look, Nat.reduceEqDiff, if_true, if_false, reduceCtorEq, ↓reduceIte, true_and, and_true] <;> (and_intros <;> first | rfl | omega | assumption); done)
        | (trace_state; fail))
    · repeat' (first
    | ((with_reducible refine z_run ?_); (conv => whnf))
    | (with_reducible apply z_t)
    | (with_reducible apply z_f)
    | ((with_reducible apply z_b); ((intro h); (try simp only [beq_self_eq_true, eq_self, not_true_eq_false, not_false_eq_true, decide_true, cond_true, cond_false, Bool.not_true, Bool.not_false, Bool.not_eq_true', Bool.not_eq_false', Bool.and_eq_true, Bool.and_eq_false_imp, Bool.or_eq_true, Bool.or_eq_false_iff, decide_eq_true_eq, decide_eq_false_iff_not, Bool.false_eq_true, reduceCtorEq, Int.not_le, Int.not_lt, Decidable.not_not] at h)); rotate_left; ((intro h); (try simp only [beq_self_eq_true, eq_self, not_true_eq_false, not_false_eq_true, decide_true, cond_true, cond_false, Bool.not_true, Bool.not_false, Bool.not_eq_true', Bool.not_eq_false', Bool.and_eq_true, Bool.and_eq_false_imp, Bool.or_eq_true, Bool.or_eq_false_iff, decide_eq_true_eq, decide_eq_false_iff_not, Bool.false_eq_true, reduceCtorEq, Int.not_le, Int.not_lt, Decidable.not_not] at h)))
    | (with_reducible refine z_r ?_ ?_)
    | (with_reducible refine z_wg ?_ ?_)
    | (with_reducible refine z_w ?_ ?_)
    | ((with_reducible apply sh_nil); (intro _))
    | ((with_reducible apply sh_int); (intro _))
    | ((with_reducible apply sh_bool); (intro _))
    | ((with_reducible apply sh_sl); (intro _))
    | ((with_reducible refine z_xf ?zc ?zx ?_); (case zc => decide +kernel); (case zx => decide +kernel))
    | ((with_reducible refine z_o ?zo ?_); (case zo => decide +kernel))
    | ((with_reducible refine z_x ?zx ?_); (case zx => decide +kernel))
    | fail)
      all_goals ((try simp only [Int.toNat_natCast, tn1, tp1, List.length_map, eq_self, true_and, and_true] at *); (try simp (disch := omega) only [wr, Int.toNat_natCast, tn1, tp1, List.length_map, eq_self, true_and, and_true] at *))
      all_goals (first
        | omega
        | (refine z_e rfl ?_; simp only [fin, finP, finM, ids, nodupB, tupP, tupM, memN, List.length_cons, List.length_nil, List.nil_append, List.append_nil, List.cons_append, Nat.zero_add, Nat.reduceAdd, ne_eq, not_false_eq_true, eq_self, ev, Vq.look, List.map_cons, List.map_nil, and_true, true_and, Nat.reduceEqDiff, if_true, if_false, reduceCtorEq, ↓reduceIte]; rw [show sp.length = k by omega]; done)
        | (trace_state; fail))
def pcR (w g : Int) (sp : List TSpot) (bs : List TBlk) (s : Int) : Int := if ordOkP w g sp bs s then shS pcN sp bs sp.length else -1
theorem implPiecesFor (w g : Int) (sp : List TSpot) (bs : List TBlk) (s : Int) (hl : sp.length + bs.length + cellsN bs ≤ 1048576) : FnC Try.prog 36 [aO w g sp bs s] (.one (.int .i64 (pcR w g sp bs s))) := by
  by_cases ho : ordOkP w g sp bs s
  · have hq : qOk w g sp bs := ho.1
    have hsl := qOk_len hq
    refine fn_z (ty := ty) (ts := [.tmp 2]) [0, 1, 2, 3, 5, 8, 13, 14, 15, 16] mixed ty_ok Try.func36 (by kernel_rfl) rfl (by kernel_rfl) (by kernel_rfl) rfl (.inl rfl) (Nat.le_of_ble_eq_true rfl) (by simp only [entry, entryV, C.toS, Nat.zero_add, Nat.reduceAdd, List.map_cons, List.map_nil]; exact rfl) ?_
    repeat' (first
    | ((with_reducible refine z_run ?_); (conv => whnf))
    | (with_reducible apply z_t)
    | (with_reducible apply z_f)
    | ((with_reducible apply z_b); ((intro h); (try simp only [beq_self_eq_true, eq_self, not_true_eq_false, not_false_eq_true, decide_true, cond_true, cond_false, Bool.not_true, Bool.not_false, Bool.not_eq_true', Bool.not_eq_false', Bool.and_eq_true, Bool.and_eq_false_imp, Bool.or_eq_true, Bool.or_eq_false_iff, decide_eq_true_eq, decide_eq_false_iff_not, Bool.false_eq_true, reduceCtorEq, Int.not_le, Int.not_lt, Decidable.not_not] at h)); rotate_left; ((intro h); (try simp only [beq_self_eq_true, eq_self, not_true_eq_false, not_false_eq_true, decide_true, cond_true, cond_false, Bool.not_true, Bool.not_false, Bool.not_eq_true', Bool.not_eq_false', Bool.and_eq_true, Bool.and_eq_false_imp, Bool.or_eq_true, Bool.or_eq_false_iff, decide_eq_true_eq, decide_eq_false_iff_not, Bool.false_eq_true, reduceCtorEq, Int.not_le, Int.not_lt, Decidable.not_not] at h)))
    | (with_reducible refine z_r ?_ ?_)
    | (with_reducible refine z_wg ?_ ?_)
    | (with_reducible refine z_w ?_ ?_)
    | ((with_reducible apply sh_nil); (intro _))
    | ((with_reducible apply sh_int); (intro _))
    | ((with_reducible apply sh_bool); (intro _))
    | ((with_reducible apply sh_sl); (intro _))
    | ((with_reducible refine z_xf ?zc ?zx ?_); (case zc => decide +kernel); (case zx => decide +kernel))
    | (with_reducible refine z_k (implOrderOk _ _ _ _ _ hl) ?_)
    | (with_reducible refine z_k (shown_fn _ _ _ _ hl hq) ?_)
    | ((with_reducible refine z_o ?zo ?_); (case zo => decide +kernel))
    | ((with_reducible refine z_x ?zx ?_); (case zx => decide +kernel))
    | fail)
    all_goals ((try simp only [Int.toNat_natCast, tn1, tp1, List.length_map, eq_self, true_and, and_true] at *); (try simp (disch := omega) only [wr, Int.toNat_natCast, tn1, tp1, List.length_map, eq_self, true_and, and_true] at *))
    all_goals (first
      | contradiction
      | skip)
    have hlen := shL_len sp bs (Nat.le_refl sp.length)
    refine z_li (fun k : Nat => k ≤ sp.length) (0 : Nat) (fun k => sp.length - k) (fun k => ⟨[(1, .one (.bx 1 0)), (3, .one (.int .i64 (shS pcN sp bs k))), (13, .one (.root 13)), (14, .one (.int .i64 (shL sp bs sp.length).length)), (15, .one (.int .i64 k))], [(13, .row 63 dBlk ((shL sp bs sp.length).map eBlk)), (1, .box [.int .i64 w, .int .i64 g, .ro dSpot (sp.map eSpot), .ro dBlk (bs.map eBlk), .int .i64 s])]⟩) (by omega) ?_ ?_
    · simp only [List.length_map, fillTo_zero, Int.toNat_natCast, Option.isSome_some, and_self, fixB, Nat.reduceLeDiff, false_implies, true_implies, forall_const, St.le0, St.swaps, St.ren, mapV, renO, V.ren, Sc.ren, Ob.ren, swp, slsLe, obsLe, vLe, psLe, scLe, scsLe, obLe, Vq.look, Nat.reduceEqDiff, if_true, if_false, reduceCtorEq, ↓reduceIte, true_and, and_true] <;> (and_intros <;> first | rfl | omega | assumption)
    · intro k hk
      have hsb := shS_bd hq pcN (fun b hb => pcN_bd hb) k hk
      by_cases hlt : k < sp.length
      · have hsp := qOk_spot hq hlt
        have hok := seenB_ok (qOk_blk hq (i := (sp.getD k default).1.toNat) (by omega)) hsp.2
        have hge := shL_get bs hlt
        rw [← hge] at hok
        have hp := pcN_bd hok.1
        have ht := triR_bd hok.1
        have hc := shL_c sp bs sp.length k
        have hpe : pcN ((shL sp bs sp.length).getD k default) = ((shL sp bs sp.length).getD k default).2.length + (triR ((shL sp bs sp.length).getD k default).1 ((shL sp bs sp.length).getD k default).2).tdiv 2 := rfl
        have hss := shS_succ pcN bs hlt
        rw [← hge] at hss
        repeat' (first
    | ((with_reducible refine z_run ?_); (conv => whnf))
    | (with_reducible apply z_t)
    | (with_reducible apply z_f)
    | ((with_reducible apply z_b); ((intro h); (try simp only [beq_self_eq_true, eq_self, not_true_eq_false, not_false_eq_true, decide_true, cond_true, cond_false, Bool.not_true, Bool.not_false, Bool.not_eq_true', Bool.not_eq_false', Bool.and_eq_true, Bool.and_eq_false_imp, Bool.or_eq_true, Bool.or_eq_false_iff, decide_eq_true_eq, decide_eq_false_iff_not, Bool.false_eq_true, reduceCtorEq, Int.not_le, Int.not_lt, Decidable.not_not] at h)); rotate_left; ((intro h); (try simp only [beq_self_eq_true, eq_self, not_true_eq_false, not_false_eq_true, decide_true, cond_true, cond_false, Bool.not_true, Bool.not_false, Bool.not_eq_true', Bool.not_eq_false', Bool.and_eq_true, Bool.and_eq_false_imp, Bool.or_eq_true, Bool.or_eq_false_iff, decide_eq_true_eq, decide_eq_false_iff_not, Bool.false_eq_true, reduceCtorEq, Int.not_le, Int.not_lt, Decidable.not_not] at h)))
    | (with_reducible refine z_r ?_ ?_)
    | (with_reducible refine z_wg ?_ ?_)
    | (with_reducible refine z_w ?_ ?_)
    | ((with_reducible apply sh_nil); (intro _))
    | ((with_reducible apply sh_int); (intro _))
    | ((with_reducible apply sh_bool); (intro _))
    | ((with_reducible apply sh_sl); (intro _))
    | ((with_reducible refine z_xf ?zc ?zx ?_); (case zc => decide +kernel); (case zx => decide +kernel))
    | (with_reducible refine z_k (implCountTriangles _ _ (by simp only [Int.toNat_natCast]; omega)) ?_)
    | ((with_reducible refine z_o ?zo ?_); (case zo => decide +kernel))
    | ((with_reducible refine z_x ?zx ?_); (case zx => decide +kernel))
    | fail)
        all_goals ((try simp only [Int.toNat_natCast, tn1, tp1, List.length_map, eq_self, true_and, and_true] at *); (try simp (disch := omega) only [wr, Int.toNat_natCast, tn1, tp1, List.length_map, eq_self, true_and, and_true] at *))
        all_goals (first
          | omega
          | (refine z_n (k + 1) ⟨by omega, by omega⟩ ?_; rw [hss, hpe]; simp only [List.length_map, fillTo_zero, Int.toNat_natCast, Option.isSome_some, and_self, fixB, Nat.reduceLeDiff, false_implies, true_implies, forall_const, St.le0, St.swaps, St.ren, mapV, renO, V.ren, Sc.ren, Ob.ren, swp, slsLe, obsLe, vLe, psLe, scLe, scsLe, obLe, Vq.look, Nat.reduceEqDiff, if_true, if_false, reduceCtorEq, ↓reduceIte, true_and, and_true] <;> (and_intros <;> first | rfl | omega | assumption); done)
          | (trace_state; fail))
      · repeat' (first
    | ((with_reducible refine z_run ?_); (conv => whnf))
    | (with_reducible apply z_t)
    | (with_reducible apply z_f)
    | ((with_reducible apply z_b); ((intro h); (try simp only [beq_self_eq_true, eq_self, not_true_eq_false, not_false_eq_true, decide_true, cond_true, cond_false, Bool.not_true, Bool.not_false, Bool.not_eq_true', Bool.not_eq_false', Bool.and_eq_true, Bool.and_eq_false_imp, Bool.or_eq_true, Bool.or_eq_false_iff, decide_eq_true_eq, decide_eq_false_iff_not, Bool.false_eq_true, reduceCtorEq, Int.not_le, Int.not_lt, Decidable.not_not] at h)); rotate_left; ((intro h); (try simp only [beq_self_eq_true, eq_self, not_true_eq_false, not_false_eq_true, decide_true, cond_true, cond_false, Bool.not_true, Bool.not_false, Bool.not_eq_true', Bool.not_eq_false', Bool.and_eq_true, Bool.and_eq_false_imp, Bool.or_eq_true, Bool.or_eq_false_iff, decide_eq_true_eq, decide_eq_false_iff_not, Bool.false_eq_true, reduceCtorEq, Int.not_le, Int.not_lt, Decidable.not_not] at h)))
    | (with_reducible refine z_r ?_ ?_)
    | (with_reducible refine z_wg ?_ ?_)
    | (with_reducible refine z_w ?_ ?_)
    | ((with_reducible apply sh_nil); (intro _))
    | ((with_reducible apply sh_int); (intro _))
    | ((with_reducible apply sh_bool); (intro _))
    | ((with_reducible apply sh_sl); (intro _))
    | ((with_reducible refine z_xf ?zc ?zx ?_); (case zc => decide +kernel); (case zx => decide +kernel))
    | ((with_reducible refine z_o ?zo ?_); (case zo => decide +kernel))
    | ((with_reducible refine z_x ?zx ?_); (case zx => decide +kernel))
    | fail)
        all_goals ((try simp only [Int.toNat_natCast, tn1, tp1, List.length_map, eq_self, true_and, and_true] at *); (try simp (disch := omega) only [wr, Int.toNat_natCast, tn1, tp1, List.length_map, eq_self, true_and, and_true] at *))
        all_goals (first
          | omega
          | (refine z_e rfl ?_; simp only [fin, finP, finM, ids, nodupB, tupP, tupM, memN, List.length_cons, List.length_nil, List.nil_append, List.append_nil, List.cons_append, Nat.zero_add, Nat.reduceAdd, ne_eq, not_false_eq_true, eq_self, ev, Vq.look, List.map_cons, List.map_nil, and_true, true_and, Nat.reduceEqDiff, if_true, if_false, reduceCtorEq, ↓reduceIte]; rw [pcR, if_pos ho, show sp.length = k by omega]; done)
          | (trace_state; fail))
  · refine fn_z (ty := ty) (ts := [.tmp 2]) [0, 1, 2, 3, 5, 8, 13, 14, 15, 16] mixed ty_ok Try.func36 (by kernel_rfl) rfl (by kernel_rfl) (by kernel_rfl) rfl (.inl rfl) (Nat.le_of_ble_eq_true rfl) (by simp only [entry, entryV, C.toS, Nat.zero_add, Nat.reduceAdd, List.map_cons, List.map_nil]; exact rfl) ?_
    repeat' (first
    | ((with_reducible refine z_run ?_); (conv => whnf))
    | (with_reducible apply z_t)
    | (with_reducible apply z_f)
    | ((with_reducible apply z_b); ((intro h); (try simp only [beq_self_eq_true, eq_self, not_true_eq_false, not_false_eq_true, decide_true, cond_true, cond_false, Bool.not_true, Bool.not_false, Bool.not_eq_true', Bool.not_eq_false', Bool.and_eq_true, Bool.and_eq_false_imp, Bool.or_eq_true, Bool.or_eq_false_iff, decide_eq_true_eq, decide_eq_false_iff_not, Bool.false_eq_true, reduceCtorEq, Int.not_le, Int.not_lt, Decidable.not_not] at h)); rotate_left; ((intro h); (try simp only [beq_self_eq_true, eq_self, not_true_eq_false, not_false_eq_true, decide_true, cond_true, cond_false, Bool.not_true, Bool.not_false, Bool.not_eq_true', Bool.not_eq_false', Bool.and_eq_true, Bool.and_eq_false_imp, Bool.or_eq_true, Bool.or_eq_false_iff, decide_eq_true_eq, decide_eq_false_iff_not, Bool.false_eq_true, reduceCtorEq, Int.not_le, Int.not_lt, Decidable.not_not] at h)))
    | (with_reducible refine z_r ?_ ?_)
    | (with_reducible refine z_wg ?_ ?_)
    | (with_reducible refine z_w ?_ ?_)
    | ((with_reducible apply sh_nil); (intro _))
    | ((with_reducible apply sh_int); (intro _))
    | ((with_reducible apply sh_bool); (intro _))
    | ((with_reducible apply sh_sl); (intro _))
    | ((with_reducible refine z_xf ?zc ?zx ?_); (case zc => decide +kernel); (case zx => decide +kernel))
    | (with_reducible refine z_k (implOrderOk _ _ _ _ _ hl) ?_)
    | ((with_reducible refine z_o ?zo ?_); (case zo => decide +kernel))
    | ((with_reducible refine z_x ?zx ?_); (case zx => decide +kernel))
    | fail)
    all_goals ((try simp only [Int.toNat_natCast, tn1, tp1, List.length_map, eq_self, true_and, and_true] at *); (try simp (disch := omega) only [wr, Int.toNat_natCast, tn1, tp1, List.length_map, eq_self, true_and, and_true] at *))
    all_goals (first
      | contradiction
      | (refine z_e rfl ?_; simp only [fin, finP, finM, ids, nodupB, tupP, tupM, memN, List.length_cons, List.length_nil, List.nil_append, List.append_nil, List.cons_append, Nat.zero_add, Nat.reduceAdd, ne_eq, not_false_eq_true, eq_self, ev, Vq.look, List.map_cons, List.map_nil, and_true, true_and, Nat.reduceEqDiff, if_true, if_false, reduceCtorEq, ↓reduceIte]; rw [pcR, if_neg (by assumption)])
      | (trace_state; fail))
theorem specPiecesFor (w g : Int) (sp : List TSpot) (bs : List TBlk) (s : Int) (hl : sp.length + bs.length + cellsN bs ≤ 1048576) : FnC Try.prog 35 [aO w g sp bs s] (.one (.int .i64 (pcR w g sp bs s))) := by
  by_cases ho : ordOkP w g sp bs s
  · have hq : qOk w g sp bs := ho.1
    have hsl := qOk_len hq
    refine fn_z (ty := ty) (ts := [.tmp 2]) [0, 1, 2, 3, 4, 5, 8, 17] mixed ty_ok Try.func35 (by kernel_rfl) rfl (by kernel_rfl) (by kernel_rfl) rfl (.inl rfl) (Nat.le_of_ble_eq_true rfl) (by simp only [entry, entryV, C.toS, Nat.zero_add, Nat.reduceAdd, List.map_cons, List.map_nil]; exact rfl) ?_
    repeat' (first
    | ((with_reducible refine z_run ?_); (conv => whnf))
    | (with_reducible apply z_t)
    | (with_reducible apply z_f)
    | ((with_reducible apply z_b); ((intro h); (try simp only [beq_self_eq_true, eq_self, not_true_eq_false, not_false_eq_true, decide_true, cond_true, cond_false, Bool.not_true, Bool.not_false, Bool.not_eq_true', Bool.not_eq_false', Bool.and_eq_true, Bool.and_eq_false_imp, Bool.or_eq_true, Bool.or_eq_false_iff, decide_eq_true_eq, decide_eq_false_iff_not, Bool.false_eq_true, reduceCtorEq, Int.not_le, Int.not_lt, Decidable.not_not] at h)); rotate_left; ((intro h); (try simp only [beq_self_eq_true, eq_self, not_true_eq_false, not_false_eq_true, decide_true, cond_true, cond_false, Bool.not_true, Bool.not_false, Bool.not_eq_true', Bool.not_eq_false', Bool.and_eq_true, Bool.and_eq_false_imp, Bool.or_eq_true, Bool.or_eq_false_iff, decide_eq_true_eq, decide_eq_false_iff_not, Bool.false_eq_true, reduceCtorEq, Int.not_le, Int.not_lt, Decidable.not_not] at h)))
    | (with_reducible refine z_r ?_ ?_)
    | (with_reducible refine z_wg ?_ ?_)
    | (with_reducible refine z_w ?_ ?_)
    | ((with_reducible apply sh_nil); (intro _))
    | ((with_reducible apply sh_int); (intro _))
    | ((with_reducible apply sh_bool); (intro _))
    | ((with_reducible apply sh_sl); (intro _))
    | ((with_reducible refine z_xf ?zc ?zx ?_); (case zc => decide +kernel); (case zx => decide +kernel))
    | (with_reducible refine z_k (specOrderOk _ _ _ _ _ hl) ?_)
    | (with_reducible refine z_k (specUseOf _ _ _ _ hl hq) ?_)
    | ((with_reducible refine z_o ?zo ?_); (case zo => decide +kernel))
    | ((with_reducible refine z_x ?zx ?_); (case zx => decide +kernel))
    | fail)
    all_goals ((try simp only [Int.toNat_natCast, tn1, tp1, List.length_map, eq_self, true_and, and_true] at *); (try simp (disch := omega) only [wr, Int.toNat_natCast, tn1, tp1, List.length_map, eq_self, true_and, and_true] at *))
    all_goals (first
      | contradiction
      | skip)
    have hul := useK_len sp bs.length sp.length
    have hall := shS_eq hq pcN (fun b hb k hk => pcN_seen hb hk)
    refine z_li (fun k : Nat => k ≤ bs.length) (0 : Nat) (fun k => bs.length - k) (fun k => ⟨[(1, .one (.bx 1 0)), (3, .one (.int .i64 (usum sp (fun i => pcN (bs.getD i default)) k))), (4, .one (.root 13)), (5, .one (.int .i64 k))], [(13, .row 3 dI ((useK sp bs.length sp.length).map eI)), (1, .box [.int .i64 w, .int .i64 g, .ro dSpot (sp.map eSpot), .ro dBlk (bs.map eBlk), .int .i64 s])]⟩) (by omega) ?_ ?_
    · simp only [List.length_map, fillTo_zero, Int.toNat_natCast, Option.isSome_some, and_self, fixB, Nat.reduceLeDiff, false_implies, true_implies, forall_const, St.le0, St.swaps, St.ren, mapV, renO, V.ren, Sc.ren, Ob.ren, swp, slsLe, obsLe, vLe, psLe, scLe, scsLe, obLe, Vq.look, Nat.reduceEqDiff, if_true, if_false, reduceCtorEq, ↓reduceIte, true_and, and_true] <;> (and_intros <;> first | rfl | omega | assumption)
    · intro k hk
      have hbl := hq.2.1
      have hsb := usum_bd6 hq pcN (fun b hb => pcN_bd hb) k hk
      by_cases hlt : k < bs.length
      · have hok := qOk_blk hq hlt
        have hp := pcN_bd hok
        have ht := triR_bd hok
        have hc := cellsN_get hlt
        have hcn := cntS_bd sp k
        have hug := useK_get sp (m := bs.length) (k := sp.length) (i := k) hlt
        rw [List.take_of_length_le (Nat.le_refl _)] at hug
        have hmul : 0 ≤ cntS sp k * pcN (bs.getD k default) ∧ cntS sp k * pcN (bs.getD k default) ≤ 36 * 32 := ⟨Int.mul_nonneg hcn.1 hp.1, Int.mul_le_mul (by omega) hp.2 hp.1 (by omega)⟩
        have hpe : ((bs.getD k default).2.length : Int) + (triR (bs.getD k default).1 (bs.getD k default).2).tdiv 2 = pcN (bs.getD k default) := rfl
        repeat' (first
    | ((with_reducible refine z_run ?_); (conv => whnf))
    | (with_reducible apply z_t)
    | (with_reducible apply z_f)
    | ((with_reducible apply z_b); ((intro h); (try simp only [beq_self_eq_true, eq_self, not_true_eq_false, not_false_eq_true, decide_true, cond_true, cond_false, Bool.not_true, Bool.not_false, Bool.not_eq_true', Bool.not_eq_false', Bool.and_eq_true, Bool.and_eq_false_imp, Bool.or_eq_true, Bool.or_eq_false_iff, decide_eq_true_eq, decide_eq_false_iff_not, Bool.false_eq_true, reduceCtorEq, Int.not_le, Int.not_lt, Decidable.not_not] at h)); rotate_left; ((intro h); (try simp only [beq_self_eq_true, eq_self, not_true_eq_false, not_false_eq_true, decide_true, cond_true, cond_false, Bool.not_true, Bool.not_false, Bool.not_eq_true', Bool.not_eq_false', Bool.and_eq_true, Bool.and_eq_false_imp, Bool.or_eq_true, Bool.or_eq_false_iff, decide_eq_true_eq, decide_eq_false_iff_not, Bool.false_eq_true, reduceCtorEq, Int.not_le, Int.not_lt, Decidable.not_not] at h)))
    | (with_reducible refine z_r ?_ ?_)
    | (with_reducible refine z_wg ?_ ?_)
    | (with_reducible refine z_w ?_ ?_)
    | ((with_reducible apply sh_nil); (intro _))
    | ((with_reducible apply sh_int); (intro _))
    | ((with_reducible apply sh_bool); (intro _))
    | ((with_reducible apply sh_sl); (intro _))
    | ((with_reducible refine z_xf ?zc ?zx ?_); (case zc => decide +kernel); (case zx => decide +kernel))
    | (with_reducible refine z_k (specCountTriangles _ _ (by simp only [Int.toNat_natCast]; omega)) ?_)
    | ((with_reducible refine z_o ?zo ?_); (case zo => decide +kernel))
    | ((with_reducible refine z_x ?zx ?_); (case zx => decide +kernel))
    | fail)
        all_goals ((try simp only [Int.toNat_natCast, tn1, tp1, List.length_map, eq_self, true_and, and_true] at *); (try simp (disch := omega) only [wr, Int.toNat_natCast, tn1, tp1, List.length_map, eq_self, true_and, and_true] at *))
        all_goals (try rw [hug] at *)
        all_goals (try rw [hpe] at *)
        all_goals (first
          | omega
          | (refine z_n (k + 1) ⟨by omega, by omega⟩ ?_; rw [usum]; (try rw [wr (x := cntS sp k * pcN (bs.getD k default)) ⟨by omega, by omega⟩]); (try rw [wr ⟨by omega, by omega⟩]); simp only [List.length_map, fillTo_zero, Int.toNat_natCast, Option.isSome_some, and_self, fixB, Nat.reduceLeDiff, false_implies, true_implies, forall_const, St.le0, St.swaps, St.ren, mapV, renO, V.ren, Sc.ren, Ob.ren, swp, slsLe, obsLe, vLe, psLe, scLe, scsLe, obLe, Vq.look, Nat.reduceEqDiff, if_true, if_false, reduceCtorEq, ↓reduceIte, true_and, and_true] <;> (and_intros <;> first | rfl | omega | assumption); done)
          | (trace_state; fail))
      · repeat' (first
    | ((with_reducible refine z_run ?_); (conv => whnf))
    | (with_reducible apply z_t)
    | (with_reducible apply z_f)
    | ((with_reducible apply z_b); ((intro h); (try simp only [beq_self_eq_true, eq_self, not_true_eq_false, not_false_eq_true, decide_true, cond_true, cond_false, Bool.not_true, Bool.not_false, Bool.not_eq_true', Bool.not_eq_false', Bool.and_eq_true, Bool.and_eq_false_imp, Bool.or_eq_true, Bool.or_eq_false_iff, decide_eq_true_eq, decide_eq_false_iff_not, Bool.false_eq_true, reduceCtorEq, Int.not_le, Int.not_lt, Decidable.not_not] at h)); rotate_left; ((intro h); (try simp only [beq_self_eq_true, eq_self, not_true_eq_false, not_false_eq_true, decide_true, cond_true, cond_false, Bool.not_true, Bool.not_false, Bool.not_eq_true', Bool.not_eq_false', Bool.and_eq_true, Bool.and_eq_false_imp, Bool.or_eq_true, Bool.or_eq_false_iff, decide_eq_true_eq, decide_eq_false_iff_not, Bool.false_eq_true, reduceCtorEq, Int.not_le, Int.not_lt, Decidable.not_not] at h)))
    | (with_reducible refine z_r ?_ ?_)
    | (with_reducible refine z_wg ?_ ?_)
    | (with_reducible refine z_w ?_ ?_)
    | ((with_reducible apply sh_nil); (intro _))
    | ((with_reducible apply sh_int); (intro _))
    | ((with_reducible apply sh_bool); (intro _))
    | ((with_reducible apply sh_sl); (intro _))
    | ((with_reducible refine z_xf ?zc ?zx ?_); (case zc => decide +kernel); (case zx => decide +kernel))
    | ((with_reducible refine z_o ?zo ?_); (case zo => decide +kernel))
    | ((with_reducible refine z_x ?zx ?_); (case zx => decide +kernel))
    | fail)
        all_goals ((try simp only [Int.toNat_natCast, tn1, tp1, List.length_map, eq_self, true_and, and_true] at *); (try simp (disch := omega) only [wr, Int.toNat_natCast, tn1, tp1, List.length_map, eq_self, true_and, and_true] at *))
        all_goals (first
          | omega
          | (refine z_e rfl ?_; simp only [fin, finP, finM, ids, nodupB, tupP, tupM, memN, List.length_cons, List.length_nil, List.nil_append, List.append_nil, List.cons_append, Nat.zero_add, Nat.reduceAdd, ne_eq, not_false_eq_true, eq_self, ev, Vq.look, List.map_cons, List.map_nil, and_true, true_and, Nat.reduceEqDiff, if_true, if_false, reduceCtorEq, ↓reduceIte]; rw [pcR, if_pos ho, hall, show bs.length = k by omega]; done)
          | (trace_state; fail))
  · refine fn_z (ty := ty) (ts := [.tmp 2]) [0, 1, 2, 3, 4, 5, 8, 17] mixed ty_ok Try.func35 (by kernel_rfl) rfl (by kernel_rfl) (by kernel_rfl) rfl (.inl rfl) (Nat.le_of_ble_eq_true rfl) (by simp only [entry, entryV, C.toS, Nat.zero_add, Nat.reduceAdd, List.map_cons, List.map_nil]; exact rfl) ?_
    repeat' (first
    | ((with_reducible refine z_run ?_); (conv => whnf))
    | (with_reducible apply z_t)
    | (with_reducible apply z_f)
    | ((with_reducible apply z_b); ((intro h); (try simp only [beq_self_eq_true, eq_self, not_true_eq_false, not_false_eq_true, decide_true, cond_true, cond_false, Bool.not_true, Bool.not_false, Bool.not_eq_true', Bool.not_eq_false', Bool.and_eq_true, Bool.and_eq_false_imp, Bool.or_eq_true, Bool.or_eq_false_iff, decide_eq_true_eq, decide_eq_false_iff_not, Bool.false_eq_true, reduceCtorEq, Int.not_le, Int.not_lt, Decidable.not_not] at h)); rotate_left; ((intro h); (try simp only [beq_self_eq_true, eq_self, not_true_eq_false, not_false_eq_true, decide_true, cond_true, cond_false, Bool.not_true, Bool.not_false, Bool.not_eq_true', Bool.not_eq_false', Bool.and_eq_true, Bool.and_eq_false_imp, Bool.or_eq_true, Bool.or_eq_false_iff, decide_eq_true_eq, decide_eq_false_iff_not, Bool.false_eq_true, reduceCtorEq, Int.not_le, Int.not_lt, Decidable.not_not] at h)))
    | (with_reducible refine z_r ?_ ?_)
    | (with_reducible refine z_wg ?_ ?_)
    | (with_reducible refine z_w ?_ ?_)
    | ((with_reducible apply sh_nil); (intro _))
    | ((with_reducible apply sh_int); (intro _))
    | ((with_reducible apply sh_bool); (intro _))
    | ((with_reducible apply sh_sl); (intro _))
    | ((with_reducible refine z_xf ?zc ?zx ?_); (case zc => decide +kernel); (case zx => decide +kernel))
    | (with_reducible refine z_k (specOrderOk _ _ _ _ _ hl) ?_)
    | ((with_reducible refine z_o ?zo ?_); (case zo => decide +kernel))
    | ((with_reducible refine z_x ?zx ?_); (case zx => decide +kernel))
    | fail)
    all_goals ((try simp only [Int.toNat_natCast, tn1, tp1, List.length_map, eq_self, true_and, and_true] at *); (try simp (disch := omega) only [wr, Int.toNat_natCast, tn1, tp1, List.length_map, eq_self, true_and, and_true] at *))
    all_goals (first
      | contradiction
      | (refine z_e rfl ?_; simp only [fin, finP, finM, ids, nodupB, tupP, tupM, memN, List.length_cons, List.length_nil, List.nil_append, List.append_nil, List.cons_append, Nat.zero_add, Nat.reduceAdd, ne_eq, not_false_eq_true, eq_self, ev, Vq.look, List.map_cons, List.map_nil, and_true, true_and, Nat.reduceEqDiff, if_true, if_false, reduceCtorEq, ↓reduceIte]; rw [pcR, if_neg (by assumption)])
      | (trace_state; fail))
end Go.Proofs.Ytcibheinilkcoaa
