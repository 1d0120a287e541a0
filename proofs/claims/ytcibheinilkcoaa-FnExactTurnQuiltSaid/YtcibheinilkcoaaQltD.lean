/- The cursor over the bytes of a draw: plain mathematics and contracts. No conditions. Drawn cells, blocks and quilts. No conditions. -/
import Derived.Test.YtcibheinilkcoaaInts
import Derived.Test.YtcibheinilkcoaaQltP
namespace Go.Proofs.Ytcibheinilkcoaa
open Go.Vq
set_option linter.unusedSimpArgs false
set_option maxHeartbeats 1000000
abbrev dU : List Kd := [.int .u8]
def eU (n : Int) : List C := [.int .u8 n]
theorem rowU (r : List C) (h : r.map C.kd = dU) : ∃ x, r = eU x := by
  obtain ⟨c0, r0, rfl, e0, h0⟩ := kds_cons h
  obtain ⟨a, rfl⟩ := kd_int e0
  obtain rfl := kds_nil h0
  exact ⟨a, rfl⟩
theorem bits_and_255 (x : Int) : 0 ≤ bits .and .i64 x 255 ∧ bits .and .i64 x 255 ≤ 255 := by
  have h : (BitVec.ofInt 64 x &&& BitVec.ofInt 64 255).toNat ≤ 255 := by
    rw [BitVec.toNat_and]
    exact Nat.le_trans Nat.and_le_right (by decide)
  show 0 ≤ IntKind.i64.wrap ((BitVec.ofInt 64 x &&& BitVec.ofInt 64 255).toNat : Int) ∧ IntKind.i64.wrap ((BitVec.ofInt 64 x &&& BitVec.ofInt 64 255).toNat : Int) ≤ 255
  rw [wr ⟨by omega, by omega⟩]
  omega
abbrev TCur := Nat × Int
def nextH (h : Int) : Int := IntKind.i64.wrap (IntKind.i64.wrap (h * 6364136223846793005) + 1442695040888963407)
def rawH (h : Int) : Int := bits .and .i64 (bits .xor .i64 (h / 2 ^ (33 : Int).toNat) (h / 2 ^ (45 : Int).toNat)) 255
def curV (l : List Int) (c : TCur) : Int := if c.1 < l.length then bits .and .i64 (IntKind.i64.wrap (rawH (nextH c.2) + IntKind.i64.wrap (l.getD c.1 default))) 255 else rawH (nextH c.2)
def curN (l : List Int) (c : TCur) : TCur := (if c.1 < l.length then c.1 + 1 else c.1, nextH c.2)
theorem curN_le {l : List Int} {c : TCur} (h : c.1 ≤ l.length) : (curN l c).1 ≤ l.length := by unfold curN; simp only []; split <;> omega
theorem curV_bd (l : List Int) (c : TCur) : 0 ≤ curV l c ∧ curV l c ≤ 255 := by
  unfold curV
  split
  · exact bits_and_255 _
  · exact bits_and_255 _
def belV (l : List Int) (c : TCur) (n : Int) : Int := curV l c % n
theorem belV_bd (l : List Int) (c : TCur) {n : Int} (h : 1 ≤ n) : 0 ≤ belV l c n ∧ belV l c n < n := ⟨Int.emod_nonneg _ (by omega), Int.emod_lt_of_pos _ (by omega)⟩
def eCur (l : List Int) (c : TCur) : List C := [.sq dU (l.map eU), .int .i64 c.1, .int .i64 c.2]
def newK (l : List Int) : Nat → Int
  | 0 => IntKind.i64.wrap (33041 + l.length)
  | k + 1 => bits .and .i64 (IntKind.i64.wrap (IntKind.i64.wrap (IntKind.i64.wrap (newK l k * 131) + IntKind.i64.wrap (l.getD k default)) + 7)) 1073741823
def curZ (l : List Int) : TCur := (0, newK l (min l.length 4000))
theorem l01New_fn (l : List Int) (hl : l.length ≤ 1048576) : FnC Try.prog 96 [(false, [.sq dU (l.map eU)])] (.one (.bx (eCur l (curZ l)))) := by
  refine fn_z (ty := ty) (ts := [.tmp 2]) [0, 2, 3, 4, 15] mixed ty_ok Try.func96 (by kernel_rfl) rfl (by kernel_rfl) (by kernel_rfl) rfl (.inl rfl) (Nat.le_of_ble_eq_true rfl) (by simp only [entry, entryV, C.toS, Nat.zero_add, Nat.reduceAdd, List.map_cons, List.map_nil]; exact rfl) ?_
  repeat' (first
    | ((with_reducible refine z_run ?_); (conv => whnf))
    | (with_reducible apply z_t)
    | (with_reducible apply z_f)
    | ((with_reducible apply z_b); ((intro h); (try simp only [beq_self_eq_true, eq_self, not_true_eq_false, not_false_eq_true, decide_true, cond_true, cond_false, Bool.not_true, Bool.not_false, Bool.not_eq_true', Bool.not_eq_false', Bool.and_eq_true, Bool.and_eq_false_imp, Bool.or_eq_true, Bool.or_eq_false_iff, decide_eq_true_eq, decide_eq_false_iff_not, Bool.false_eq_true, reduceCtorEq, Int.not_le, Int.not_lt, Decidable.not_not] at h)); rotate_left; ((intro h); (try simp only [beq_self_eq_true, eq_self, not_true_eq_false, not_false_eq_true, decide_true, cond_true, cond_false, Bool.not_true, Bool.not_false, Bool.not_eq_true', Bool.not_eq_false', Bool.and_eq_true, Bool.and_eq_false_imp, Bool.or_eq_true, Bool.or_eq_false_iff, decide_eq_true_eq, decide_eq_false_iff_not, Bool.false_eq_true, reduceCtorEq, Int.not_le, Int.not_lt, Decidable.not_not] at h)))
    | (with_reducible refine z_r ?_ ?_)
    | (with_reducible refine z_wg ?_ ?_)
    | (with_reducible refine z_w ?_ ?_)
    | ((with_reducible apply sh_nil); (intro _))
    | ((with_reducible apply sh_int); (intro _))
    | ((with_reducible apply sh_bool); (intro _))
    | ((with_reducible apply sh_sl); (intro _))
    | ((with_reducible refine z_xf ?zc ?zx ?_); (case zc => decide +kernel); (case zx => decide +kernel))
    | ((with_reducible refine z_o ?zo ?_); (case zo => decide +kernel))
    | ((with_reducible refine z_x ?zx ?_); (case zx => decide +kernel))
    | fail)
  refine z_li (fun k => k ≤ l.length ∧ k ≤ 4000) (0 : Nat) (fun k => l.length - k) (fun k => ⟨[(0, .one (.ro dU (l.map eU))), (3, .one (.int .i64 (newK l k))), (4, .one (.int .i64 k))], []⟩) ⟨by omega, by omega⟩ ?_ ?_
  · simp only [List.length_map, fillTo_zero, Int.toNat_natCast, Option.isSome_some, and_self, fixB, Nat.reduceLeDiff, false_implies, true_implies, forall_const, St.le0, St.swaps, St.ren, mapV, renO, V.ren, Sc.ren, Ob.ren, swp, slsLe, obsLe, vLe, psLe, scLe, scsLe, obLe, Vq.look, Nat.reduceEqDiff, if_true, if_false, reduceCtorEq, ↓reduceIte, true_and, and_true, newK]; and_intros <;> first | rfl | omega
  · intro k ⟨hk, hk2⟩
    repeat' (first
    | ((with_reducible refine z_run ?_); (conv => whnf))
    | (with_reducible apply z_t)
    | (with_reducible apply z_f)
    | ((with_reducible apply z_b); ((intro h); (try simp only [beq_self_eq_true, eq_self, not_true_eq_false, not_false_eq_true, decide_true, cond_true, cond_false, Bool.not_true, Bool.not_false, Bool.not_eq_true', Bool.not_eq_false', Bool.and_eq_true, Bool.and_eq_false_imp, Bool.or_eq_true, Bool.or_eq_false_iff, decide_eq_true_eq, decide_eq_false_iff_not, Bool.false_eq_true, reduceCtorEq, Int.not_le, Int.not_lt, Decidable.not_not] at h)); rotate_left; ((intro h); (try simp only [beq_self_eq_true, eq_self, not_true_eq_false, not_false_eq_true, decide_true, cond_true, cond_false, Bool.not_true, Bool.not_false, Bool.not_eq_true', Bool.not_eq_false', Bool.and_eq_true, Bool.and_eq_false_imp, Bool.or_eq_true, Bool.or_eq_false_iff, decide_eq_true_eq, decide_eq_false_iff_not, Bool.false_eq_true, reduceCtorEq, Int.not_le, Int.not_lt, Decidable.not_not] at h)))
    | (with_reducible refine z_r ?_ ?_)
    | (with_reducible refine z_wg ?_ ?_)
    | (with_reducible refine z_w ?_ ?_)
    | ((with_reducible apply sh_nil); (intro _))
    | ((with_reducible apply sh_int); (intro _))
    | ((with_reducible apply sh_bool); (intro _))
    | ((with_reducible apply sh_sl); (intro _))
    | ((with_reducible refine z_xf ?zc ?zx ?_); (case zc => decide +kernel); (case zx => decide +kernel))
    | ((with_reducible refine z_o ?zo ?_); (case zo => decide +kernel))
    | ((with_reducible refine z_x ?zx ?_); (case zx => decide +kernel))
    | fail)
    all_goals ((try simp only [Int.toNat_natCast, tn1, tp1, List.length_map, eq_self, true_and, and_true] at *); (try simp (disch := omega) only [wr, Int.toNat_natCast, tn1, tp1, List.length_map, eq_self, true_and, and_true] at *))
    all_goals (first
      | omega
      | (refine z_n (k + 1) ⟨⟨by omega, by omega⟩, by omega⟩ ?_; simp only [List.length_map, fillTo_zero, Int.toNat_natCast, Option.isSome_some, and_self, fixB, Nat.reduceLeDiff, false_implies, true_implies, forall_const, St.le0, St.swaps, St.ren, mapV, renO, V.ren, Sc.ren, Ob.ren, swp, slsLe, obsLe, vLe, psLe, scLe, scsLe, obLe, Vq.look, Nat.reduceEqDiff, if_true, if_false, reduceCtorEq, ↓reduceIte, true_and, and_true] <;> (and_intros <;> first | rfl | omega | assumption))
      | (refine z_e rfl ?_; simp only [fin, finP, finM, ids, nodupB, tupP, tupM, memN, List.length_cons, List.length_nil, List.nil_append, List.append_nil, List.cons_append, Nat.zero_add, Nat.reduceAdd, ne_eq, not_false_eq_true, eq_self, ev, Vq.look, List.map_cons, List.map_nil, and_true, true_and, Nat.reduceEqDiff, if_true, if_false, reduceCtorEq, ↓reduceIte]; rw [show k = min l.length 4000 by omega]; rfl))
theorem l01Byte_fn (l : List Int) (hl : l.length ≤ 1048576) (c : TCur) : FnMC Try.prog 156 [(false, [.ptr 0])] [.box (eCur l c)] [.box (eCur l (curN l c))] (.one (.int .i64 (curV l c))) := by
  obtain ⟨i, s⟩ := c
  refine fn_zm (ty := ty) (ts := [.tmp 2]) [0, 2, 3, 34] mixed ty_ok Try.func156 (by kernel_rfl) rfl (by kernel_rfl) (by kernel_rfl) rfl (.inl rfl) (Nat.le_of_ble_eq_true rfl) (by simp only [likes, Mo.like, and_self]) rfl (by simp only [entryM, maV, Ma.sc, C.toS, Nat.zero_add, Nat.reduceAdd, List.map_cons, List.map_nil]; exact rfl) (by simp only [numb, Mo.ob, C.toS, List.map_cons, List.map_nil]; exact rfl) ?_
  repeat' (first
    | ((with_reducible refine z_run ?_); (conv => whnf))
    | (with_reducible apply z_t)
    | (with_reducible apply z_f)
    | ((with_reducible apply z_b); ((intro h); (try simp only [beq_self_eq_true, eq_self, not_true_eq_false, not_false_eq_true, decide_true, cond_true, cond_false, Bool.not_true, Bool.not_false, Bool.not_eq_true', Bool.not_eq_false', Bool.and_eq_true, Bool.and_eq_false_imp, Bool.or_eq_true, Bool.or_eq_false_iff, decide_eq_true_eq, decide_eq_false_iff_not, Bool.false_eq_true, reduceCtorEq, Int.not_le, Int.not_lt, Decidable.not_not] at h)); rotate_left; ((intro h); (try simp only [beq_self_eq_true, eq_self, not_true_eq_false, not_false_eq_true, decide_true, cond_true, cond_false, Bool.not_true, Bool.not_false, Bool.not_eq_true', Bool.not_eq_false', Bool.and_eq_true, Bool.and_eq_false_imp, Bool.or_eq_true, Bool.or_eq_false_iff, decide_eq_true_eq, decide_eq_false_iff_not, Bool.false_eq_true, reduceCtorEq, Int.not_le, Int.not_lt, Decidable.not_not] at h)))
    | (with_reducible refine z_r ?_ ?_)
    | (with_reducible refine z_wg ?_ ?_)
    | (with_reducible refine z_w ?_ ?_)
    | ((with_reducible apply sh_nil); (intro _))
    | ((with_reducible apply sh_int); (intro _))
    | ((with_reducible apply sh_bool); (intro _))
    | ((with_reducible apply sh_sl); (intro _))
    | ((with_reducible refine z_xf ?zc ?zx ?_); (case zc => decide +kernel); (case zx => decide +kernel))
    | ((with_reducible refine z_o ?zo ?_); (case zo => decide +kernel))
    | ((with_reducible refine z_x ?zx ?_); (case zx => decide +kernel))
    | fail)
  all_goals ((try simp only [Int.toNat_natCast, tn1, tp1, List.length_map, eq_self, true_and, and_true] at *); (try simp (disch := omega) only [wr, Int.toNat_natCast, tn1, tp1, List.length_map, eq_self, true_and, and_true] at *))
  all_goals (first
    | omega
    | decide
    | skip)
  · refine z_em rfl rfl ?_ ?_ <;> simp only [fin, finP, finM, finO, Mo.ob, ids, nodupB, tupP, tupM, memN, ev, Vq.look, List.map_cons, List.map_nil, and_true, true_and, Nat.reduceEqDiff, if_true, if_false, reduceCtorEq, ↓reduceIte]
    · unfold curV; rw [if_neg (by omega)]; rfl
    · unfold curN; rw [if_neg (by omega)]; rfl
  · refine z_em rfl rfl ?_ ?_ <;> simp only [fin, finP, finM, finO, Mo.ob, ids, nodupB, tupP, tupM, memN, ev, Vq.look, List.map_cons, List.map_nil, and_true, true_and, Nat.reduceEqDiff, if_true, if_false, reduceCtorEq, ↓reduceIte]
    · unfold curV; rw [if_pos (by omega)]; rfl
    · unfold curN; rw [if_pos (by omega)]; rfl
theorem l01Below_fn (l : List Int) (hl : l.length ≤ 1048576) (c : TCur) {n : Int} (hn : 1 ≤ n ∧ n ≤ 256) : FnMC Try.prog 134 [(false, [.ptr 0]), (false, [.val (.int .i64 n)])] [.box (eCur l c)] [.box (eCur l (curN l c))] (.one (.int .i64 (belV l c n))) := by
  have hb := curV_bd l c
  refine fn_zm (ty := ty) (ts := [.tmp 4]) [0, 1, 4, 5, 6, 7, 8, 10, 12] mixed ty_ok Try.func134 (by kernel_rfl) rfl (by kernel_rfl) (by kernel_rfl) rfl (.inl rfl) (Nat.le_of_ble_eq_true rfl) (by simp only [likes, Mo.like, and_self]) rfl (by simp only [entryM, maV, Ma.sc, C.toS, Nat.zero_add, Nat.reduceAdd, List.map_cons, List.map_nil]; exact rfl) (by simp only [numb, Mo.ob, C.toS, List.map_cons, List.map_nil]; exact rfl) ?_
  repeat' (first
    | ((with_reducible refine z_run ?_); (conv => whnf))
    | (with_reducible apply z_t)
    | (with_reducible apply z_f)
    | ((with_reducible apply z_b); ((intro h); (try simp only [beq_self_eq_true, eq_self, not_true_eq_false, not_false_eq_true, decide_true, cond_true, cond_false, Bool.not_true, Bool.not_false, Bool.not_eq_true', Bool.not_eq_false', Bool.and_eq_true, Bool.and_eq_false_imp, Bool.or_eq_true, Bool.or_eq_false_iff, decide_eq_true_eq, decide_eq_false_iff_not, Bool.false_eq_true, reduceCtorEq, Int.not_le, Int.not_lt, Decidable.not_not] at h)); rotate_left; ((intro h); (try simp only [beq_self_eq_true, eq_self, not_true_eq_false, not_false_eq_true, decide_true, cond_true, cond_false, Bool.not_true, Bool.not_false, Bool.not_eq_true', Bool.not_eq_false', Bool.and_eq_true, Bool.and_eq_false_imp, Bool.or_eq_true, Bool.or_eq_false_iff, decide_eq_true_eq, decide_eq_false_iff_not, Bool.false_eq_true, reduceCtorEq, Int.not_le, Int.not_lt, Decidable.not_not] at h)))
    | (with_reducible refine z_r ?_ ?_)
    | (with_reducible refine z_wg ?_ ?_)
    | (with_reducible refine z_w ?_ ?_)
    | ((with_reducible apply sh_nil); (intro _))
    | ((with_reducible apply sh_int); (intro _))
    | ((with_reducible apply sh_bool); (intro _))
    | ((with_reducible apply sh_sl); (intro _))
    | ((with_reducible refine z_xf ?zc ?zx ?_); (case zc => decide +kernel); (case zx => decide +kernel))
    | (refine z_mm [_] (l01Byte_fn l hl c) rfl rfl ⟨rfl, trivial⟩ rfl ?_)
    | ((with_reducible refine z_o ?zo ?_); (case zo => decide +kernel))
    | ((with_reducible refine z_x ?zx ?_); (case zx => decide +kernel))
    | fail)
  all_goals ((try simp only [Int.toNat_natCast, tn1, tp1, List.length_map, eq_self, true_and, and_true] at *); (try simp (disch := omega) only [wr, Int.toNat_natCast, tn1, tp1, List.length_map, eq_self, true_and, and_true] at *))
  all_goals (first | omega | skip)
  · refine z_em rfl rfl ?_ ?_ <;> simp only [fin, finP, finM, finO, Mo.ob, ids, nodupB, tupP, tupM, memN, ev, Vq.look, List.map_cons, List.map_nil, and_true, true_and, Nat.reduceEqDiff, if_true, if_false, reduceCtorEq, ↓reduceIte]
    · exact Int.tmod_eq_emod_of_nonneg hb.1
    · rfl
def atV (l : List Int) (i : Int) : Int := if l.length = 0 then 0 else l.getD ((i * 5 + 1) % l.length).toNat default
def bytes (l : List Int) : Prop := ∀ x ∈ l, 0 ≤ x ∧ x ≤ 255
theorem bytes_of {l : List Int} (h : Ok (.sq dU (l.map eU))) : bytes l := fun x hx => (h.rows.2 (eU x) (List.mem_map.2 ⟨x, hx, rfl⟩) (.int .u8 x) (by simp [eU])).u8
theorem atV_bd {l : List Int} (hb : bytes l) (i : Int) : 0 ≤ atV l i ∧ atV l i ≤ 255 := by
  unfold atV
  split
  · omega
  · rename_i h
    have h1 := Int.emod_nonneg (i * 5 + 1) (b := l.length) (by omega)
    have h2 := Int.emod_lt_of_pos (i * 5 + 1) (b := l.length) (by omega)
    exact hb _ (getD_mem (by omega))
theorem at_fn (l : List Int) (hl : l.length ≤ 1048576) (hb : bytes l) (i : Int) (hi : 0 ≤ i ∧ i ≤ 1000) : FnC Try.prog 47 [(false, [.sq dU (l.map eU)]), (false, [.int .i64 i])] (.one (.int .i64 (atV l i))) := by
  refine fn_z (ty := ty) (ts := [.tmp 4]) [0, 1, 4, 7] mixed ty_ok Try.func47 (by kernel_rfl) rfl (by kernel_rfl) (by kernel_rfl) rfl (.inl rfl) (Nat.le_of_ble_eq_true rfl) (by simp only [entry, entryV, C.toS, Nat.zero_add, Nat.reduceAdd, List.map_cons, List.map_nil]; exact rfl) ?_
  repeat' (first
    | ((with_reducible refine z_run ?_); (conv => whnf))
    | (with_reducible apply z_t)
    | (with_reducible apply z_f)
    | ((with_reducible apply z_b); ((intro h); (try simp only [beq_self_eq_true, eq_self, not_true_eq_false, not_false_eq_true, decide_true, cond_true, cond_false, Bool.not_true, Bool.not_false, Bool.not_eq_true', Bool.not_eq_false', Bool.and_eq_true, Bool.and_eq_false_imp, Bool.or_eq_true, Bool.or_eq_false_iff, decide_eq_true_eq, decide_eq_false_iff_not, Bool.false_eq_true, reduceCtorEq, Int.not_le, Int.not_lt, Decidable.not_not] at h)); rotate_left; ((intro h); (try simp only [beq_self_eq_true, eq_self, not_true_eq_false, not_false_eq_true, decide_true, cond_true, cond_false, Bool.not_true, Bool.not_false, Bool.not_eq_true', Bool.not_eq_false', Bool.and_eq_true, Bool.and_eq_false_imp, Bool.or_eq_true, Bool.or_eq_false_iff, decide_eq_true_eq, decide_eq_false_iff_not, Bool.false_eq_true, reduceCtorEq, Int.not_le, Int.not_lt, Decidable.not_not] at h)))
    | (with_reducible refine z_r ?_ ?_)
    | (with_reducible refine z_wg ?_ ?_)
    | (with_reducible refine z_w ?_ ?_)
    | ((with_reducible apply sh_nil); (intro _))
    | ((with_reducible apply sh_int); (intro _))
    | ((with_reducible apply sh_bool); (intro _))
    | ((with_reducible apply sh_sl); (intro _))
    | ((with_reducible refine z_xf ?zc ?zx ?_); (case zc => decide +kernel); (case zx => decide +kernel))
    | ((with_reducible refine z_o ?zo ?_); (case zo => decide +kernel))
    | ((with_reducible refine z_x ?zx ?_); (case zx => decide +kernel))
    | fail)
  all_goals ((try simp only [Int.toNat_natCast, tn1, tp1, List.length_map, eq_self, true_and, and_true] at *); (try simp (disch := omega) only [wr, Int.toNat_natCast, tn1, tp1, List.length_map, eq_self, true_and, and_true] at *))
  all_goals (try rw [wr (x := i * 5) ⟨by omega, by omega⟩] at *)
  all_goals (try rw [wr (x := i * 5 + 1) ⟨by omega, by omega⟩] at *)
  all_goals (try rw [Int.tmod_eq_emod_of_nonneg (by omega)] at *)
  all_goals (try (have h1 := Int.emod_nonneg (i * 5 + 1) (b := l.length) (by omega); have h2 := Int.emod_lt_of_pos (i * 5 + 1) (b := l.length) (by omega)))
  all_goals (first
    | omega
    | (refine z_e rfl ?_; simp only [fin, finP, finM, ids, nodupB, tupP, tupM, memN, List.length_cons, List.length_nil, List.nil_append, List.append_nil, List.cons_append, Nat.zero_add, Nat.reduceAdd, ne_eq, not_false_eq_true, eq_self, ev, Vq.look, List.map_cons, List.map_nil, and_true, true_and, Nat.reduceEqDiff, if_true, if_false, reduceCtorEq, ↓reduceIte]
       have := hb _ (getD_mem (l := l) (k := ((i * 5 + 1) % l.length).toNat) (by omega))
       rw [wr ⟨by omega, by omega⟩, atV, if_neg (by omega)])
    | (refine z_e rfl ?_; simp only [fin, finP, finM, ids, nodupB, tupP, tupM, memN, List.length_cons, List.length_nil, List.nil_append, List.append_nil, List.cons_append, Nat.zero_add, Nat.reduceAdd, ne_eq, not_false_eq_true, eq_self, ev, Vq.look, List.map_cons, List.map_nil, and_true, true_and, Nat.reduceEqDiff, if_true, if_false, reduceCtorEq, ↓reduceIte]; rw [atV, if_pos (by omega)]))
theorem big_fn (l : List Int) (hl : l.length ≤ 1048576) : FnC Try.prog 42 [(false, [.sq dU (l.map eU)])] (.one (.bool false)) := by
  refine fn_z (ty := ty) (ts := [.tmp 2]) [0, 2] mixed ty_ok Try.func42 (by kernel_rfl) rfl (by kernel_rfl) (by kernel_rfl) rfl (.inl rfl) (Nat.le_of_ble_eq_true rfl) (by simp only [entry, entryV, C.toS, Nat.zero_add, Nat.reduceAdd, List.map_cons, List.map_nil]; exact rfl) ?_
  repeat' (first
    | ((with_reducible refine z_run ?_); (conv => whnf))
    | (with_reducible apply z_t)
    | (with_reducible apply z_f)
    | ((with_reducible apply z_b); ((intro h); (try simp only [beq_self_eq_true, eq_self, not_true_eq_false, not_false_eq_true, decide_true, cond_true, cond_false, Bool.not_true, Bool.not_false, Bool.not_eq_true', Bool.not_eq_false', Bool.and_eq_true, Bool.and_eq_false_imp, Bool.or_eq_true, Bool.or_eq_false_iff, decide_eq_true_eq, decide_eq_false_iff_not, Bool.false_eq_true, reduceCtorEq, Int.not_le, Int.not_lt, Decidable.not_not] at h)); rotate_left; ((intro h); (try simp only [beq_self_eq_true, eq_self, not_true_eq_false, not_false_eq_true, decide_true, cond_true, cond_false, Bool.not_true, Bool.not_false, Bool.not_eq_true', Bool.not_eq_false', Bool.and_eq_true, Bool.and_eq_false_imp, Bool.or_eq_true, Bool.or_eq_false_iff, decide_eq_true_eq, decide_eq_false_iff_not, Bool.false_eq_true, reduceCtorEq, Int.not_le, Int.not_lt, Decidable.not_not] at h)))
    | (with_reducible refine z_r ?_ ?_)
    | (with_reducible refine z_wg ?_ ?_)
    | (with_reducible refine z_w ?_ ?_)
    | ((with_reducible apply sh_nil); (intro _))
    | ((with_reducible apply sh_int); (intro _))
    | ((with_reducible apply sh_bool); (intro _))
    | ((with_reducible apply sh_sl); (intro _))
    | ((with_reducible refine z_xf ?zc ?zx ?_); (case zc => decide +kernel); (case zx => decide +kernel))
    | ((with_reducible refine z_o ?zo ?_); (case zo => decide +kernel))
    | ((with_reducible refine z_x ?zx ?_); (case zx => decide +kernel))
    | fail)
  all_goals ((try simp only [Int.toNat_natCast, tn1, tp1, List.length_map, eq_self, true_and, and_true] at *); (try simp (disch := omega) only [wr, Int.toNat_natCast, tn1, tp1, List.length_map, eq_self, true_and, and_true] at *))
  refine z_e rfl ?_; simp only [fin, finP, finM, ids, nodupB, tupP, tupM, memN, List.length_cons, List.length_nil, List.nil_append, List.append_nil, List.cons_append, Nat.zero_add, Nat.reduceAdd, ne_eq, not_false_eq_true, eq_self, ev, Vq.look, List.map_cons, List.map_nil, and_true, true_and, Nat.reduceEqDiff, if_true, if_false, reduceCtorEq, ↓reduceIte]
  simp; omega
theorem big_no (l : List Int) (hl : ¬ l.length ≤ 1048576) : FnC Try.prog 42 [(false, [.sq dU (l.map eU)])] (.one (.bool true)) := by
  refine fn_z (ty := ty) (ts := [.tmp 2]) [0, 2] mixed ty_ok Try.func42 (by kernel_rfl) rfl (by kernel_rfl) (by kernel_rfl) rfl (.inl rfl) (Nat.le_of_ble_eq_true rfl) (by simp only [entry, entryV, C.toS, Nat.zero_add, Nat.reduceAdd, List.map_cons, List.map_nil]; exact rfl) ?_
  repeat' (first
    | ((with_reducible refine z_run ?_); (conv => whnf))
    | (with_reducible apply z_t)
    | (with_reducible apply z_f)
    | ((with_reducible apply z_b); ((intro h); (try simp only [beq_self_eq_true, eq_self, not_true_eq_false, not_false_eq_true, decide_true, cond_true, cond_false, Bool.not_true, Bool.not_false, Bool.not_eq_true', Bool.not_eq_false', Bool.and_eq_true, Bool.and_eq_false_imp, Bool.or_eq_true, Bool.or_eq_false_iff, decide_eq_true_eq, decide_eq_false_iff_not, Bool.false_eq_true, reduceCtorEq, Int.not_le, Int.not_lt, Decidable.not_not] at h)); rotate_left; ((intro h); (try simp only [beq_self_eq_true, eq_self, not_true_eq_false, not_false_eq_true, decide_true, cond_true, cond_false, Bool.not_true, Bool.not_false, Bool.not_eq_true', Bool.not_eq_false', Bool.and_eq_true, Bool.and_eq_false_imp, Bool.or_eq_true, Bool.or_eq_false_iff, decide_eq_true_eq, decide_eq_false_iff_not, Bool.false_eq_true, reduceCtorEq, Int.not_le, Int.not_lt, Decidable.not_not] at h)))
    | (with_reducible refine z_r ?_ ?_)
    | (with_reducible refine z_wg ?_ ?_)
    | (with_reducible refine z_w ?_ ?_)
    | ((with_reducible apply sh_nil); (intro _))
    | ((with_reducible apply sh_int); (intro _))
    | ((with_reducible apply sh_bool); (intro _))
    | ((with_reducible apply sh_sl); (intro _))
    | ((with_reducible refine z_xf ?zc ?zx ?_); (case zc => decide +kernel); (case zx => decide +kernel))
    | ((with_reducible refine z_o ?zo ?_); (case zo => decide +kernel))
    | ((with_reducible refine z_x ?zx ?_); (case zx => decide +kernel))
    | fail)
  all_goals ((try simp only [Int.toNat_natCast, tn1, tp1, List.length_map, eq_self, true_and, and_true] at *); (try simp (disch := omega) only [wr, Int.toNat_natCast, tn1, tp1, List.length_map, eq_self, true_and, and_true] at *))
  refine z_e rfl ?_; simp only [fin, finP, finM, ids, nodupB, tupP, tupM, memN, List.length_cons, List.length_nil, List.nil_append, List.append_nil, List.cons_append, Nat.zero_add, Nat.reduceAdd, ne_eq, not_false_eq_true, eq_self, ev, Vq.look, List.map_cons, List.map_nil, and_true, true_and, Nat.reduceEqDiff, if_true, if_false, reduceCtorEq, ↓reduceIte]
  simp; omega
def wholeC (a : Int) : TCell := if 0 ≤ a ∧ a ≤ 5 then (0, a, a) else (0, 0, 0)
def splitC (s a b : Int) : TCell := if a = b then wholeC a else if cellOk (s, a, b) then (s, a, b) else (0, 0, 0)
theorem wholeC_ok (a : Int) : cellOk (wholeC a) := by
  unfold wholeC
  split
  · rename_i h; exact ⟨by dsimp only; omega, h, h, by dsimp only; omega⟩
  · decide
theorem splitC_ok (s a b : Int) : cellOk (splitC s a b) := by
  unfold splitC
  split
  · exact wholeC_ok a
  · split
    · assumption
    · decide
theorem specWholeCell (a : Int) : FnC Try.prog 164 [(false, [.int .i64 a])] (.agg (rC (wholeC a))) := by
  refine fn_z (ty := ty) (ts := [.cell 2 76 3]) [0, 2, 5, 2] mixed ty_ok Try.func164 (by kernel_rfl) rfl (by kernel_rfl) (by kernel_rfl) rfl (.inl rfl) (Nat.le_of_ble_eq_true rfl) (by simp only [entry, entryV, C.toS, Nat.zero_add, Nat.reduceAdd, List.map_cons, List.map_nil]; exact rfl) ?_
  repeat' (first
    | ((with_reducible refine z_run ?_); (conv => whnf))
    | (with_reducible apply z_t)
    | (with_reducible apply z_f)
    | ((with_reducible apply z_b); ((intro h); (try simp only [beq_self_eq_true, eq_self, not_true_eq_false, not_false_eq_true, decide_true, cond_true, cond_false, Bool.not_true, Bool.not_false, Bool.not_eq_true', Bool.not_eq_false', Bool.and_eq_true, Bool.and_eq_false_imp, Bool.or_eq_true, Bool.or_eq_false_iff, decide_eq_true_eq, decide_eq_false_iff_not, Bool.false_eq_true, reduceCtorEq, Int.not_le, Int.not_lt, Decidable.not_not] at h)); rotate_left; ((intro h); (try simp only [beq_self_eq_true, eq_self, not_true_eq_false, not_false_eq_true, decide_true, cond_true, cond_false, Bool.not_true, Bool.not_false, Bool.not_eq_true', Bool.not_eq_false', Bool.and_eq_true, Bool.and_eq_false_imp, Bool.or_eq_true, Bool.or_eq_false_iff, decide_eq_true_eq, decide_eq_false_iff_not, Bool.false_eq_true, reduceCtorEq, Int.not_le, Int.not_lt, Decidable.not_not] at h)))
    | (with_reducible refine z_r ?_ ?_)
    | (with_reducible refine z_wg ?_ ?_)
    | (with_reducible refine z_w ?_ ?_)
    | ((with_reducible apply sh_nil); (intro _))
    | ((with_reducible apply sh_int); (intro _))
    | ((with_reducible apply sh_bool); (intro _))
    | ((with_reducible apply sh_sl); (intro _))
    | ((with_reducible refine z_xf ?zc ?zx ?_); (case zc => decide +kernel); (case zx => decide +kernel))
    | (with_reducible refine z_k (in_fn _ _ _) ?_)
    | ((with_reducible refine z_o ?zo ?_); (case zo => decide +kernel))
    | ((with_reducible refine z_x ?zx ?_); (case zx => decide +kernel))
    | fail)
  all_goals ((try simp only [Int.toNat_natCast, tn1, tp1, List.length_map, eq_self, true_and, and_true] at *); (try simp (disch := omega) only [wr, Int.toNat_natCast, tn1, tp1, List.length_map, eq_self, true_and, and_true] at *))
  all_goals (refine z_e rfl ?_; simp only [fin, finP, finM, ids, nodupB, tupP, tupM, memN, List.length_cons, List.length_nil, List.nil_append, List.append_nil, List.cons_append, Nat.zero_add, Nat.reduceAdd, ne_eq, not_false_eq_true, eq_self, ev, Vq.look, List.map_cons, List.map_nil, and_true, true_and, Nat.reduceEqDiff, if_true, if_false, reduceCtorEq, ↓reduceIte]; unfold wholeC; first | (rw [if_pos (by assumption)]; exact ⟨rfl, rfl, rfl⟩) | (rw [if_neg (by assumption)]; exact ⟨rfl, rfl, rfl⟩))
theorem specSplitCell (s a b : Int) : FnC Try.prog 157 [(false, [.int .i64 s]), (false, [.int .i64 a]), (false, [.int .i64 b])] (.agg (rC (splitC s a b))) := by
  refine fn_z (ty := ty) (ts := [.cell 6 76 3]) [0, 1, 2, 6, 7, 10, 19, 6] mixed ty_ok Try.func157 (by kernel_rfl) rfl (by kernel_rfl) (by kernel_rfl) rfl (.inl rfl) (Nat.le_of_ble_eq_true rfl) (by simp only [entry, entryV, C.toS, Nat.zero_add, Nat.reduceAdd, List.map_cons, List.map_nil]; exact rfl) ?_
  repeat' (first
    | ((with_reducible refine z_run ?_); (conv => whnf))
    | (with_reducible apply z_t)
    | (with_reducible apply z_f)
    | ((with_reducible apply z_b); ((intro h); (try simp only [beq_self_eq_true, eq_self, not_true_eq_false, not_false_eq_true, decide_true, cond_true, cond_false, Bool.not_true, Bool.not_false, Bool.not_eq_true', Bool.not_eq_false', Bool.and_eq_true, Bool.and_eq_false_imp, Bool.or_eq_true, Bool.or_eq_false_iff, decide_eq_true_eq, decide_eq_false_iff_not, Bool.false_eq_true, reduceCtorEq, Int.not_le, Int.not_lt, Decidable.not_not] at h)); rotate_left; ((intro h); (try simp only [beq_self_eq_true, eq_self, not_true_eq_false, not_false_eq_true, decide_true, cond_true, cond_false, Bool.not_true, Bool.not_false, Bool.not_eq_true', Bool.not_eq_false', Bool.and_eq_true, Bool.and_eq_false_imp, Bool.or_eq_true, Bool.or_eq_false_iff, decide_eq_true_eq, decide_eq_false_iff_not, Bool.false_eq_true, reduceCtorEq, Int.not_le, Int.not_lt, Decidable.not_not] at h)))
    | (with_reducible refine z_r ?_ ?_)
    | (with_reducible refine z_wg ?_ ?_)
    | (with_reducible refine z_w ?_ ?_)
    | ((with_reducible apply sh_nil); (intro _))
    | ((with_reducible apply sh_int); (intro _))
    | ((with_reducible apply sh_bool); (intro _))
    | ((with_reducible apply sh_sl); (intro _))
    | ((with_reducible refine z_xf ?zc ?zx ?_); (case zc => decide +kernel); (case zx => decide +kernel))
    | (with_reducible refine z_k (specCellOk _ _ _) ?_)
    | (with_reducible refine z_k (specWholeCell _) ?_)
    | ((with_reducible refine z_o ?zo ?_); (case zo => decide +kernel))
    | ((with_reducible refine z_x ?zx ?_); (case zx => decide +kernel))
    | fail)
  all_goals ((try simp only [Int.toNat_natCast, tn1, tp1, List.length_map, eq_self, true_and, and_true] at *); (try simp (disch := omega) only [wr, Int.toNat_natCast, tn1, tp1, List.length_map, eq_self, true_and, and_true] at *))
  all_goals (refine z_e rfl ?_; simp only [fin, finP, finM, ids, nodupB, tupP, tupM, memN, List.length_cons, List.length_nil, List.nil_append, List.append_nil, List.cons_append, Nat.zero_add, Nat.reduceAdd, ne_eq, not_false_eq_true, eq_self, ev, Vq.look, List.map_cons, List.map_nil, and_true, true_and, Nat.reduceEqDiff, if_true, if_false, reduceCtorEq, ↓reduceIte]; unfold splitC; first | (rw [if_pos (by assumption)]; exact ⟨rfl, rfl, rfl⟩) | (rw [if_neg (by assumption), if_pos (by assumption)]; exact ⟨rfl, rfl, rfl⟩) | (rw [if_neg (by assumption), if_neg (by assumption)]; exact ⟨rfl, rfl, rfl⟩) | (trace_state; fail))
def cur3 (l : List Int) (c : TCur) : TCur := curN l (curN l (curN l c))
def cellD (l : List Int) (c : TCur) : TCell := splitC (belV l c 3) (belV l (curN l c) 3) (belV l (curN l (curN l c)) 3)
theorem cellD_ok (l : List Int) (c : TCur) : cellOk (cellD l c) := splitC_ok _ _ _
theorem l02Cell_fn (l : List Int) (hl : l.length ≤ 1048576) (c : TCur) : FnMC Try.prog 135 [(false, [.ptr 0])] [.box (eCur l c)] [.box (eCur l (cur3 l c))] (.agg (rC (cellD l c))) := by
  refine fn_zm (ty := ty) (ts := [.cell 2 76 3]) [0, 2, 2] mixed ty_ok Try.func135 (by kernel_rfl) rfl (by kernel_rfl) (by kernel_rfl) rfl (.inl rfl) (Nat.le_of_ble_eq_true rfl) (by simp only [likes, Mo.like, and_self]) rfl (by simp only [entryM, maV, Ma.sc, C.toS, Nat.zero_add, Nat.reduceAdd, List.map_cons, List.map_nil]; exact rfl) (by simp only [numb, Mo.ob, C.toS, List.map_cons, List.map_nil]; exact rfl) ?_
  repeat' (first
    | ((with_reducible refine z_run ?_); (conv => whnf))
    | (with_reducible apply z_t)
    | (with_reducible apply z_f)
    | ((with_reducible apply z_b); ((intro h); (try simp only [beq_self_eq_true, eq_self, not_true_eq_false, not_false_eq_true, decide_true, cond_true, cond_false, Bool.not_true, Bool.not_false, Bool.not_eq_true', Bool.not_eq_false', Bool.and_eq_true, Bool.and_eq_false_imp, Bool.or_eq_true, Bool.or_eq_false_iff, decide_eq_true_eq, decide_eq_false_iff_not, Bool.false_eq_true, reduceCtorEq, Int.not_le, Int.not_lt, Decidable.not_not] at h)); rotate_left; ((intro h); (try simp only [beq_self_eq_true, eq_self, not_true_eq_false, not_false_eq_true, decide_true, cond_true, cond_false, Bool.not_true, Bool.not_false, Bool.not_eq_true', Bool.not_eq_false', Bool.and_eq_true, Bool.and_eq_false_imp, Bool.or_eq_true, Bool.or_eq_false_iff, decide_eq_true_eq, decide_eq_false_iff_not, Bool.false_eq_true, reduceCtorEq, Int.not_le, Int.not_lt, Decidable.not_not] at h)))
    | (with_reducible refine z_r ?_ ?_)
    | (with_reducible refine z_wg ?_ ?_)
    | (with_reducible refine z_w ?_ ?_)
    | ((with_reducible apply sh_nil); (intro _))
    | ((with_reducible apply sh_int); (intro _))
    | ((with_reducible apply sh_bool); (intro _))
    | ((with_reducible apply sh_sl); (intro _))
    | ((with_reducible refine z_xf ?zc ?zx ?_); (case zc => decide +kernel); (case zx => decide +kernel))
    | (refine z_mm [_] (l01Below_fn l hl _ (by omega)) rfl rfl ⟨rfl, trivial⟩ rfl ?_)
    | (with_reducible refine z_k (specSplitCell _ _ _) ?_)
    | ((with_reducible refine z_o ?zo ?_); (case zo => decide +kernel))
    | ((with_reducible refine z_x ?zx ?_); (case zx => decide +kernel))
    | fail)
  all_goals ((try simp only [Int.toNat_natCast, tn1, tp1, List.length_map, eq_self, true_and, and_true] at *); (try simp (disch := omega) only [wr, Int.toNat_natCast, tn1, tp1, List.length_map, eq_self, true_and, and_true] at *))
  all_goals (first
    | omega
    | (unfold cellD cur3; (refine z_em rfl rfl ?_ ?_ <;> simp only [fin, finP, finM, finO, Mo.ob, ids, nodupB, tupP, tupM, memN, ev, Vq.look, List.map_cons, List.map_nil, and_true, true_and, Nat.reduceEqDiff, if_true, if_false, reduceCtorEq, ↓reduceIte] <;> first | done | rfl | (and_intros <;> rfl)))
    | (trace_state; fail))
def drC (l : List Int) (c : TCur) : Nat → TCur × List TCell
  | 0 => (c, [])
  | k + 1 => (cur3 l (drC l c k).1, (drC l c k).2 ++ [cellD l (drC l c k).1])
theorem drC_len (l : List Int) (c : TCur) : ∀ k, (drC l c k).2.length = k
  | 0 => rfl
  | k + 1 => by simp [drC, drC_len l c k]
theorem drC_ok (l : List Int) (c : TCur) : ∀ k, ∀ t ∈ (drC l c k).2, cellOk t
  | 0 => by simp [drC]
  | k + 1 => by
    intro t ht
    simp only [drC, List.mem_append, List.mem_singleton] at ht
    rcases ht with ht | rfl
    · exact drC_ok l c k t ht
    · exact cellD_ok l _
/-- drawn blocks of one size -/
def drB (l : List Int) (c : TCur) (z : Nat) : Nat → TCur × List TBlk
  | 0 => (c, [])
  | k + 1 => ((drC l (drB l c z k).1 (z * z)).1, (drB l c z k).2 ++ [((z : Int), (drC l (drB l c z k).1 (z * z)).2)])
theorem drB_len (l : List Int) (c : TCur) (z : Nat) : ∀ k, (drB l c z k).2.length = k
  | 0 => rfl
  | k + 1 => by simp [drB, drB_len l c z k]
theorem drB_ok (l : List Int) (c : TCur) {z : Nat} (hz : 1 ≤ z ∧ z ≤ 4) : ∀ k, ∀ b ∈ (drB l c z k).2, blkOk b.1 b.2 ∧ b.1 = z
  | 0 => by simp [drB]
  | k + 1 => by
    intro b hb
    simp only [drB, List.mem_append, List.mem_singleton] at hb
    rcases hb with hb | rfl
    · exact drB_ok l c hz k b hb
    · exact ⟨⟨by dsimp only; omega, by dsimp only; rw [drC_len]; simp, drC_ok l _ _⟩, rfl⟩
theorem l17Blocks_fn (l : List Int) (hl : l.length ≤ 1048576) (c : TCur) (n z : Nat) (hn : belV l c 3 + 1 = n) (hz : belV l (curN l c) 3 + 1 = z) : FnMC Try.prog 97 [(false, [.ptr 0])] [.box (eCur l c)] [.box (eCur l (drB l (curN l (curN l c)) z n).1)] (.one (.own 63 dBlk ((drB l (curN l (curN l c)) z n).2.map eBlk))) := by
  have hb := belV_bd l c (n := 3) (by omega)
  have hb2 := belV_bd l (curN l c) (n := 3) (by omega)
  have e1 : IntKind.i64.wrap (1 + belV l c 3) = n := by rw [wr ⟨by omega, by omega⟩]; omega
  have e2 : IntKind.i64.wrap (1 + belV l (curN l c) 3) = z := by rw [wr ⟨by omega, by omega⟩]; omega
  refine fn_zm (ty := ty) (ts := [.tmp 2]) [0, 2, 3, 4, 5, 6, 7, 8, 9, 19, 28] mixed ty_ok Try.func97 (by kernel_rfl) rfl (by kernel_rfl) (by kernel_rfl) rfl (.inl rfl) (Nat.le_of_ble_eq_true rfl) (by simp only [likes, Mo.like, and_self]) rfl (by simp only [entryM, maV, Ma.sc, C.toS, Nat.zero_add, Nat.reduceAdd, List.map_cons, List.map_nil]; exact rfl) (by simp only [numb, Mo.ob, C.toS, List.map_cons, List.map_nil]; exact rfl) ?_
  repeat' (first
    | ((with_reducible refine z_run ?_); (conv => whnf))
    | (with_reducible apply z_t)
    | (with_reducible apply z_f)
    | ((with_reducible apply z_b); ((intro h); (try simp only [beq_self_eq_true, eq_self, not_true_eq_false, not_false_eq_true, decide_true, cond_true, cond_false, Bool.not_true, Bool.not_false, Bool.not_eq_true', Bool.not_eq_false', Bool.and_eq_true, Bool.and_eq_false_imp, Bool.or_eq_true, Bool.or_eq_false_iff, decide_eq_true_eq, decide_eq_false_iff_not, Bool.false_eq_true, reduceCtorEq, Int.not_le, Int.not_lt, Decidable.not_not] at h)); rotate_left; ((intro h); (try simp only [beq_self_eq_true, eq_self, not_true_eq_false, not_false_eq_true, decide_true, cond_true, cond_false, Bool.not_true, Bool.not_false, Bool.not_eq_true', Bool.not_eq_false', Bool.and_eq_true, Bool.and_eq_false_imp, Bool.or_eq_true, Bool.or_eq_false_iff, decide_eq_true_eq, decide_eq_false_iff_not, Bool.false_eq_true, reduceCtorEq, Int.not_le, Int.not_lt, Decidable.not_not] at h)))
    | (with_reducible refine z_r ?_ ?_)
    | (with_reducible refine z_wg ?_ ?_)
    | (with_reducible refine z_w ?_ ?_)
    | ((with_reducible apply sh_nil); (intro _))
    | ((with_reducible apply sh_int); (intro _))
    | ((with_reducible apply sh_bool); (intro _))
    | ((with_reducible apply sh_sl); (intro _))
    | ((with_reducible refine z_xf ?zc ?zx ?_); (case zc => decide +kernel); (case zx => decide +kernel))
    | (refine z_mm [_] (l01Below_fn l hl _ (by omega)) rfl rfl ⟨rfl, trivial⟩ rfl ?_)
    | ((with_reducible refine z_o ?zo ?_); (case zo => decide +kernel))
    | ((with_reducible refine z_x ?zx ?_); (case zx => decide +kernel))
    | fail)
  simp only [e1, e2]
  refine z_li (fun k : Nat => k ≤ n) (0 : Nat) (fun k => n - k) (fun k => ⟨[(0, .one (.bx 500000 0)), (3, .one (.root 10)), (4, .one (.int .i64 n)), (5, .one (.int .i64 z)), (6, .one (.int .i64 k))], [(10, .row 63 dBlk ((drB l (curN l (curN l c)) z k).2.map eBlk)), (500000, .box ((eCur l (drB l (curN l (curN l c)) z k).1).map C.toS))]⟩) (by omega) ?_ ?_
  · simp only [List.length_map, fillTo_zero, Int.toNat_natCast, Option.isSome_some, and_self, fixB, Nat.reduceLeDiff, false_implies, true_implies, forall_const, St.le0, St.swaps, St.ren, mapV, renO, V.ren, Sc.ren, Ob.ren, swp, slsLe, obsLe, vLe, psLe, scLe, scsLe, obLe, Vq.look, Nat.reduceEqDiff, if_true, if_false, reduceCtorEq, ↓reduceIte, true_and, and_true, drB, eCur, C.toS, List.map_cons, List.map_nil]; and_intros <;> first | rfl | omega
  · intro k hk
    have hdl := drB_len l (curN l (curN l c)) z k
    repeat' (first
    | ((with_reducible refine z_run ?_); (conv => whnf))
    | (with_reducible apply z_t)
    | (with_reducible apply z_f)
    | ((with_reducible apply z_b); ((intro h); (try simp only [beq_self_eq_true, eq_self, not_true_eq_false, not_false_eq_true, decide_true, cond_true, cond_false, Bool.not_true, Bool.not_false, Bool.not_eq_true', Bool.not_eq_false', Bool.and_eq_true, Bool.and_eq_false_imp, Bool.or_eq_true, Bool.or_eq_false_iff, decide_eq_true_eq, decide_eq_false_iff_not, Bool.false_eq_true, reduceCtorEq, Int.not_le, Int.not_lt, Decidable.not_not] at h)); rotate_left; ((intro h); (try simp only [beq_self_eq_true, eq_self, not_true_eq_false, not_false_eq_true, decide_true, cond_true, cond_false, Bool.not_true, Bool.not_false, Bool.not_eq_true', Bool.not_eq_false', Bool.and_eq_true, Bool.and_eq_false_imp, Bool.or_eq_true, Bool.or_eq_false_iff, decide_eq_true_eq, decide_eq_false_iff_not, Bool.false_eq_true, reduceCtorEq, Int.not_le, Int.not_lt, Decidable.not_not] at h)))
    | (with_reducible refine z_r ?_ ?_)
    | (with_reducible refine z_wg ?_ ?_)
    | (with_reducible refine z_w ?_ ?_)
    | ((with_reducible apply sh_nil); (intro _))
    | ((with_reducible apply sh_int); (intro _))
    | ((with_reducible apply sh_bool); (intro _))
    | ((with_reducible apply sh_sl); (intro _))
    | ((with_reducible refine z_xf ?zc ?zx ?_); (case zc => decide +kernel); (case zx => decide +kernel))
    | (refine z_mm [_] (l02Cell_fn l hl _) rfl rfl ⟨rfl, trivial⟩ rfl ?_)
    | ((with_reducible refine z_o ?zo ?_); (case zo => decide +kernel))
    | ((with_reducible refine z_x ?zx ?_); (case zx => decide +kernel))
    | fail)
    all_goals ((try simp only [Int.toNat_natCast, tn1, tp1, List.length_map, eq_self, true_and, and_true] at *); (try simp (disch := omega) only [wr, Int.toNat_natCast, tn1, tp1, List.length_map, eq_self, true_and, and_true] at *))
    all_goals (first
      | omega
      | (rw [show n = k by omega]; (refine z_em rfl rfl ?_ ?_ <;> simp only [fin, finP, finM, finO, Mo.ob, ids, nodupB, tupP, tupM, memN, ev, Vq.look, List.map_cons, List.map_nil, and_true, true_and, Nat.reduceEqDiff, if_true, if_false, reduceCtorEq, ↓reduceIte] <;> first | done | rfl | (and_intros <;> rfl)))
      | skip)
    have hzz := sq_wrap (n := z) (by omega)
    generalize hcc : (drB l (curN l (curN l c)) z k).1 = cc
    have hzi : ((z * z : Nat) : Int) = (z : Int) * z := by simp
    refine z_li (fun i : Nat => i ≤ z * z) (0 : Nat) (fun i => z * z - i) (fun i => if i < z * z then ⟨[(0, .one (.bx 500000 0)), (3, .one (.root 10)), (4, .one (.int .i64 n)), (5, .one (.int .i64 z)), (6, .one (.int .i64 k)), (7, .one (.bx 7 0)), (8, .one (.int .i64 i))], [(7, .box [.int .i64 z, .root 77]), (77, .row 76 dCell ((drC l cc i).2.map eCell)), (10, .row 63 dBlk ((drB l (curN l (curN l c)) z k).2.map eBlk)), (500000, .box ((eCur l (drC l cc i).1).map C.toS))]⟩ else ⟨[(0, .one (.bx 500000 0)), (3, .one (.root 10)), (4, .one (.int .i64 n)), (5, .one (.int .i64 z)), (6, .one (.int .i64 k)), (7, .one (.bx 7 0)), (8, .one (.int .i64 i))], [(7, .box [.int .i64 z, .ro dCell ((drC l cc i).2.map eCell)]), (10, .row 63 dBlk ((drB l (curN l (curN l c)) z k).2.map eBlk)), (500000, .box ((eCur l (drC l cc i).1).map C.toS))]⟩) (by omega) ?_ ?_
    · rw [if_pos (by have := hzz.2.1; omega)]
      simp only [List.length_map, fillTo_zero, Int.toNat_natCast, Option.isSome_some, and_self, fixB, Nat.reduceLeDiff, false_implies, true_implies, forall_const, St.le0, St.swaps, St.ren, mapV, renO, V.ren, Sc.ren, Ob.ren, swp, slsLe, obsLe, vLe, psLe, scLe, scsLe, obLe, Vq.look, Nat.reduceEqDiff, if_true, if_false, reduceCtorEq, ↓reduceIte, true_and, and_true, drC, eCur, C.toS, List.map_cons, List.map_nil]; and_intros <;> first | rfl | omega
    · intro i hi
      have hci := drC_len l cc i
      by_cases hlt : i < z * z
      · rw [if_pos hlt]
        repeat' (first
    | ((with_reducible refine z_run ?_); (conv => whnf))
    | (with_reducible apply z_t)
    | (with_reducible apply z_f)
    | ((with_reducible apply z_b); ((intro h); (try simp only [beq_self_eq_true, eq_self, not_true_eq_false, not_false_eq_true, decide_true, cond_true, cond_false, Bool.not_true, Bool.not_false, Bool.not_eq_true', Bool.not_eq_false', Bool.and_eq_true, Bool.and_eq_false_imp, Bool.or_eq_true, Bool.or_eq_false_iff, decide_eq_true_eq, decide_eq_false_iff_not, Bool.false_eq_true, reduceCtorEq, Int.not_le, Int.not_lt, Decidable.not_not] at h)); rotate_left; ((intro h); (try simp only [beq_self_eq_true, eq_self, not_true_eq_false, not_false_eq_true, decide_true, cond_true, cond_false, Bool.not_true, Bool.not_false, Bool.not_eq_true', Bool.not_eq_false', Bool.and_eq_true, Bool.and_eq_false_imp, Bool.or_eq_true, Bool.or_eq_false_iff, decide_eq_true_eq, decide_eq_false_iff_not, Bool.false_eq_true, reduceCtorEq, Int.not_le, Int.not_lt, Decidable.not_not] at h)))
    | (with_reducible refine z_r ?_ ?_)
    | (with_reducible refine z_wg ?_ ?_)
    | (with_reducible refine z_w ?_ ?_)
    | ((with_reducible apply sh_nil); (intro _))
    | ((with_reducible apply sh_int); (intro _))
    | ((with_reducible apply sh_bool); (intro _))
    | ((with_reducible apply sh_sl); (intro _))
    | ((with_reducible refine z_xf ?zc ?zx ?_); (case zc => decide +kernel); (case zx => decide +kernel))
    | (refine z_mm [_] (l02Cell_fn l hl _) rfl rfl ⟨rfl, trivial⟩ rfl ?_)
    | ((with_reducible refine z_o ?zo ?_); (case zo => decide +kernel))
    | ((with_reducible refine z_x ?zx ?_); (case zx => decide +kernel))
    | fail)
        all_goals ((try simp only [Int.toNat_natCast, tn1, tp1, List.length_map, eq_self, true_and, and_true] at *); (try simp (disch := omega) only [wr, Int.toNat_natCast, tn1, tp1, List.length_map, eq_self, true_and, and_true] at *))
        all_goals (try rw [hzz.1] at *)
        all_goals (first
          | omega
          | (simp only [List.length_map, List.length_cons, List.length_nil]; omega)
          | skip)
        by_cases hlt2 : i + 1 < z * z
        · refine z_n (i + 1) ⟨by omega, by omega⟩ ?_
          rw [if_pos hlt2, drC, List.map_append]; simp only [List.length_map, fillTo_zero, Int.toNat_natCast, Option.isSome_some, and_self, fixB, Nat.reduceLeDiff, false_implies, true_implies, forall_const, St.le0, St.swaps, St.ren, mapV, renO, V.ren, Sc.ren, Ob.ren, swp, slsLe, obsLe, vLe, psLe, scLe, scsLe, obLe, Vq.look, Nat.reduceEqDiff, if_true, if_false, reduceCtorEq, ↓reduceIte, true_and, and_true, eCur, C.toS, List.map_cons, List.map_nil]; (and_intros <;> first | rfl | omega)
        · refine z_n (i + 1) ⟨by omega, by omega⟩ ?_
          rw [if_neg hlt2, drC, List.map_append]; simp only [List.length_map, fillTo_zero, Int.toNat_natCast, Option.isSome_some, and_self, fixB, Nat.reduceLeDiff, false_implies, true_implies, forall_const, St.le0, St.swaps, St.ren, mapV, renO, V.ren, Sc.ren, Ob.ren, swp, slsLe, obsLe, vLe, psLe, scLe, scsLe, obLe, Vq.look, Nat.reduceEqDiff, if_true, if_false, reduceCtorEq, ↓reduceIte, true_and, and_true, eCur, C.toS, List.map_cons, List.map_nil]; (and_intros <;> first | rfl | omega | (trace_state; fail))
      · rw [if_neg hlt]
        repeat' (first
    | ((with_reducible refine z_run ?_); (conv => whnf))
    | (with_reducible apply z_t)
    | (with_reducible apply z_f)
    | ((with_reducible apply z_b); ((intro h); (try simp only [beq_self_eq_true, eq_self, not_true_eq_false, not_false_eq_true, decide_true, cond_true, cond_false, Bool.not_true, Bool.not_false, Bool.not_eq_true', Bool.not_eq_false', Bool.and_eq_true, Bool.and_eq_false_imp, Bool.or_eq_true, Bool.or_eq_false_iff, decide_eq_true_eq, decide_eq_false_iff_not, Bool.false_eq_true, reduceCtorEq, Int.not_le, Int.not_lt, Decidable.not_not] at h)); rotate_left; ((intro h); (try simp only [beq_self_eq_true, eq_self, not_true_eq_false, not_false_eq_true, decide_true, cond_true, cond_false, Bool.not_true, Bool.not_false, Bool.not_eq_true', Bool.not_eq_false', Bool.and_eq_true, Bool.and_eq_false_imp, Bool.or_eq_true, Bool.or_eq_false_iff, decide_eq_true_eq, decide_eq_false_iff_not, Bool.false_eq_true, reduceCtorEq, Int.not_le, Int.not_lt, Decidable.not_not] at h)))
    | (with_reducible refine z_r ?_ ?_)
    | (with_reducible refine z_wg ?_ ?_)
    | (with_reducible refine z_w ?_ ?_)
    | ((with_reducible apply sh_nil); (intro _))
    | ((with_reducible apply sh_int); (intro _))
    | ((with_reducible apply sh_bool); (intro _))
    | ((with_reducible apply sh_sl); (intro _))
    | ((with_reducible refine z_xf ?zc ?zx ?_); (case zc => decide +kernel); (case zx => decide +kernel))
    | (refine z_mm [_] (l02Cell_fn l hl _) rfl rfl ⟨rfl, trivial⟩ rfl ?_)
    | ((with_reducible refine z_o ?zo ?_); (case zo => decide +kernel))
    | ((with_reducible refine z_x ?zx ?_); (case zx => decide +kernel))
    | fail)
        all_goals ((try simp only [Int.toNat_natCast, tn1, tp1, List.length_map, eq_self, true_and, and_true] at *); (try simp (disch := omega) only [wr, Int.toNat_natCast, tn1, tp1, List.length_map, eq_self, true_and, and_true] at *))
        all_goals (try rw [hzz.1] at *)
        all_goals (first
          | omega
          | (simp only [List.length_map, List.length_cons, List.length_nil]; omega)
          | (refine z_n (k + 1) ⟨by omega, by omega⟩ ?_; rw [drB, hcc, show z * z = i by omega, List.map_append]; simp only [List.length_map, fillTo_zero, Int.toNat_natCast, Option.isSome_some, and_self, fixB, Nat.reduceLeDiff, false_implies, true_implies, forall_const, St.le0, St.swaps, St.ren, mapV, renO, V.ren, Sc.ren, Ob.ren, swp, slsLe, obsLe, vLe, psLe, scLe, scsLe, obLe, Vq.look, Nat.reduceEqDiff, if_true, if_false, reduceCtorEq, ↓reduceIte, true_and, and_true, eCur, C.toS, List.map_cons, List.map_nil]; (and_intros <;> first | rfl | omega); done)
          | (trace_state; fail))
theorem l01Once_fn (l : List Int) (hl : l.length ≤ 1048576) (c : TCur) {n : Int} (hn : 1 ≤ n ∧ n ≤ 256) : FnMC Try.prog 136 [(false, [.ptr 0]), (false, [.val (.int .i64 n)])] [.box (eCur l c)] [.box (eCur l (curN l c))] (.one (.bool (decide (belV l c n = 0)))) := by
  refine fn_zm (ty := ty) (ts := [.tmp 4]) [0, 1, 4] mixed ty_ok Try.func136 (by kernel_rfl) rfl (by kernel_rfl) (by kernel_rfl) rfl (.inl rfl) (Nat.le_of_ble_eq_true rfl) (by simp only [likes, Mo.like, and_self]) rfl (by simp only [entryM, maV, Ma.sc, C.toS, Nat.zero_add, Nat.reduceAdd, List.map_cons, List.map_nil]; exact rfl) (by simp only [numb, Mo.ob, C.toS, List.map_cons, List.map_nil]; exact rfl) ?_
  repeat' (first
    | ((with_reducible refine z_run ?_); (conv => whnf))
    | (with_reducible apply z_t)
    | (with_reducible apply z_f)
    | ((with_reducible apply z_b); ((intro h); (try simp only [beq_self_eq_true, eq_self, not_true_eq_false, not_false_eq_true, decide_true, cond_true, cond_false, Bool.not_true, Bool.not_false, Bool.not_eq_true', Bool.not_eq_false', Bool.and_eq_true, Bool.and_eq_false_imp, Bool.or_eq_true, Bool.or_eq_false_iff, decide_eq_true_eq, decide_eq_false_iff_not, Bool.false_eq_true, reduceCtorEq, Int.not_le, Int.not_lt, Decidable.not_not] at h)); rotate_left; ((intro h); (try simp only [beq_self_eq_true, eq_self, not_true_eq_false, not_false_eq_true, decide_true, cond_true, cond_false, Bool.not_true, Bool.not_false, Bool.not_eq_true', Bool.not_eq_false', Bool.and_eq_true, Bool.and_eq_false_imp, Bool.or_eq_true, Bool.or_eq_false_iff, decide_eq_true_eq, decide_eq_false_iff_not, Bool.false_eq_true, reduceCtorEq, Int.not_le, Int.not_lt, Decidable.not_not] at h)))
    | (with_reducible refine z_r ?_ ?_)
    | (with_reducible refine z_wg ?_ ?_)
    | (with_reducible refine z_w ?_ ?_)
    | ((with_reducible apply sh_nil); (intro _))
    | ((with_reducible apply sh_int); (intro _))
    | ((with_reducible apply sh_bool); (intro _))
    | ((with_reducible apply sh_sl); (intro _))
    | ((with_reducible refine z_xf ?zc ?zx ?_); (case zc => decide +kernel); (case zx => decide +kernel))
    | (refine z_mm [_] (l01Below_fn l hl _ (by omega)) rfl rfl ⟨rfl, trivial⟩ rfl ?_)
    | ((with_reducible refine z_o ?zo ?_); (case zo => decide +kernel))
    | ((with_reducible refine z_x ?zx ?_); (case zx => decide +kernel))
    | fail)
  all_goals ((try simp only [Int.toNat_natCast, tn1, tp1, List.length_map, eq_self, true_and, and_true] at *); (try simp (disch := omega) only [wr, Int.toNat_natCast, tn1, tp1, List.length_map, eq_self, true_and, and_true] at *))
  all_goals (first
    | omega
    | (refine z_em rfl rfl ?_ ?_ <;> simp only [fin, finP, finM, finO, Mo.ob, ids, nodupB, tupP, tupM, memN, ev, Vq.look, List.map_cons, List.map_nil, and_true, true_and, Nat.reduceEqDiff, if_true, if_false, reduceCtorEq, ↓reduceIte] <;> first | done | rfl | (and_intros <;> rfl))
    | (trace_state; fail))
/-- drawn spots -/
def spD (l : List Int) (c : TCur) (n : Int) (same : Bool) (k : Nat) : TSpot := if same then ((k : Int) % 2 % n, (k : Int) % 2) else (belV l c n, belV l (curN l c) 8)
def drS (l : List Int) (c : TCur) (n : Int) (same : Bool) : Nat → TCur × List TSpot
  | 0 => (c, [])
  | k + 1 => (curN l (curN l (drS l c n same k).1), (drS l c n same k).2 ++ [spD l (drS l c n same k).1 n same k])
theorem drS_len (l : List Int) (c : TCur) (n : Int) (same : Bool) : ∀ k, (drS l c n same k).2.length = k
  | 0 => rfl
  | k + 1 => by simp [drS, drS_len l c n same k]
theorem drS_ok (l : List Int) (c : TCur) {n : Int} (hn : 1 ≤ n ∧ n ≤ 6) (same : Bool) : ∀ k, ∀ s ∈ (drS l c n same k).2, spotOk (n - 1) s
  | 0 => by simp [drS]
  | k + 1 => by
    intro s hs
    simp only [drS, List.mem_append, List.mem_singleton] at hs
    rcases hs with hs | rfl
    · exact drS_ok l c hn same k s hs
    · have h1 := belV_bd l (drS l c n same k).1 hn.1
      have h2 := belV_bd l (curN l (drS l c n same k).1) (n := 8) (by omega)
      have h3 := Int.emod_nonneg ((k : Int) % 2) (b := n) (by omega)
      have h4 := Int.emod_lt_of_pos ((k : Int) % 2) (b := n) (by omega)
      unfold spD spotOk
      split <;> (dsimp only; omega)
theorem l17Quilt_fn (l : List Int) (hl : l.length ≤ 1048576) (c : TCur) (n : Int) (hn : 1 ≤ n ∧ n ≤ 6) (w g : Nat) (hw : belV l c 4 + 1 = w) (hg : belV l (curN l c) 4 + 1 = g) (same : Bool) (hs : decide (belV l (curN l (curN l c)) 3 = 0) = same) : FnMC Try.prog 98 [(false, [.ptr 0]), (false, [.val (.int .i64 n)])] [.box (eCur l c)] [.box (eCur l (drS l (cur3 l c) n same (w * g)).1)] (.agg (rQ w g (drS l (cur3 l c) n same (w * g)).2)) := by
  have hb := belV_bd l c (n := 4) (by omega)
  have hb2 := belV_bd l (curN l c) (n := 4) (by omega)
  have e1 : IntKind.i64.wrap (1 + belV l c 4) = w := by rw [wr ⟨by omega, by omega⟩]; omega
  have e2 : IntKind.i64.wrap (1 + belV l (curN l c) 4) = g := by rw [wr ⟨by omega, by omega⟩]; omega
  have hwg := wg_wrap (w := w) (g := g) (by omega) (by omega)
  have hwgi : ((w * g : Nat) : Int) = (w : Int) * g := by simp
  refine fn_zm (ty := ty) (ts := [.cell 4 32 3]) [0, 1, 4, 5, 6, 7, 8, 24, 33, 4] mixed ty_ok Try.func98 (by kernel_rfl) rfl (by kernel_rfl) (by kernel_rfl) rfl (.inl rfl) (Nat.le_of_ble_eq_true rfl) (by simp only [likes, Mo.like, and_self]) rfl (by simp only [entryM, maV, Ma.sc, C.toS, Nat.zero_add, Nat.reduceAdd, List.map_cons, List.map_nil]; exact rfl) (by simp only [numb, Mo.ob, C.toS, List.map_cons, List.map_nil]; exact rfl) ?_
  repeat' (first
    | ((with_reducible refine z_run ?_); (conv => whnf))
    | (with_reducible apply z_t)
    | (with_reducible apply z_f)
    | ((with_reducible apply z_b); ((intro h); (try simp only [beq_self_eq_true, eq_self, not_true_eq_false, not_false_eq_true, decide_true, cond_true, cond_false, Bool.not_true, Bool.not_false, Bool.not_eq_true', Bool.not_eq_false', Bool.and_eq_true, Bool.and_eq_false_imp, Bool.or_eq_true, Bool.or_eq_false_iff, decide_eq_true_eq, decide_eq_false_iff_not, Bool.false_eq_true, reduceCtorEq, Int.not_le, Int.not_lt, Decidable.not_not] at h)); rotate_left; ((intro h); (try simp only [beq_self_eq_true, eq_self, not_true_eq_false, not_false_eq_true, decide_true, cond_true, cond_false, Bool.not_true, Bool.not_false, Bool.not_eq_true', Bool.not_eq_false', Bool.and_eq_true, Bool.and_eq_false_imp, Bool.or_eq_true, Bool.or_eq_false_iff, decide_eq_true_eq, decide_eq_false_iff_not, Bool.false_eq_true, reduceCtorEq, Int.not_le, Int.not_lt, Decidable.not_not] at h)))
    | (with_reducible refine z_r ?_ ?_)
    | (with_reducible refine z_wg ?_ ?_)
    | (with_reducible refine z_w ?_ ?_)
    | ((with_reducible apply sh_nil); (intro _))
    | ((with_reducible apply sh_int); (intro _))
    | ((with_reducible apply sh_bool); (intro _))
    | ((with_reducible apply sh_sl); (intro _))
    | ((with_reducible refine z_xf ?zc ?zx ?_); (case zc => decide +kernel); (case zx => decide +kernel))
    | (refine z_mm [_] (l01Below_fn l hl _ (by omega)) rfl rfl ⟨rfl, trivial⟩ rfl ?_)
    | (refine z_mm [_] (l01Once_fn l hl _ (by omega)) rfl rfl ⟨rfl, trivial⟩ rfl ?_)
    | ((with_reducible refine z_o ?zo ?_); (case zo => decide +kernel))
    | ((with_reducible refine z_x ?zx ?_); (case zx => decide +kernel))
    | fail)
  simp only [e1, e2, hs]
  refine z_li (fun k : Nat => k ≤ w * g) (0 : Nat) (fun k => w * g - k) (fun k => ⟨[(0, .one (.bx 500000 0)), (1, .one (.int .i64 n)), (4, .one (.bx 4 0)), (5, .one (.bx 5 0)), (6, .one (.bool same)), (7, .one (.int .i64 k))], [(5, .box [.int .i64 w, .int .i64 g, .root 77]), (77, .row 82 dSpot ((drS l (cur3 l c) n same k).2.map eSpot)), (500000, .box ((eCur l (drS l (cur3 l c) n same k).1).map C.toS)), (4, .box [.int .i64 0, .int .i64 0, .nil])]⟩) (by omega) ?_ ?_
  · simp only [List.length_map, fillTo_zero, Int.toNat_natCast, Option.isSome_some, and_self, fixB, Nat.reduceLeDiff, false_implies, true_implies, forall_const, St.le0, St.swaps, St.ren, mapV, renO, V.ren, Sc.ren, Ob.ren, swp, slsLe, obsLe, vLe, psLe, scLe, scsLe, obLe, Vq.look, Nat.reduceEqDiff, if_true, if_false, reduceCtorEq, ↓reduceIte, true_and, and_true, drS, cur3, eCur, C.toS, List.map_cons, List.map_nil]; and_intros <;> first | rfl | omega
  · intro k hk
    have hsl := drS_len l (cur3 l c) n same k
    have hb3 := belV_bd l (drS l (cur3 l c) n same k).1 (n := n) (by omega)
    have hb4 := belV_bd l (curN l (drS l (cur3 l c) n same k).1) (n := 8) (by omega)
    have em1 : (k : Int).tmod 2 = (k : Int) % 2 := Int.tmod_eq_emod_of_nonneg (by omega)
    have em2 : ((k : Int) % 2).tmod n = (k : Int) % 2 % n := Int.tmod_eq_emod_of_nonneg (by omega)
    cases same with
    | true =>
      repeat' (first
    | ((with_reducible refine z_run ?_); (conv => whnf))
    | (with_reducible apply z_t)
    | (with_reducible apply z_f)
    | ((with_reducible apply z_b); ((intro h); (try simp only [beq_self_eq_true, eq_self, not_true_eq_false, not_false_eq_true, decide_true, cond_true, cond_false, Bool.not_true, Bool.not_false, Bool.not_eq_true', Bool.not_eq_false', Bool.and_eq_true, Bool.and_eq_false_imp, Bool.or_eq_true, Bool.or_eq_false_iff, decide_eq_true_eq, decide_eq_false_iff_not, Bool.false_eq_true, reduceCtorEq, Int.not_le, Int.not_lt, Decidable.not_not] at h)); rotate_left; ((intro h); (try simp only [beq_self_eq_true, eq_self, not_true_eq_false, not_false_eq_true, decide_true, cond_true, cond_false, Bool.not_true, Bool.not_false, Bool.not_eq_true', Bool.not_eq_false', Bool.and_eq_true, Bool.and_eq_false_imp, Bool.or_eq_true, Bool.or_eq_false_iff, decide_eq_true_eq, decide_eq_false_iff_not, Bool.false_eq_true, reduceCtorEq, Int.not_le, Int.not_lt, Decidable.not_not] at h)))
    | (with_reducible refine z_r ?_ ?_)
    | (with_reducible refine z_wg ?_ ?_)
    | (with_reducible refine z_w ?_ ?_)
    | ((with_reducible apply sh_nil); (intro _))
    | ((with_reducible apply sh_int); (intro _))
    | ((with_reducible apply sh_bool); (intro _))
    | ((with_reducible apply sh_sl); (intro _))
    | ((with_reducible refine z_xf ?zc ?zx ?_); (case zc => decide +kernel); (case zx => decide +kernel))
    | (refine z_mm [_] (l01Below_fn l hl _ (by omega)) rfl rfl ⟨rfl, trivial⟩ rfl ?_)
    | ((with_reducible refine z_o ?zo ?_); (case zo => decide +kernel))
    | ((with_reducible refine z_x ?zx ?_); (case zx => decide +kernel))
    | fail)
      all_goals ((try simp only [Int.toNat_natCast, tn1, tp1, List.length_map, eq_self, true_and, and_true] at *); (try simp (disch := omega) only [wr, Int.toNat_natCast, tn1, tp1, List.length_map, eq_self, true_and, and_true] at *))
      all_goals (try rw [hwg.1] at *)
      all_goals (try rw [em1] at *)
      all_goals (try rw [em2] at *)
      all_goals (first
        | omega
        | (simp only [List.length_map, List.length_cons, List.length_nil]; omega)
        | (refine z_n (k + 1) ⟨by omega, by omega⟩ ?_; rw [drS, List.map_append]; simp only [List.length_map, fillTo_zero, Int.toNat_natCast, Option.isSome_some, and_self, fixB, Nat.reduceLeDiff, false_implies, true_implies, forall_const, St.le0, St.swaps, St.ren, mapV, renO, V.ren, Sc.ren, Ob.ren, swp, slsLe, obsLe, vLe, psLe, scLe, scsLe, obLe, Vq.look, Nat.reduceEqDiff, if_true, if_false, reduceCtorEq, ↓reduceIte, true_and, and_true, spD, if_true, eCur, C.toS, List.map_cons, List.map_nil]; (and_intros <;> first | rfl | omega); done)
        | (rw [show w * g = k by omega]; (refine z_em rfl rfl ?_ ?_ <;> simp only [fin, finP, finM, finO, Mo.ob, ids, nodupB, tupP, tupM, memN, ev, Vq.look, List.map_cons, List.map_nil, and_true, true_and, Nat.reduceEqDiff, if_true, if_false, reduceCtorEq, ↓reduceIte] <;> first | done | rfl | (and_intros <;> rfl)))
        | (trace_state; fail))
    | false =>
      repeat' (first
    | ((with_reducible refine z_run ?_); (conv => whnf))
    | (with_reducible apply z_t)
    | (with_reducible apply z_f)
    | ((with_reducible apply z_b); ((intro h); (try simp only [beq_self_eq_true, eq_self, not_true_eq_false, not_false_eq_true, decide_true, cond_true, cond_false, Bool.not_true, Bool.not_false, Bool.not_eq_true', Bool.not_eq_false', Bool.and_eq_true, Bool.and_eq_false_imp, Bool.or_eq_true, Bool.or_eq_false_iff, decide_eq_true_eq, decide_eq_false_iff_not, Bool.false_eq_true, reduceCtorEq, Int.not_le, Int.not_lt, Decidable.not_not] at h)); rotate_left; ((intro h); (try simp only [beq_self_eq_true, eq_self, not_true_eq_false, not_false_eq_true, decide_true, cond_true, cond_false, Bool.not_true, Bool.not_false, Bool.not_eq_true', Bool.not_eq_false', Bool.and_eq_true, Bool.and_eq_false_imp, Bool.or_eq_true, Bool.or_eq_false_iff, decide_eq_true_eq, decide_eq_false_iff_not, Bool.false_eq_true, reduceCtorEq, Int.not_le, Int.not_lt, Decidable.not_not] at h)))
    | (with_reducible refine z_r ?_ ?_)
    | (with_reducible refine z_wg ?_ ?_)
    | (with_reducible refine z_w ?_ ?_)
    | ((with_reducible apply sh_nil); (intro _))
    | ((with_reducible apply sh_int); (intro _))
    | ((with_reducible apply sh_bool); (intro _))
    | ((with_reducible apply sh_sl); (intro _))
    | ((with_reducible refine z_xf ?zc ?zx ?_); (case zc => decide +kernel); (case zx => decide +kernel))
    | (refine z_mm [_] (l01Below_fn l hl _ (by omega)) rfl rfl ⟨rfl, trivial⟩ rfl ?_)
    | ((with_reducible refine z_o ?zo ?_); (case zo => decide +kernel))
    | ((with_reducible refine z_x ?zx ?_); (case zx => decide +kernel))
    | fail)
      all_goals ((try simp only [Int.toNat_natCast, tn1, tp1, List.length_map, eq_self, true_and, and_true] at *); (try simp (disch := omega) only [wr, Int.toNat_natCast, tn1, tp1, List.length_map, eq_self, true_and, and_true] at *))
      all_goals (try rw [hwg.1] at *)
      all_goals (first
        | omega
        | (simp only [List.length_map, List.length_cons, List.length_nil]; omega)
        | (refine z_n (k + 1) ⟨by omega, by omega⟩ ?_; rw [drS, List.map_append]; simp only [List.length_map, fillTo_zero, Int.toNat_natCast, Option.isSome_some, and_self, fixB, Nat.reduceLeDiff, false_implies, true_implies, forall_const, St.le0, St.swaps, St.ren, mapV, renO, V.ren, Sc.ren, Ob.ren, swp, slsLe, obsLe, vLe, psLe, scLe, scsLe, obLe, Vq.look, Nat.reduceEqDiff, if_true, if_false, reduceCtorEq, ↓reduceIte, true_and, and_true, spD, Bool.false_eq_true, if_false, eCur, C.toS, List.map_cons, List.map_nil]; (and_intros <;> first | rfl | omega); done)
        | (rw [show w * g = k by omega]; (refine z_em rfl rfl ?_ ?_ <;> simp only [fin, finP, finM, finO, Mo.ob, ids, nodupB, tupP, tupM, memN, ev, Vq.look, List.map_cons, List.map_nil, and_true, true_and, Nat.reduceEqDiff, if_true, if_false, reduceCtorEq, ↓reduceIte] <;> first | done | rfl | (and_intros <;> rfl)))
        | (trace_state; fail))
theorem cellsN_16 : ∀ {bs : List TBlk}, (∀ b ∈ bs, bOk b) → cellsN bs ≤ 16 * bs.length
  | [], _ => by simp [cellsN]
  | b :: bs, h => by
    have ih := cellsN_16 (bs := bs) fun b hb => h b (List.mem_cons_of_mem _ hb)
    have := blk_len (h b (List.mem_cons_self ..))
    simp only [cellsN, List.map_cons, List.sum_cons, List.length_cons] at ih ⊢
    omega
/-- a quilt as it is drawn -/
structure DrawnQ (w g : Nat) (sp : List TSpot) (bs : List TBlk) : Prop where
  ok : qOk w g sp bs
  len : sp.length + bs.length + cellsN bs ≤ 1000
theorem drawnQ (l : List Int) (c c' : TCur) {n z w g : Nat} (hn : 1 ≤ n ∧ n ≤ 3) (hz : 1 ≤ z ∧ z ≤ 3) (hw : 1 ≤ w ∧ w ≤ 4) (hg : 1 ≤ g ∧ g ≤ 4) (same : Bool) : DrawnQ w g (drS l c' n same (w * g)).2 (drB l c z n).2 := by
  have hl := drB_len l c z n
  have hb := drB_ok l c (z := z) (by omega) n
  have hs := drS_ok l c' (n := n) (by omega) same (w * g)
  have hsl := drS_len l c' n same (w * g)
  have h0 := hb _ (getD_mem (l := (drB l c z n).2) (k := 0) (by omega))
  have hc := cellsN_16 fun b hb' => (hb b hb').1
  have hwg : w * g ≤ 4 * 4 := Nat.mul_le_mul hw.2 hg.2
  refine ⟨⟨⟨by omega, by omega, by rw [hsl]; simp, ?_⟩, by omega, fun b hb' => ⟨(hb b hb').1, (hb b hb').2.trans h0.2.symm⟩⟩, by omega⟩
  rw [hl]; exact hs
theorem l36Order_fn (l : List Int) (hl : l.length ≤ 1048576) (c : TCur) : ∃ (c' : TCur) (w g : Nat) (sp : List TSpot) (bs : List TBlk) (s : Int), DrawnQ w g sp bs ∧ (4 ≤ s ∧ s ≤ 23) ∧ FnMC Try.prog 119 [(false, [.ptr 0])] [.box (eCur l c)] [.box (eCur l c')] (.agg (rO w g sp bs s)) := by
  have b1 := belV_bd l c (n := 3) (by omega)
  have b2 := belV_bd l (curN l c) (n := 3) (by omega)
  obtain ⟨n, hn⟩ : ∃ n : Nat, belV l c 3 + 1 = n := ⟨(belV l c 3 + 1).toNat, by omega⟩
  obtain ⟨z, hz⟩ : ∃ z : Nat, belV l (curN l c) 3 + 1 = z := ⟨(belV l (curN l c) 3 + 1).toNat, by omega⟩
  have cB := l17Blocks_fn l hl c n z hn hz
  generalize hcc : (drB l (curN l (curN l c)) z n).1 = cc at *
  have b3 := belV_bd l cc (n := 4) (by omega)
  have b4 := belV_bd l (curN l cc) (n := 4) (by omega)
  obtain ⟨w, hw⟩ : ∃ w : Nat, belV l cc 4 + 1 = w := ⟨(belV l cc 4 + 1).toNat, by omega⟩
  obtain ⟨g, hg⟩ : ∃ g : Nat, belV l (curN l cc) 4 + 1 = g := ⟨(belV l (curN l cc) 4 + 1).toNat, by omega⟩
  have cQ := l17Quilt_fn l hl cc n (by omega) w g hw hg _ rfl
  have hq := drawnQ l (curN l (curN l c)) (cur3 l cc) (n := n) (z := z) (w := w) (g := g) (by omega) (by omega) (by omega) (by omega) (decide (belV l (curN l (curN l cc)) 3 = 0))
  generalize hdd : (drS l (cur3 l cc) n (decide (belV l (curN l (curN l cc)) 3 = 0)) (w * g)).1 = dd at *
  have b5 := belV_bd l dd (n := 20) (by omega)
  have hbl := drB_len l (curN l (curN l c)) z n
  have cQ2 : ∀ v : Int, v = n → FnMC Try.prog 98 [(false, [.ptr 0]), (false, [.val (.int .i64 v)])] [.box (eCur l cc)] [.box (eCur l dd)] (.agg (rQ w g (drS l (cur3 l cc) n (decide (belV l (curN l (curN l cc)) 3 = 0)) (w * g)).2)) := by rintro _ rfl; exact cQ
  clear cQ
  refine ⟨curN l dd, w, g, _, _, 4 + belV l dd 20, hq, by omega, ?_⟩
  refine fn_zm (ty := ty) (ts := [.cell 2 35 5]) [0, 2, 3, 2] mixed ty_ok Try.func119 (by kernel_rfl) rfl (by kernel_rfl) (by kernel_rfl) rfl (.inl rfl) (Nat.le_of_ble_eq_true rfl) (by simp only [likes, Mo.like, and_self]) rfl (by simp only [entryM, maV, Ma.sc, C.toS, Nat.zero_add, Nat.reduceAdd, List.map_cons, List.map_nil]; exact rfl) (by simp only [numb, Mo.ob, C.toS, List.map_cons, List.map_nil]; exact rfl) ?_
  repeat' (first
    | ((with_reducible refine z_run ?_); (conv => whnf))
    | (with_reducible apply z_t)
    | (with_reducible apply z_f)
    | ((with_reducible apply z_b); ((intro h); (try simp only [beq_self_eq_true, eq_self, not_true_eq_false, not_false_eq_true, decide_true, cond_true, cond_false, Bool.not_true, Bool.not_false, Bool.not_eq_true', Bool.not_eq_false', Bool.and_eq_true, Bool.and_eq_false_imp, Bool.or_eq_true, Bool.or_eq_false_iff, decide_eq_true_eq, decide_eq_false_iff_not, Bool.false_eq_true, reduceCtorEq, Int.not_le, Int.not_lt, Decidable.not_not] at h)); rotate_left; ((intro h); (try simp only [beq_self_eq_true, eq_self, not_true_eq_false, not_false_eq_true, decide_true, cond_true, cond_false, Bool.not_true, Bool.not_false, Bool.not_eq_true', Bool.not_eq_false', Bool.and_eq_true, Bool.and_eq_false_imp, Bool.or_eq_true, Bool.or_eq_false_iff, decide_eq_true_eq, decide_eq_false_iff_not, Bool.false_eq_true, reduceCtorEq, Int.not_le, Int.not_lt, Decidable.not_not] at h)))
    | (with_reducible refine z_r ?_ ?_)
    | (with_reducible refine z_wg ?_ ?_)
    | (with_reducible refine z_w ?_ ?_)
    | ((with_reducible apply sh_nil); (intro _))
    | ((with_reducible apply sh_int); (intro _))
    | ((with_reducible apply sh_bool); (intro _))
    | ((with_reducible apply sh_sl); (intro _))
    | ((with_reducible refine z_xf ?zc ?zx ?_); (case zc => decide +kernel); (case zx => decide +kernel))
    | (refine z_mm [_] cB rfl rfl ⟨rfl, trivial⟩ rfl ?_)
    | (refine z_mm [_] (cQ2 _ (by simp only [List.length_map, hbl])) rfl rfl ⟨rfl, trivial⟩ rfl ?_)
    | (refine z_mm [_] (l01Below_fn l hl _ (by omega)) rfl rfl ⟨rfl, trivial⟩ rfl ?_)
    | ((with_reducible refine z_o ?zo ?_); (case zo => decide +kernel))
    | ((with_reducible refine z_x ?zx ?_); (case zx => decide +kernel))
    | fail)
  all_goals ((try simp only [Int.toNat_natCast, tn1, tp1, List.length_map, eq_self, true_and, and_true] at *); (try simp (disch := omega) only [wr, Int.toNat_natCast, tn1, tp1, List.length_map, eq_self, true_and, and_true] at *))
  all_goals (first
    | omega
    | (refine z_em rfl rfl ?_ ?_ <;> simp only [fin, finP, finM, finO, Mo.ob, ids, nodupB, tupP, tupM, memN, ev, Vq.look, List.map_cons, List.map_nil, and_true, true_and, Nat.reduceEqDiff, if_true, if_false, reduceCtorEq, ↓reduceIte] <;> first | done | rfl | (and_intros <;> rfl))
    | (trace_state; fail))
theorem drawOrder_fn (l : List Int) (hl : l.length ≤ 1048576) : ∃ (w g : Nat) (sp : List TSpot) (bs : List TBlk) (s : Int), DrawnQ w g sp bs ∧ (4 ≤ s ∧ s ≤ 23) ∧ FnC Try.prog 58 [(false, [.sq dU (l.map eU)])] (.agg [.int .i64 w, .int .i64 g, .fz dSpot (sp.map eSpot), .fz dBlk (bs.map eBlk), .int .i64 s]) := by
  obtain ⟨c', w, g, sp, bs, s, h1, h2, h3⟩ := l36Order_fn l hl (curZ l)
  have h : FnC Try.prog 58 [(false, [.sq dU (l.map eU)])] (.agg (rO w g sp bs s)) := by
    refine fn_z (ty := ty) (ts := [.cell 2 35 5]) [0, 2, 2] mixed ty_ok Try.func58 (by kernel_rfl) rfl (by kernel_rfl) (by kernel_rfl) rfl (.inl rfl) (Nat.le_of_ble_eq_true rfl) (by simp only [entry, entryV, C.toS, Nat.zero_add, Nat.reduceAdd, List.map_cons, List.map_nil]; exact rfl) ?_
    repeat' (first
    | ((with_reducible refine z_run ?_); (conv => whnf))
    | (with_reducible apply z_t)
    | (with_reducible apply z_f)
    | ((with_reducible apply z_b); ((intro h); (try simp only [beq_self_eq_true, eq_self, not_true_eq_false, not_false_eq_true, decide_true, cond_true, cond_false, Bool.not_true, Bool.not_false, Bool.not_eq_true', Bool.not_eq_false', Bool.and_eq_true, Bool.and_eq_false_imp, Bool.or_eq_true, Bool.or_eq_false_iff, decide_eq_true_eq, decide_eq_false_iff_not, Bool.false_eq_true, reduceCtorEq, Int.not_le, Int.not_lt, Decidable.not_not] at h)); rotate_left; ((intro h); (try simp only [beq_self_eq_true, eq_self, not_true_eq_false, not_false_eq_true, decide_true, cond_true, cond_false, Bool.not_true, Bool.not_false, Bool.not_eq_true', Bool.not_eq_false', Bool.and_eq_true, Bool.and_eq_false_imp, Bool.or_eq_true, Bool.or_eq_false_iff, decide_eq_true_eq, decide_eq_false_iff_not, Bool.false_eq_true, reduceCtorEq, Int.not_le, Int.not_lt, Decidable.not_not] at h)))
    | (with_reducible refine z_r ?_ ?_)
    | (with_reducible refine z_wg ?_ ?_)
    | (with_reducible refine z_w ?_ ?_)
    | ((with_reducible apply sh_nil); (intro _))
    | ((with_reducible apply sh_int); (intro _))
    | ((with_reducible apply sh_bool); (intro _))
    | ((with_reducible apply sh_sl); (intro _))
    | ((with_reducible refine z_xf ?zc ?zx ?_); (case zc => decide +kernel); (case zx => decide +kernel))
    | (with_reducible refine z_k (l01New_fn l hl) ?_)
    | (refine z_mm [_] h3 rfl rfl ⟨rfl, trivial⟩ rfl ?_)
    | ((with_reducible refine z_o ?zo ?_); (case zo => decide +kernel))
    | ((with_reducible refine z_x ?zx ?_); (case zx => decide +kernel))
    | fail)
    all_goals ((try simp only [Int.toNat_natCast, tn1, tp1, List.length_map, eq_self, true_and, and_true] at *); (try simp (disch := omega) only [wr, Int.toNat_natCast, tn1, tp1, List.length_map, eq_self, true_and, and_true] at *))
    all_goals (first
      | (refine z_e rfl ?_; simp only [fin, finP, finM, ids, nodupB, tupP, tupM, memN, List.length_cons, List.length_nil, List.nil_append, List.append_nil, List.cons_append, Nat.zero_add, Nat.reduceAdd, ne_eq, not_false_eq_true, eq_self, ev, Vq.look, List.map_cons, List.map_nil, and_true, true_and, Nat.reduceEqDiff, if_true, if_false, reduceCtorEq, ↓reduceIte]; first | done | rfl | (and_intros <;> rfl))
      | (trace_state; fail))
  refine ⟨w, g, sp, bs, s, h1, h2, h.cal, h.fn.weak ?_⟩
  simp only [List.length_map, fillTo_zero, Int.toNat_natCast, Option.isSome_some, and_self, fixB, Nat.reduceLeDiff, false_implies, true_implies, forall_const, St.le0, St.swaps, St.ren, mapV, renO, V.ren, Sc.ren, Ob.ren, swp, slsLe, obsLe, vLe, psLe, scLe, scsLe, obLe, Vq.look, Nat.reduceEqDiff, if_true, if_false, reduceCtorEq, ↓reduceIte, true_and, and_true, Rs.V, Rs.O, scsOf, obsOf]
theorem drawQuilt_fn (l : List Int) (hl : l.length ≤ 1048576) : ∃ (w g : Nat) (sp : List TSpot) (bs : List TBlk), DrawnQ w g sp bs ∧ FnC Try.prog 43 [(false, [.sq dU (l.map eU)])] (.tup [(true, rQ w g sp), (false, [.own 63 dBlk (bs.map eBlk)])]) := by
  generalize hc : curZ l = c
  have b1 := belV_bd l c (n := 3) (by omega)
  have b2 := belV_bd l (curN l c) (n := 3) (by omega)
  obtain ⟨n, hn⟩ : ∃ n : Nat, belV l c 3 + 1 = n := ⟨(belV l c 3 + 1).toNat, by omega⟩
  obtain ⟨z, hz⟩ : ∃ z : Nat, belV l (curN l c) 3 + 1 = z := ⟨(belV l (curN l c) 3 + 1).toNat, by omega⟩
  have cB := l17Blocks_fn l hl c n z hn hz
  generalize hcc : (drB l (curN l (curN l c)) z n).1 = cc at *
  have b3 := belV_bd l cc (n := 4) (by omega)
  have b4 := belV_bd l (curN l cc) (n := 4) (by omega)
  obtain ⟨w, hw⟩ : ∃ w : Nat, belV l cc 4 + 1 = w := ⟨(belV l cc 4 + 1).toNat, by omega⟩
  obtain ⟨g, hg⟩ : ∃ g : Nat, belV l (curN l cc) 4 + 1 = g := ⟨(belV l (curN l cc) 4 + 1).toNat, by omega⟩
  have cQ := l17Quilt_fn l hl cc n (by omega) w g hw hg _ rfl
  have hq := drawnQ l (curN l (curN l c)) (cur3 l cc) (n := n) (z := z) (w := w) (g := g) (by omega) (by omega) (by omega) (by omega) (decide (belV l (curN l (curN l cc)) 3 = 0))
  generalize hdd : (drS l (cur3 l cc) n (decide (belV l (curN l (curN l cc)) 3 = 0)) (w * g)).1 = dd at *
  have hbl := drB_len l (curN l (curN l c)) z n
  have cQ2 : ∀ v : Int, v = n → FnMC Try.prog 98 [(false, [.ptr 0]), (false, [.val (.int .i64 v)])] [.box (eCur l cc)] [.box (eCur l dd)] (.agg (rQ w g (drS l (cur3 l cc) n (decide (belV l (curN l (curN l cc)) 3 = 0)) (w * g)).2)) := by rintro _ rfl; exact cQ
  clear cQ
  have cN : FnC Try.prog 96 [(false, [.sq dU (l.map eU)])] (.one (.bx (eCur l c))) := by rw [← hc]; exact l01New_fn l hl
  refine ⟨w, g, _, _, hq, ?_⟩
  refine fn_z (ty := ty) (ts := [.cell 2 32 3, .tmp 3]) [0, 2, 3, 4, 5, 2] mixed ty_ok Try.func43 (by kernel_rfl) rfl (by kernel_rfl) (by kernel_rfl) rfl (.inr (.inl rfl)) (Nat.le_of_ble_eq_true rfl) (by simp only [entry, entryV, C.toS, Nat.zero_add, Nat.reduceAdd, List.map_cons, List.map_nil]; exact rfl) ?_
  repeat' (first
    | ((with_reducible refine z_run ?_); (conv => whnf))
    | (with_reducible apply z_t)
    | (with_reducible apply z_f)
    | ((with_reducible apply z_b); ((intro h); (try simp only [beq_self_eq_true, eq_self, not_true_eq_false, not_false_eq_true, decide_true, cond_true, cond_false, Bool.not_true, Bool.not_false, Bool.not_eq_true', Bool.not_eq_false', Bool.and_eq_true, Bool.and_eq_false_imp, Bool.or_eq_true, Bool.or_eq_false_iff, decide_eq_true_eq, decide_eq_false_iff_not, Bool.false_eq_true, reduceCtorEq, Int.not_le, Int.not_lt, Decidable.not_not] at h)); rotate_left; ((intro h); (try simp only [beq_self_eq_true, eq_self, not_true_eq_false, not_false_eq_true, decide_true, cond_true, cond_false, Bool.not_true, Bool.not_false, Bool.not_eq_true', Bool.not_eq_false', Bool.and_eq_true, Bool.and_eq_false_imp, Bool.or_eq_true, Bool.or_eq_false_iff, decide_eq_true_eq, decide_eq_false_iff_not, Bool.false_eq_true, reduceCtorEq, Int.not_le, Int.not_lt, Decidable.not_not] at h)))
    | (with_reducible refine z_r ?_ ?_)
    | (with_reducible refine z_wg ?_ ?_)
    | (with_reducible refine z_w ?_ ?_)
    | ((with_reducible apply sh_nil); (intro _))
    | ((with_reducible apply sh_int); (intro _))
    | ((with_reducible apply sh_bool); (intro _))
    | ((with_reducible apply sh_sl); (intro _))
    | ((with_reducible refine z_xf ?zc ?zx ?_); (case zc => decide +kernel); (case zx => decide +kernel))
    | (with_reducible refine z_k cN ?_)
    | (refine z_mm [_] cB rfl rfl ⟨rfl, trivial⟩ rfl ?_)
    | (refine z_mm [_] (cQ2 _ (by simp only [List.length_map, hbl])) rfl rfl ⟨rfl, trivial⟩ rfl ?_)
    | ((with_reducible refine z_o ?zo ?_); (case zo => decide +kernel))
    | ((with_reducible refine z_x ?zx ?_); (case zx => decide +kernel))
    | fail)
  all_goals ((try simp only [Int.toNat_natCast, tn1, tp1, List.length_map, eq_self, true_and, and_true] at *); (try simp (disch := omega) only [wr, Int.toNat_natCast, tn1, tp1, List.length_map, eq_self, true_and, and_true] at *))
  all_goals (first
    | omega
    | (refine z_e rfl ?_; simp only [fin, finP, finM, ids, nodupB, tupP, tupM, memN, List.length_cons, List.length_nil, List.nil_append, List.append_nil, List.cons_append, Nat.zero_add, Nat.reduceAdd, ne_eq, not_false_eq_true, eq_self, ev, Vq.look, List.map_cons, List.map_nil, and_true, true_and, Nat.reduceEqDiff, if_true, if_false, reduceCtorEq, ↓reduceIte]; first | done | rfl | (and_intros <;> rfl))
    | (trace_state; fail))
end Go.Proofs.Ytcibheinilkcoaa
