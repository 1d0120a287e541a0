/- Part T of the small logic: small words on whole numbers. No conditions. -/
import Derived.Test.YtcibheinilkcoaaVcSa
namespace Go.Vq
open Go.RowKit

section
variable (Γ : Ctx) (ty : List (Nat × Td)) (kp : List Nat) (sl : List (Nat × V)) (ob : List (Nat × Ob)) (Q : AEx → St → Prop)
theorem vcO_nil (draw : Bool) (all : List Oper) (K : St → Prop) : vcOps Γ ty draw all [] ⟨sl, ob⟩ K = K ⟨sl, ob⟩ := by cases sl <;> rfl
theorem vcO_cons (draw : Bool) (all r : List Oper) (o : Oper) (K : St → Prop) : vcOps Γ ty draw all (o :: r) ⟨sl, ob⟩ K = match o.guard with
    | none => stepK Γ ty draw o ⟨sl, ob⟩ fun σ => vcOps Γ ty draw all r σ K
    | some (j, want) => match (all[j]?).bind (·.dst) with
      | some d => match look sl d with
        | some (.one (.bool b)) => if b = want then stepK Γ ty draw o ⟨(d, .one (.bool want)) :: sl, ob⟩ fun σ => vcOps Γ ty draw all r σ K
            else vcOps Γ ty draw all r ((⟨(d, .one (.bool !want)) :: sl, ob⟩ : St).put o.dst (.one .und)) K
        | some (.one .und) => vcOps Γ ty draw all r ((⟨sl, ob⟩ : St).put o.dst (.one .und)) K
        | _ => False
      | none => False := by cases sl <;> rfl
theorem vc_skip : vc Γ ty kp .skip Q ⟨sl, ob⟩ = Q .normal ⟨sl, ob⟩ := by cases sl <;> rfl
theorem vc_seq (c d : Code) : vc Γ ty kp (.seq c d) Q ⟨sl, ob⟩ = vc Γ ty kp c (fun e σ => match e with
    | .normal => vc Γ ty kp d Q σ
    | e => Q e σ) ⟨sl, ob⟩ := by cases sl <;> rfl
theorem vc_cond (c : Operand) (y z : Code) : vc Γ ty kp (.cond c y z) Q ⟨sl, ob⟩ = match ev ⟨sl, ob⟩ c with
    | .one (.bool b) => if b = true then vc Γ ty kp y Q ⟨sl, ob⟩ else vc Γ ty kp z Q ⟨sl, ob⟩
    | _ => False := by cases sl <;> rfl
theorem vc_block (id : Nat) (c : Code) : vc Γ ty kp (.block id c) Q ⟨sl, ob⟩ = vc Γ ty kp c (fun e σ => match e with
    | .exit i => if i = id then Q .normal σ else Q (.exit i) σ
    | e => Q e σ) ⟨sl, ob⟩ := by cases sl <;> rfl
theorem vc_loop (c : Code) : vc Γ ty kp (.loop c) Q ⟨sl, ob⟩ = ∃ (α : Type) (x0 : α) (m : α → Nat) (f : α → St), St.le ⟨sl, ob⟩ (f x0) ∧ ∀ y, vc Γ ty kp c (fun e σ => match e with
    | .normal => ∃ z, m z < m y ∧ σ.le (f z)
    | e => Q e σ) (f y) := by cases sl <;> rfl
theorem vc_exit (id : Nat) : vc Γ ty kp (.exit id) Q ⟨sl, ob⟩ = Q (.exit id) ⟨sl, ob⟩ := by cases sl <;> rfl
theorem vc_ret : vc Γ ty kp .ret Q ⟨sl, ob⟩ = Q .ret ⟨sl, ob⟩ := by cases sl <;> rfl
theorem put_one (d : Nat) (s : Sc) : St.put ⟨sl, ob⟩ (some d) (.one s) = ⟨(d, .one s) :: sl, ob⟩ := by cases sl <;> rfl
theorem put_agg (d : Nat) (s : List Sc) : St.put ⟨sl, ob⟩ (some d) (.agg s) = ⟨(d, .agg s) :: sl, ob⟩ := by cases sl <;> rfl
theorem put_tup (d : Nat) (s : List (Bool × List Sc)) : St.put ⟨sl, ob⟩ (some d) (.tup s) = ⟨(d, .tup s) :: sl, ob⟩ := by cases sl <;> rfl
theorem put_none (V : V) : St.put ⟨sl, ob⟩ none V = ⟨sl, ob⟩ := by cases sl <;> rfl
end
theorem w64 {x : Int} (h : -9223372036854775808 ≤ x) (h' : x ≤ 9223372036854775807) : IntKind.i64.wrap x = x := Go.IntWalk.i64_in x ⟨h, h'⟩
/-! ### Part U of the small logic: the same, step by step, for a driver. No conditions. -/
/-- what an operation that leaves the world alone gives, as data -/
inductive Rz where
  | bad
  | val (V : V)
  | req (p : Prop) (V : V)
  | sel (t : Bool) (a b : V)
  | row (p : Prop) (ks : List Kd) (rows : List (List C)) (i : Nat) (g : List C → Option V)
def Rz.holds (K : V → Prop) : Rz → Prop
  | .bad => False
  | .val V => K V
  | .req p V => p ∧ K V
  | .sel t a b => if t = true then K a else K b
  | .row p ks rows i g => p ∧ allShape ks fun row => rows[i]? = some row → match g row with
    | some V => K V
    | none => False
def intR (op : BinOp) (k : IntKind) (a b : Int) : Rz := match op with
  | .add => .val (.one (.int k (k.wrap (a + b))))
  | .sub => .val (.one (.int k (k.wrap (a - b))))
  | .mul => .val (.one (.int k (k.wrap (a * b))))
  | .quo => .req (b ≠ 0) (.one (.int k (k.wrap (a.tdiv b))))
  | .rem => .req (b ≠ 0) (.one (.int k (a.tmod b)))
  | .eql => .val (.one (.bool (decide (a = b))))
  | .neq => .val (.one (.bool (!decide (a = b))))
  | .lss => .val (.one (.bool (decide (a < b))))
  | .leq => .val (.one (.bool (decide (a ≤ b))))
  | .gtr => .val (.one (.bool (decide (b < a))))
  | .geq => .val (.one (.bool (decide (b ≤ a))))
  | .and | .or | .xor | .andNot => .val (.one (.int k (bits op k a b)))
  | .shl => .req (0 ≤ b ∧ b ≤ k.bits) (.one (.int k (k.wrap (a * 2 ^ b.toNat))))
  | .shr => .req (0 ≤ b ∧ b ≤ k.bits) (.one (.int k (a / 2 ^ b.toNat)))
def boolR (op : BinOp) (a b : Bool) : Rz := match op with
  | .eql => .val (.one (.bool (a == b)))
  | .neq => .val (.one (.bool (!(a == b))))
  | _ => .bad
def cutR (g : Bool) (n : Nat) (ss : List Sc) : Option V := match g, ss.take n with
  | true, l => if l.length = n then some (.agg l) else none
  | false, [s] => if n = 1 then some (.one s) else none
  | _, _ => none
def optR : Option V → Rz
  | some V => .val V
  | none => .bad
def fillR (flds : List (Nat × Nat × Bool)) : List Sc → List (Nat × V) → Option (List Sc)
  | ss, [] => some ss
  | ss, (f, V) :: r => match flds[f]? with
    | none => none
    | some (o, n, _) => match V with
      | .one .any => none
      | .one .und => none
      | .one s => if n = 1 ∧ o < ss.length then fillR flds (ss.set o s) r else none
      | .agg us => if us.length = n ∧ o + n ≤ ss.length then fillR flds (ss.take o ++ us ++ ss.drop (o + n)) r else none
      | .tup _ => none
def callR (ty : List (Nat × Td)) (c : Callee) (args : List Operand) (ts : List TypeId) (σ : St) : Rz := match c, args, ts with
  | .builtin .len, [x], [t] => match look ty t, ev σ x with
    | some ⟨.slice _, _, _⟩, .one s => match lenS σ.ob s with
      | some n => .val (.one (.int .i64 n))
      | none => .bad
    | _, _ => .bad
  | .builtin .min, [x, y], _ => match ev σ x, ev σ y with
    | .one (.int k a), .one (.int _ b) => .val (.one (.int k (if b < a then b else a)))
    | _, _ => .bad
  | .builtin .max, [x, y], _ => match ev σ x, ev σ y with
    | .one (.int k a), .one (.int _ b) => .val (.one (.int k (if b > a then b else a)))
    | _, _ => .bad
  | _, _, _ => .bad
def subR (rows : List (List C)) (lo hi : V) (f : List (List C) → V) : Rz := match lo, hi with
  | .one (.int _ l), .one (.int _ h) => .req (0 ≤ l ∧ l ≤ h ∧ h ≤ rows.length) (f ((rows.take h.toNat).drop l.toNat))
  | _, _ => .bad
def loV (σ : St) : Option Operand → V
  | none => .one (.int .i64 0)
  | some l => ev σ l
def hiV (σ : St) (n : Nat) : Option Operand → V
  | none => .one (.int .i64 n)
  | some h => ev σ h
def eqR : List Sc → List Sc → ((p : Prop) → Decidable p → Rz) → Rz
  | [.int k a], [.int k' b], K => if k = k' then K (a = b) inferInstance else .bad
  | .int k a :: r, .int k' b :: r', K => if k = k' then eqR r r' fun p d => K (a = b ∧ p) (@instDecidableAnd _ _ inferInstance d) else .bad
  | _, _, _ => .bad
def eqZ (op : BinOp) (ss ts : List Sc) : Rz := match op with
  | .eql => eqR ss ts fun p d => .val (.one (.bool (@decide p d)))
  | .neq => eqR ss ts fun p d => .val (.one (.bool (!(@decide p d))))
  | _ => .bad
def stillR (ty : List (Nat × Td)) (op : Op) (σ : St) : Rz := match op with
  | .move x | .assign x => .val (ev σ x)
  | .pick c a b => match ev σ c with
    | .one (.bool t) => match ev σ a, ev σ b with
      | .one (.bool p), .one (.bool q) => .val (.one (.bool (bif t then p else q)))
      | va, vb => .sel t va vb
    | _ => .bad
  | .nilCheck x => match ev σ x with
    | .one (.bx i o) => .val (.one (.bx i o))
    | .one (.rp cs) => .val (.one (.rp cs))
    | .one (.vp i cs) => .val (.one (.vp i cs))
    | .one (.ep i j o) => .val (.one (.ep i j o))
    | _ => .bad
  | .unOp .not _ x => match ev σ x with
    | .one (.bool b) => .val (.one (.bool !b))
    | _ => .bad
  | .unOp .neg _ x => match ev σ x with
    | .one (.int k n) => .val (.one (.int k (k.wrap (0 - n))))
    | _ => .bad
  | .binOp op xt x y _ => match ev σ x, ev σ y with
    | .one (.int k a), .one (.int k' b) => if k = k' then intR op k a b else (match op with
      | .shl => intR .shl k a b
      | .shr => intR .shr k a b
      | _ => .bad)
    | .one (.bool a), .one (.bool b) => match look ty xt with
      | some ⟨.bool, _, _⟩ => boolR op a b
      | _ => .bad
    | .agg ss, .agg ts => match look ty xt with
      | some ⟨.struct _, ks, _⟩ => if ks.all Kd.intB = true ∧ ss.length = ks.length then eqZ op ss ts else .bad
      | _ => .bad
    | _, _ => .bad
  | .convert src dst x => match ev σ x, look ty dst with
    | .one (.int _ n), some ⟨.int k', _, _⟩ => match look ty src with
      | some _ => .val (.one (.int k' (k'.wrap n)))
      | none => .bad
    | _, _ => .bad
  | .field t x f => match ev σ x, look ty t with
    | .agg ss, some ⟨.struct flds, _, _⟩ => match flds[f]? with
      | some (o, n, g) => optR (cutR g n (ss.drop o))
      | none => .bad
    | _, _ => .bad
  | .fieldAddr t x f => match look ty t with
    | some ⟨.struct flds, _, _⟩ => match flds[f]? with
      | some (_, 0, _) => .bad
      | some (o, _ + 1, _) => match ev σ x with
        | .one (.bx i o') => .val (.one (.bx i (o' + o)))
        | .one (.ep i j o') => .val (.one (.ep i j (o' + o)))
        | .one (.rp cs) => .val (.one (.rp (cs.drop o)))
        | .one (.vp i cs) => .val (.one (.vp i (cs.drop o)))
        | _ => .bad
      | none => .bad
    | _ => .bad
  | .indexAddr t x i => match look ty t, ev σ i with
    | some ⟨.slice e, _, _⟩, .one (.int _ n) => match look ty e with
      | some d => match ev σ x with
        | .one (.ro ks rows) => if d.ks.length = ks.length then .row (0 ≤ n ∧ n < rows.length) ks rows n.toNat fun row => some (.one (.rp row)) else .bad
        | .one (.vw id ks rows) => if d.ks.length = ks.length then .row (0 ≤ n ∧ n < rows.length) ks rows n.toNat fun row => some (.one (.vp id row)) else .bad
        | .one (.root id) => match look σ.ob id with
          | some (.row _ ks rows) => if d.ks.length = ks.length then .req (0 ≤ n ∧ n < rows.length) (.one (.ep id n.toNat 0)) else .bad
          | _ => .bad
        | .one (.xr ks rows) => if d.ks.length = ks.length then .row (0 ≤ n ∧ n < rows.length) ks rows n.toNat fun row => some (.one (.xp row)) else .bad
        | _ => .bad
      | none => .bad
    | _, _ => .bad
  | .load t p => match look ty t with
    | some d => match ev σ p with
      | .one (.bx id off) => match look σ.ob id with
        | some (.box ss) => optR (cutR d.sh.agg d.ks.length (ss.drop off))
        | _ => .bad
      | .one (.rp cs) => optR (cutR d.sh.agg d.ks.length (cs.map C.toS))
      | .one (.vp id cs) => optR (cutR d.sh.agg d.ks.length (cs.map (C.toW id)))
      | .one (.ep id i off) => match look σ.ob id with
        | some (.row _ ks rows) => .row (i < rows.length) ks rows i fun row => cutR d.sh.agg d.ks.length ((row.drop off).map (C.toW id))
        | _ => .bad
      | .one (.xp cs) => optR (cutR d.sh.agg d.ks.length (cs.map C.toX))
      | _ => .bad
    | none => .bad
  | .extract x i => match ev σ x with
    | .tup ps => match ps[i]? with
      | some (true, ss) => .val (.agg ss)
      | some (false, [s]) => .val (.one s)
      | _ => .bad
    | _ => .bad
  | .build t parts => match look ty t with
    | some ⟨.struct flds, ks, _⟩ => match fillR flds (ks.map Kd.zeroS) (parts.toList.map fun p => (p.1, ev σ p.2)) with
      | some ss => .val (.agg ss)
      | none => .bad
    | _ => .bad
  | .slice t x lo hi mx => match look ty t, mx with
    | some ⟨.slice e, _, _⟩, none => match look ty e with
      | some d => match ev σ x with
        | .one (.ro ks rows) => if d.ks.length = ks.length then subR rows (loV σ lo) (hiV σ rows.length hi) fun r => .one (.ro ks r) else .bad
        | .one (.vw id ks rows) => if d.ks.length = ks.length then subR rows (loV σ lo) (hiV σ rows.length hi) fun r => .one (.vw id ks r) else .bad
        | .one .nil => subR [] (loV σ lo) (hiV σ 0 hi) fun _ => .one .nil
        | .one (.root id) => match look σ.ob id with
          | some (.row _ ks rows) => if d.ks.length = ks.length then subR rows (loV σ lo) (hiV σ rows.length hi) fun r => .one (.vw id ks r) else .bad
          | _ => .bad
        | _ => .bad
      | none => .bad
    | _, _ => .bad
  | .call c => callR ty c.callee c.args.toList c.argTypes.toList σ
  | _ => .bad

section
variable {ty : List (Nat × Td)} {o : Oper} {σ : St} {K : V → Prop}
theorem intR_ok {op : BinOp} {k : IntKind} {a b : Int} (h : (intR op k a b).holds K) : intB op k a b K := by
  cases op <;> exact h
theorem cutR_ok {g : Bool} {n : Nat} {ss : List Sc} (h : (optR (cutR g n ss)).holds K) : cut g n ss K := by
  unfold cutR at h
  unfold cut
  split at h
  · split at h
    · rename_i hl; exact ⟨hl, h⟩
    · exact h.elim
  · rename_i heq
    rw [heq]
    split at h
    · rename_i hl; exact ⟨hl, h⟩
    · exact h.elim
  · exact h.elim
theorem cutR_ok' {g : Bool} {n : Nat} {ss : List Sc} (h : match cutR g n ss with | some V => K V | none => False) : cut g n ss K := by
  refine cutR_ok ?_
  cases hq : cutR g n ss with
  | none => rw [hq] at h; exact h.elim
  | some V => rw [hq] at h; exact h
theorem fillR_ok {flds : List (Nat × Nat × Bool)} {K : List Sc → Prop} : ∀ {parts : List (Nat × V)} {ss ss' : List Sc}, fillR flds ss parts = some ss' → K ss' → fillS flds ss parts K
  | [], ss, ss', h, hk => by simp only [fillR, Option.some.injEq] at h; subst h; exact hk
  | (f, V) :: r, ss, ss', h, hk => by
    simp only [fillR] at h
    simp only [fillS]
    split at h
    · cases h
    · rename_i o n g hf
      simp only [hf]
      split at h
      · cases h
      · cases h
      · rename_i s hs hs2
        split at h
        · rename_i hc
          refine ⟨?_, hc.1, hc.2, fillR_ok h hk⟩
          cases s <;> first | trivial | exact (hs rfl).elim | exact (hs2 rfl).elim
        · cases h
      · split at h
        · rename_i hc; exact ⟨hc.1, hc.2, fillR_ok h hk⟩
        · cases h
      · cases h
theorem allShape_mono {ks : List Kd} {p q : List C → Prop} (h : ∀ r, p r → q r) (hs : allShape ks p) : allShape ks q := by
  induction ks generalizing p q with
  | nil => exact h _ hs
  | cons k ks ih =>
    cases k with
    | int κ => exact fun n => ih (fun r => h _) (hs n)
    | bool => exact fun b => ih (fun r => h _) (hs b)
    | sl ks' => exact fun rows => ih (fun r => h _) (hs rows)
    | ref => exact fun c hc => ih (fun r => h _) (hs c hc)
def subP (rows : List (List C)) (f : List (List C) → V) (K : V → Prop) : V → V → Prop
  | .one (.int _ l), .one (.int _ h) => 0 ≤ l ∧ l ≤ h ∧ h ≤ rows.length ∧ K (f ((rows.take h.toNat).drop l.toNat))
  | _, _ => False
theorem subR_ok {rows : List (List C)} {lo hi : V} {f : List (List C) → V} (hr : (subR rows lo hi f).holds K) : subP rows f K lo hi := by
  unfold subR at hr
  split at hr
  · exact ⟨hr.1.1, hr.1.2.1, hr.1.2.2, hr.2⟩
  · exact hr.elim
theorem eqR_ok : ∀ {ss ts : List Sc} {K' : (p : Prop) → Decidable p → Rz}, (eqR ss ts K').holds K → eqP ss ts fun p d => (K' p d).holds K := by
  intro ss
  induction ss with
  | nil => intro ts K' h; cases ts <;> exact h.elim
  | cons s ss ih =>
    intro ts K' h
    cases ts with
    | nil => cases s <;> cases ss <;> exact h.elim
    | cons t ts =>
      cases s with
      | int k a =>
        cases t with
        | int k' b =>
          cases ss with
          | nil =>
            cases ts with
            | nil =>
              simp only [eqR] at h
              simp only [eqP]
              split at h
              · rename_i hk; exact ⟨hk, h⟩
              · exact h.elim
            | cons t' ts' => simp only [eqR] at h; split at h <;> exact h.elim
          | cons s' ss' =>
            cases ts with
            | nil => simp only [eqR] at h; split at h <;> exact h.elim
            | cons t' ts' =>
              simp only [eqR] at h
              simp only [eqP]
              split at h
              · rename_i hk; exact ⟨hk, ih h⟩
              · exact h.elim
        | _ => cases ss <;> cases ts <;> exact h.elim
      | _ => cases ss <;> cases ts <;> exact h.elim
theorem stillR_ok (h : (stillR ty o.op σ).holds K) : still ty o σ K := by
  cases ho : o.op with
  | move x => rw [ho] at h; simp only [still, ho]; exact h
  | assign x => rw [ho] at h; simp only [still, ho]; exact h
  | pick c a b =>
    rw [ho] at h; simp only [still, ho]; simp only [stillR] at h
    generalize ev σ c = X at *
    generalize ev σ a = Y at *
    generalize ev σ b = Z at *
    (repeat' split at h) <;> (try exact h.elim) <;> (repeat' split) <;> simp_all [Rz.holds]
  | nilCheck x =>
    rw [ho] at h; simp only [still, ho]; simp only [stillR] at h
    generalize ev σ x = X at *
    split at h <;> first | exact h | exact h.elim
  | unOp op t x =>
    cases op with
    | not =>
      rw [ho] at h; simp only [still, ho]; simp only [stillR] at h
      generalize ev σ x = X at *
      split at h
      · exact h
      · exact h.elim
    | neg =>
      rw [ho] at h; simp only [still, ho]; simp only [stillR] at h
      generalize ev σ x = X at *
      split at h
      · exact h
      · exact h.elim
    | _ => rw [ho] at h; exact h.elim
  | binOp op t x y t' =>
    rw [ho] at h; simp only [still, ho]; simp only [stillR] at h
    generalize ev σ x = X at *
    generalize ev σ y = Y at *
    split at h
    · split at h
      · rename_i hk; exact ⟨.inl hk, intR_ok h⟩
      · split at h
        · exact ⟨.inr (.inl rfl), intR_ok h⟩
        · exact ⟨.inr (.inr rfl), intR_ok h⟩
        · exact h.elim
    · split at h
      · rename_i hl; simp only [hl]; cases op <;> exact h
      · exact h.elim
    · split at h
      · rename_i hl; simp only [hl]
        split at h
        · rename_i hc
          refine ⟨hc.1, hc.2, ?_⟩
          cases op <;> first | exact h.elim | exact eqR_ok h
        · exact h.elim
      · exact h.elim
    · exact h.elim
  | convert s t x =>
    rw [ho] at h; simp only [still, ho]; simp only [stillR] at h
    generalize ev σ x = X at *
    split at h
    · rename_i hl
      split at h
      · rename_i hl2; simp only [hl, hl2]; exact ⟨rfl, h⟩
      · exact h.elim
    · exact h.elim
  | field t x f =>
    rw [ho] at h; simp only [still, ho]; simp only [stillR] at h
    generalize ev σ x = X at *
    split at h
    · rename_i hl
      split at h
      · rename_i hf; simp only [hl, hf]; exact cutR_ok h
      · exact h.elim
    · exact h.elim
  | fieldAddr t x f =>
    rw [ho] at h; simp only [still, ho]; simp only [stillR] at h
    generalize ev σ x = X at *
    split at h
    · rename_i hl
      split at h
      · exact h.elim
      · rename_i hf; simp only [hl, hf]
        refine ⟨by omega, ?_⟩
        split at h <;> first | exact h | exact h.elim
      · exact h.elim
    · exact h.elim
  | indexAddr t x i =>
    rw [ho] at h; simp only [still, ho]; simp only [stillR] at h
    generalize ev σ x = X at *
    generalize ev σ i = I at *
    split at h
    · rename_i hl
      split at h
      · rename_i d hd; simp only [hl, hd]
        split at h
        · split at h
          · rename_i hk; exact ⟨hk, h.1.1, h.1.2, h.2⟩
          · exact h.elim
        · split at h
          · rename_i hk; exact ⟨hk, h.1.1, h.1.2, h.2⟩
          · exact h.elim
        · split at h
          · rename_i hob; simp only [hob]
            split at h
            · rename_i hk; exact ⟨hk, h.1.1, h.1.2, h.2⟩
            · exact h.elim
          · exact h.elim
        · split at h
          · rename_i hk; exact ⟨hk, h.1.1, h.1.2, h.2⟩
          · exact h.elim
        · exact h.elim
      · exact h.elim
    · exact h.elim
  | load t p =>
    rw [ho] at h; simp only [still, ho]; simp only [stillR] at h
    generalize ev σ p = X at *
    split at h
    · rename_i d hd; simp only [hd]
      split at h
      · split at h
        · rename_i hob; simp only [hob]; exact cutR_ok h
        · exact h.elim
      · exact cutR_ok h
      · exact cutR_ok h
      · split at h
        · rename_i hob; simp only [hob]
          exact ⟨h.1, allShape_mono (fun r hr he => cutR_ok' (hr he)) h.2⟩
        · exact h.elim
      · exact cutR_ok h
      · exact h.elim
    · exact h.elim
  | extract x i =>
    rw [ho] at h; simp only [still, ho]; simp only [stillR] at h
    generalize ev σ x = X at *
    split at h
    · split at h
      · rename_i hp; simp only [hp]; exact h
      · rename_i hp; simp only [hp]; exact h
      · exact h.elim
    · exact h.elim
  | build t parts =>
    rw [ho] at h; simp only [still, ho]; simp only [stillR] at h
    split at h
    · rename_i hl
      split at h
      · rename_i hf; simp only [hl]; exact fillR_ok hf h
      · exact h.elim
    · exact h.elim
  | slice t x lo hi mx =>
    rw [ho] at h; simp only [still, ho]; simp only [stillR] at h
    generalize ev σ x = X at *
    split at h
    · rename_i hl
      split at h
      · rename_i d hd; simp only [hl, hd]
        split at h
        · split at h
          · rename_i hk; exact ⟨hk, by have hq := subR_ok h; clear h; cases lo <;> cases hi <;> exact hq⟩
          · exact h.elim
        · split at h
          · rename_i hk; exact ⟨hk, by have hq := subR_ok h; clear h; cases lo <;> cases hi <;> exact hq⟩
          · exact h.elim
        · have hq := subR_ok h; clear h; cases lo <;> cases hi <;> exact hq
        · split at h
          · rename_i hob; simp only [hob]
            split at h
            · rename_i hk; exact ⟨hk, .inl (by have hq := subR_ok h; clear h; cases lo <;> cases hi <;> exact hq)⟩
            · exact h.elim
          · exact h.elim
        · exact h.elim
      · exact h.elim
    · exact h.elim
  | call c =>
    rw [ho] at h; simp only [still, ho]; simp only [stillR] at h
    unfold callR at h
    unfold stillCall
    generalize c.callee = X1 at *
    generalize c.args.toList = X2 at *
    generalize c.argTypes.toList = X3 at *
    split at h
    · split at h
      · rename_i hl he; simp only [hl, he]
        split at h
        · rename_i hn; simp only [hn]; exact h
        · exact h.elim
      · exact h.elim
    · split at h
      · rename_i h1 h2; simp only [h1, h2]; exact h
      · exact h.elim
    · split at h
      · rename_i h1 h2; simp only [h1, h2]; exact h
      · exact h.elim
    · exact h.elim
  | _ => rw [ho] at h; exact h.elim
end
end Go.Vq
