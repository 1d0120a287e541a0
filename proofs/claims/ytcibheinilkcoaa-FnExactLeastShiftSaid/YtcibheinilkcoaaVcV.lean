/- Part V of the small logic: a machine of one step at a time. No conditions. -/
import Derived.Test.YtcibheinilkcoaaVcT
namespace Go.Vq
open Go.RowKit

inductive Kont where
  | done (ts : List RV) (r : Rs) (os : List Mo)
  | seq (d : Code) (k : Kont)
  | blk (id : Nat) (k : Kont)
  | lp (le : St → Prop) (k : Kont)
theorem allC_ok (P : Program) : ∀ x, CtxOk P x ⟨P, false⟩ := fun _ => ⟨rfl, fun e => by cases e⟩

section
variable (P : Program) (wv : Bool) (ty : List (Nat × Td)) (kp : List Nat)
def goK : Kont → AEx → St → Prop
  | .done ts r os, e, σ => finK ts r os e σ
  | .seq d k, e, σ => match e with
    | .normal => vc ⟨P, wv⟩ ty kp d (goK k) σ
    | e => goK k e σ
  | .blk id k, e, σ => match e with
    | .exit i => if i = id then goK k .normal σ else goK k (.exit i) σ
    | e => goK k e σ
  | .lp le k, e, σ => match e with
    | .normal => le σ
    | e => goK k e σ
def At (c : Code) (k : Kont) (σ : St) : Prop := vc ⟨P, wv⟩ ty kp c (goK P wv ty kp k) σ
def AtO (draw : Bool) (all rest : List Oper) (k : Kont) (σ : St) : Prop := vcOps ⟨P, wv⟩ ty draw all rest σ fun σ => goK P wv ty kp k .normal (σ.keep kp)
end

section
variable {P : Program} {wv : Bool} {ty : List (Nat × Td)} {kp : List Nat} {k : Kont} {σ : St} {sl : List (Nat × V)} {ob : List (Nat × Ob)}
theorem g_seq {c d : Code} (h : At P wv ty kp c (.seq d k) σ) : At P wv ty kp (.seq c d) k σ := by
  have e : goK P wv ty kp (.seq d k) = fun e σ => match e with
    | .normal => vc ⟨P, wv⟩ ty kp d (goK P wv ty kp k) σ
    | e => goK P wv ty kp k e σ := by funext e σ; simp only [goK]
  unfold At at h
  rw [e] at h
  exact h
theorem g_block {id : Nat} {c : Code} (h : At P wv ty kp c (.blk id k) σ) : At P wv ty kp (.block id c) k σ := by
  have e : goK P wv ty kp (.blk id k) = fun e σ => match e with
    | .exit i => if i = id then goK P wv ty kp k .normal σ else goK P wv ty kp k (.exit i) σ
    | e => goK P wv ty kp k e σ := by funext e σ; simp only [goK]
  unfold At at h
  rw [e] at h
  exact h
theorem g_loop {c : Code} {α : Type} (x0 : α) (m : α → Nat) (f : α → St) (h0 : σ.le (f x0)) (h : ∀ y, At P wv ty kp c (.lp (fun σ => ∃ z, m z < m y ∧ σ.le (f z)) k) (f y)) : At P wv ty kp (.loop c) k σ := by
  refine ⟨α, x0, m, f, h0, fun y => ?_⟩
  have e : goK P wv ty kp (.lp (fun σ => ∃ z, m z < m y ∧ σ.le (f z)) k) = fun e σ => match e with
    | .normal => ∃ z, m z < m y ∧ σ.le (f z)
    | e => goK P wv ty kp k e σ := by funext e σ; simp only [goK]
  have := h y
  unfold At at this
  rw [e] at this
  exact this
theorem g_cond {c : Operand} {y z : Code} {b : Bool} (hc : ev σ c = .one (.bool b)) (h1 : b = true → At P wv ty kp y k σ) (h2 : b = false → At P wv ty kp z k σ) : At P wv ty kp (.cond c y z) k σ := by
  unfold At
  simp only [vc, hc]
  cases b with
  | true => exact h1 rfl
  | false => exact h2 rfl
theorem g_cond_t {c : Operand} {y z : Code} (hc : ev σ c = .one (.bool true)) (h1 : At P wv ty kp y k σ) : At P wv ty kp (.cond c y z) k σ := g_cond hc (fun _ => h1) (fun e => by cases e)
theorem g_cond_f {c : Operand} {y z : Code} (hc : ev σ c = .one (.bool false)) (h1 : At P wv ty kp z k σ) : At P wv ty kp (.cond c y z) k σ := g_cond hc (fun e => by cases e) (fun _ => h1)
theorem g_skip (h : goK P wv ty kp k .normal σ) : At P wv ty kp .skip k σ := h
theorem g_exit {i : Nat} (h : goK P wv ty kp k (.exit i) σ) : At P wv ty kp (.exit i) k σ := h
theorem g_ret (h : goK P wv ty kp k .ret σ) : At P wv ty kp .ret k σ := h
theorem g_region {id : Nat} {l : List Oper} {draw : Bool} (hb : (draw && effB ty l) = false) (h : AtO P wv ty kp draw l l k σ) : At P wv ty kp (.region id l.toArray draw) k σ := by
  unfold At
  simp only [vc, hb]
  exact h
/-- a region that draws its order, whose calls make memory: in one order -/
theorem g_line {id : Nat} {ops : Array Oper} {draw : Bool} (hb : (draw && effB ty ops.toList) = true) (p : List Nat) (hp : ordOk ops p = true) (h : AtO P wv ty kp true ops.toList (pick ops p) k σ) : At P wv ty kp (.region id ops draw) k σ := by
  unfold At
  simp only [vc, hb]
  exact .inr (.inl ⟨p, hp, h⟩)
/-- a region that draws its order, and makes or changes memory -/
theorem g_draw {id : Nat} {ops : Array Oper} {draw : Bool} (hb : (draw && effB ty ops.toList) = true) (τ : St) {ps : List (List Nat)} (hps : ordsOk ops ps = true) (h : ∀ p ∈ ps, AtO P wv ty kp false ops.toList (pick ops p) (.lp (fun σ => σ.le τ) k) σ) (h2 : goK P wv ty kp k .normal τ) : At P wv ty kp (.region id ops draw) k σ := by
  unfold At
  simp only [vc, hb]
  refine .inl ⟨τ, ps, hps, fun p hp => ?_, h2⟩
  have := h p hp
  unfold AtO at this
  simp only [goK] at this
  exact this
/-- the same, its calls change nothing: operations that read what nobody changes come first -/
theorem g_drawX {id : Nat} {ops : Array Oper} {draw : Bool} (hb : (draw && effB ty ops.toList) = true) (τ : St) {ps : List (List Nat)} (hps : ordsX ops ps = true) (h : ∀ p ∈ ps, AtO P wv ty kp true ops.toList (pick ops p) (.lp (fun σ => σ.le τ) k) σ) (h2 : goK P wv ty kp k .normal τ) : At P wv ty kp (.region id ops draw) k σ := by
  unfold At
  simp only [vc, hb]
  refine .inr (.inr (.inr ⟨τ, ps, hps, fun p hp => ?_, h2⟩))
  have := h p hp
  unfold AtO at this
  simp only [goK] at this
  exact this
theorem g_lineX {id : Nat} {ops : Array Oper} {draw : Bool} (hb : (draw && effB ty ops.toList) = true) {ps : List (List Nat)} (hps : ordsX ops ps = true) (h : ∀ p ∈ ps, AtO P wv ty kp true ops.toList (pick ops p) k σ) : At P wv ty kp (.region id ops draw) k σ := by
  unfold At
  simp only [vc, hb]
  exact .inr (.inr (.inl ⟨ps, hps, h⟩))
theorem k_seq_n {d : Code} (h : At P wv ty kp d k σ) : goK P wv ty kp (.seq d k) .normal σ := by simp only [goK]; exact h
theorem k_seq_x {d : Code} {i : Nat} (h : goK P wv ty kp k (.exit i) σ) : goK P wv ty kp (.seq d k) (.exit i) σ := by simp only [goK]; exact h
theorem k_seq_r {d : Code} (h : goK P wv ty kp k .ret σ) : goK P wv ty kp (.seq d k) .ret σ := by simp only [goK]; exact h
theorem k_blk_n {id : Nat} (h : goK P wv ty kp k .normal σ) : goK P wv ty kp (.blk id k) .normal σ := by simp only [goK]; exact h
theorem k_blk_r {id : Nat} (h : goK P wv ty kp k .ret σ) : goK P wv ty kp (.blk id k) .ret σ := by simp only [goK]; exact h
theorem k_blk_hit {id : Nat} (h : goK P wv ty kp k .normal σ) : goK P wv ty kp (.blk id k) (.exit id) σ := by simp only [goK, if_true]; exact h
theorem k_blk_miss {id i : Nat} (hi : Nat.beq i id = false) (h : goK P wv ty kp k (.exit i) σ) : goK P wv ty kp (.blk id k) (.exit i) σ := by
  have : ¬ i = id := fun e => by subst e; simp at hi
  simp only [goK, this, if_false]; exact h
theorem k_lp_n {le : St → Prop} (h : le σ) : goK P wv ty kp (.lp le k) .normal σ := by simp only [goK]; exact h
theorem k_lp_x {le : St → Prop} {i : Nat} (h : goK P wv ty kp k (.exit i) σ) : goK P wv ty kp (.lp le k) (.exit i) σ := by simp only [goK]; exact h
theorem k_lp_r {le : St → Prop} (h : goK P wv ty kp k .ret σ) : goK P wv ty kp (.lp le k) .ret σ := by simp only [goK]; exact h
theorem k_done_r {ts : List RV} {r : Rs} {Vs : List V} (hv : rvs σ ts = some Vs) (h : fin σ.ob Vs r) : goK P wv ty kp (.done ts r []) .ret σ := by simp only [goK, finK, hv]; exact ⟨h, trivial⟩
theorem k_done_n {ts : List RV} {r : Rs} {Vs : List V} (hv : rvs σ ts = some Vs) (h : fin σ.ob Vs r) : goK P wv ty kp (.done ts r []) .normal σ := by simp only [goK, finK, hv]; exact ⟨h, trivial⟩
theorem k_done_rm {ts : List RV} {r : Rs} {Vs : List V} {o : Mo} {os : List Mo} (hv : rvs σ ts = some Vs) (h : fin σ.ob Vs r) (ho : finO σ.ob 500000 (o :: os)) (hl : lowB (ids (resM Vs r)) = true) : goK P wv ty kp (.done ts r (o :: os)) .ret σ := by simp only [goK, finK, hv]; exact ⟨h, ho, hl⟩
theorem k_done_nm {ts : List RV} {r : Rs} {Vs : List V} {o : Mo} {os : List Mo} (hv : rvs σ ts = some Vs) (h : fin σ.ob Vs r) (ho : finO σ.ob 500000 (o :: os)) (hl : lowB (ids (resM Vs r)) = true) : goK P wv ty kp (.done ts r (o :: os)) .normal σ := by simp only [goK, finK, hv]; exact ⟨h, ho, hl⟩

/-! ### operations -/
variable {draw : Bool} {all rest : List Oper} {o : Oper}
theorem o_nil {sl' : List (Nat × V)} {ob' : List (Nat × Ob)} (h1 : keepSl sl kp = sl') (h2 : keepOb ob [] = ob') (h : goK P wv ty kp k .normal ⟨sl', ob'⟩) : AtO P wv ty kp draw all [] k ⟨sl, ob⟩ := by
  subst h1; subst h2; exact h
/-- what one operation asks, whatever its guard -/
def Do (P : Program) (wv : Bool) (ty : List (Nat × Td)) (kp : List Nat) (draw : Bool) (all rest : List Oper) (k : Kont) (o : Oper) (σ : St) : Prop := stepK ⟨P, wv⟩ ty draw o σ fun σ => AtO P wv ty kp draw all rest k σ
theorem o_run (hg : o.guard = none) (h : Do P wv ty kp draw all rest k o ⟨sl, ob⟩) : AtO P wv ty kp draw all (o :: rest) k ⟨sl, ob⟩ := by
  unfold AtO
  simp only [vcOps, hg]
  exact h
theorem o_guard {j d : Nat} {want b : Bool} (hg : o.guard = some (j, want)) (hj : (all[j]?).bind (·.dst) = some d) (hl : look sl d = some (.one (.bool b)))
    (h1 : b = want → Do P wv ty kp draw all rest k o ⟨(d, .one (.bool want)) :: sl, ob⟩) (h2 : b = !want → AtO P wv ty kp draw all rest k ((⟨(d, .one (.bool !want)) :: sl, ob⟩ : St).put o.dst (.one .und))) : AtO P wv ty kp draw all (o :: rest) k ⟨sl, ob⟩ := by
  unfold AtO
  simp only [vcOps, hg, hj, hl]
  split
  · exact h1 ‹_›
  · exact h2 (by cases b <;> cases want <;> simp_all)
theorem o_gt_run {j d : Nat} (hg : o.guard = some (j, true)) (hj : (all[j]?).bind (·.dst) = some d) (hl : look sl d = some (.one (.bool true))) (h : Do P wv ty kp draw all rest k o ⟨(d, .one (.bool true)) :: sl, ob⟩) : AtO P wv ty kp draw all (o :: rest) k ⟨sl, ob⟩ :=
  o_guard hg hj hl (fun _ => h) (fun e => by cases e)
theorem o_gf_run {j d : Nat} (hg : o.guard = some (j, false)) (hj : (all[j]?).bind (·.dst) = some d) (hl : look sl d = some (.one (.bool false))) (h : Do P wv ty kp draw all rest k o ⟨(d, .one (.bool false)) :: sl, ob⟩) : AtO P wv ty kp draw all (o :: rest) k ⟨sl, ob⟩ :=
  o_guard hg hj hl (fun _ => h) (fun e => by cases e)
theorem o_gt_skip {j d e : Nat} (hg : o.guard = some (j, true)) (hj : (all[j]?).bind (·.dst) = some d) (hl : look sl d = some (.one (.bool false))) (he : o.dst = some e) (h : AtO P wv ty kp draw all rest k ⟨(e, .one .und) :: (d, .one (.bool false)) :: sl, ob⟩) : AtO P wv ty kp draw all (o :: rest) k ⟨sl, ob⟩ :=
  o_guard hg hj hl (fun e => by cases e) (fun _ => by rw [he]; exact h)
theorem o_gf_skip {j d e : Nat} (hg : o.guard = some (j, false)) (hj : (all[j]?).bind (·.dst) = some d) (hl : look sl d = some (.one (.bool true))) (he : o.dst = some e) (h : AtO P wv ty kp draw all rest k ⟨(e, .one .und) :: (d, .one (.bool true)) :: sl, ob⟩) : AtO P wv ty kp draw all (o :: rest) k ⟨sl, ob⟩ :=
  o_guard hg hj hl (fun e => by cases e) (fun _ => by rw [he]; exact h)
theorem o_g_und {j d e : Nat} {want : Bool} (hg : o.guard = some (j, want)) (hj : (all[j]?).bind (·.dst) = some d) (hl : look sl d = some (.one .und)) (he : o.dst = some e) (h : AtO P wv ty kp draw all rest k ⟨(e, .one .und) :: sl, ob⟩) : AtO P wv ty kp draw all (o :: rest) k ⟨sl, ob⟩ := by
  unfold AtO
  simp only [vcOps, hg, hj, hl, he]
  exact h
theorem o_gt_split {j d e : Nat} {b : Bool} (hg : o.guard = some (j, true)) (hj : (all[j]?).bind (·.dst) = some d) (hl : look sl d = some (.one (.bool b))) (he : o.dst = some e)
    (h1 : b = true → Do P wv ty kp draw all rest k o ⟨(d, .one (.bool true)) :: sl, ob⟩) (h2 : b = false → AtO P wv ty kp draw all rest k ⟨(e, .one .und) :: (d, .one (.bool false)) :: sl, ob⟩) : AtO P wv ty kp draw all (o :: rest) k ⟨sl, ob⟩ :=
  o_guard hg hj hl h1 (fun e => by rw [he]; exact h2 e)
theorem o_gf_split {j d e : Nat} {b : Bool} (hg : o.guard = some (j, false)) (hj : (all[j]?).bind (·.dst) = some d) (hl : look sl d = some (.one (.bool b))) (he : o.dst = some e)
    (h1 : b = false → Do P wv ty kp draw all rest k o ⟨(d, .one (.bool false)) :: sl, ob⟩) (h2 : b = true → AtO P wv ty kp draw all rest k ⟨(e, .one .und) :: (d, .one (.bool true)) :: sl, ob⟩) : AtO P wv ty kp draw all (o :: rest) k ⟨sl, ob⟩ :=
  o_guard hg hj hl h1 (fun e => by rw [he]; exact h2 e)

/-! ### one operation -/
variable {d : Nat}
theorem do_still (hz : (stillR ty o.op ⟨sl, ob⟩).holds fun V => AtO P wv ty kp draw all rest k ((⟨sl, ob⟩ : St).put o.dst V)) : Do P wv ty kp draw all rest k o ⟨sl, ob⟩ := by
  unfold Do
  have hs := stillR_ok hz
  unfold stepK
  split
  · rename_i c hc
    split
    · rename_i f hf
      have e : stillR ty o.op ⟨sl, ob⟩ = .bad := by rw [hc]; simp only [stillR, hf, callR]
      rw [e] at hz; exact hz.elim
    · rename_i hf
      have e : stillR ty o.op ⟨sl, ob⟩ = .bad := by rw [hc]; simp only [stillR, hf, callR]
      rw [e] at hz; exact hz.elim
    · exact hs
  · rename_i hc; rw [hc] at hz; exact hz.elim
  · rename_i hc; rw [hc] at hz; exact hz.elim
  · rename_i hc; rw [hc] at hz; exact hz.elim
  · rename_i hc; rw [hc] at hz; exact hz.elim
  · rename_i hc; rw [hc] at hz; exact hz.elim
  · rename_i hc; rw [hc] at hz; exact hz.elim
  · exact hs
theorem op_v1 {s : Sc} (hd : o.dst = some d) (hz : stillR ty o.op ⟨sl, ob⟩ = .val (.one s)) (h : AtO P wv ty kp draw all rest k ⟨(d, .one s) :: sl, ob⟩) : Do P wv ty kp draw all rest k o ⟨sl, ob⟩ :=
  do_still (by rw [hz, hd]; exact h)
theorem op_vA {s : List Sc} (hd : o.dst = some d) (hz : stillR ty o.op ⟨sl, ob⟩ = .val (.agg s)) (h : AtO P wv ty kp draw all rest k ⟨(d, .agg s) :: sl, ob⟩) : Do P wv ty kp draw all rest k o ⟨sl, ob⟩ :=
  do_still (by rw [hz, hd]; exact h)
theorem op_vT {s : List (Bool × List Sc)} (hd : o.dst = some d) (hz : stillR ty o.op ⟨sl, ob⟩ = .val (.tup s)) (h : AtO P wv ty kp draw all rest k ⟨(d, .tup s) :: sl, ob⟩) : Do P wv ty kp draw all rest k o ⟨sl, ob⟩ :=
  do_still (by rw [hz, hd]; exact h)
theorem op_r1 {p : Prop} {s : Sc} (hd : o.dst = some d) (hz : stillR ty o.op ⟨sl, ob⟩ = .req p (.one s)) (h : AtO P wv ty kp draw all rest k ⟨(d, .one s) :: sl, ob⟩) (hp : p) : Do P wv ty kp draw all rest k o ⟨sl, ob⟩ :=
  do_still (by rw [hz, hd]; exact ⟨hp, h⟩)
theorem op_st {s : Sc} {v : V} (hd : o.dst = some d) (hz : stillR ty o.op ⟨sl, ob⟩ = .sel true (.one s) v) (h : AtO P wv ty kp draw all rest k ⟨(d, .one s) :: sl, ob⟩) : Do P wv ty kp draw all rest k o ⟨sl, ob⟩ :=
  do_still (by rw [hz, hd]; exact h)
theorem op_sf {s : Sc} {v : V} (hd : o.dst = some d) (hz : stillR ty o.op ⟨sl, ob⟩ = .sel false v (.one s)) (h : AtO P wv ty kp draw all rest k ⟨(d, .one s) :: sl, ob⟩) : Do P wv ty kp draw all rest k o ⟨sl, ob⟩ :=
  do_still (by rw [hz, hd]; exact h)
def RowK (P : Program) (wv : Bool) (ty : List (Nat × Td)) (kp : List Nat) (draw : Bool) (all rest : List Oper) (k : Kont) (d : Nat) (sl : List (Nat × V)) (ob : List (Nat × Ob)) (v : Option V) : Prop := match v with
  | some V => AtO P wv ty kp draw all rest k ⟨(d, V) :: sl, ob⟩
  | none => False
theorem op_row {p : Prop} {ks : List Kd} {rows : List (List C)} {i : Nat} {g : List C → Option V} (hd : o.dst = some d) (hz : stillR ty o.op ⟨sl, ob⟩ = .row p ks rows i g) (h : allShape ks fun row => rows[i]? = some row → RowK P wv ty kp draw all rest k d sl ob (g row)) (hp : p) : Do P wv ty kp draw all rest k o ⟨sl, ob⟩ :=
  do_still (by rw [hz, hd]; exact ⟨hp, h⟩)
theorem row_1 {v : Option V} {s : Sc} (hv : v = some (.one s)) (h : AtO P wv ty kp draw all rest k ⟨(d, .one s) :: sl, ob⟩) : RowK P wv ty kp draw all rest k d sl ob v := by subst hv; exact h
theorem row_A {v : Option V} {s : List Sc} (hv : v = some (.agg s)) (h : AtO P wv ty kp draw all rest k ⟨(d, .agg s) :: sl, ob⟩) : RowK P wv ty kp draw all rest k d sl ob v := by subst hv; exact h
theorem sh_int {κ : IntKind} {r : List Kd} {p : List C → Prop} (h : ∀ n, allShape r fun cs => p (.int κ n :: cs)) : allShape (.int κ :: r) p := h
theorem sh_bool {r : List Kd} {p : List C → Prop} (h : ∀ b, allShape r fun cs => p (.bool b :: cs)) : allShape (.bool :: r) p := h
theorem sh_sl {ks : List Kd} {r : List Kd} {p : List C → Prop} (h : ∀ rows, allShape r fun cs => p (.sq ks rows :: cs)) : allShape (.sl ks :: r) p := h
theorem sh_nil {p : List C → Prop} (h : p []) : allShape [] p := h

theorem op_alloc {t : TypeId} {td : Td} {zs : List Sc} (hd : o.dst = some d) (ho : o.op = .alloc t) (hl : look ty t = some td) (hn : look ob d = none) (hz : td.ks.map Kd.zeroS = zs) (h : AtO P wv ty kp false all rest k ⟨(d, .one (.bx d 0)) :: sl, (d, .box zs) :: ob⟩) : Do P wv ty kp false all rest k o ⟨sl, ob⟩ := by
  subst hz
  unfold Do
  simp only [stepK, ho, eff, hd, hl]
  exact ⟨hn, h⟩
theorem op_box {t : TypeId} {v : Operand} {ss : List Sc} (hd : o.dst = some d) (ho : o.op = .box t v) (hs : (ev ⟨sl, ob⟩ v).scs = some ss) (hn : look ob d = none) (hk : allKnown ss) (h : AtO P wv ty kp false all rest k ⟨(d, .one (.bx d 0)) :: sl, (d, .box ss) :: ob⟩) : Do P wv ty kp false all rest k o ⟨sl, ob⟩ := by
  unfold Do
  simp only [stepK, ho, eff, hd, hs]
  exact ⟨hn, hk, h⟩
theorem op_storeB {t : TypeId} {p v : Operand} {td : Td} {ss old new : List Sc} {id off : Nat} (hd : o.dst = none) (ho : o.op = .store t p v) (hl : look ty t = some td) (hs : (ev ⟨sl, ob⟩ v).scs = some ss) (hp : ev ⟨sl, ob⟩ p = .one (.bx id off)) (hb : look ob id = some (.box old))
    (h1 : ss.length = td.ks.length) (h2 : Nat.ble (off + ss.length) old.length = true) (hk : allKnown ss) (hn : old.take off ++ ss ++ old.drop (off + ss.length) = new) (h : AtO P wv ty kp false all rest k ⟨sl, (id, .box new) :: ob⟩) : Do P wv ty kp false all rest k o ⟨sl, ob⟩ := by
  subst hn
  unfold Do
  simp only [stepK, ho, eff, hd, hl, hs, hp, hb]
  exact .inl ⟨h1, Nat.le_of_ble_eq_true h2, hk, h⟩
/-- a call whose result is ints and bools -/
theorem op_call1 {c : Call} {f : Operand} {n : Nat} {caps ps : List (Bool × List C)} {g : Bool} {r : Rc} {s : Sc} (hd : o.dst = some d) (ho : o.op = .call c) (hc : c.callee = .value f) (hf : ev ⟨sl, ob⟩ f = .one (.fn n caps)) (ha : argsA ob (c.args.toList.map (ev ⟨sl, ob⟩)) = some (ps, g))
    (hfn : Fn P n (ps ++ caps) (.one r)) (hcal : callable P n = true) (hpl : r.plain = true) (hs : scsOf d [r] = [s]) (h : AtO P wv ty kp draw all rest k ⟨(d, .one s) :: sl, ob⟩) : Do P wv ty kp draw all rest k o ⟨sl, ob⟩ := by
  unfold Do
  simp only [stepK, ho, hc, callK, hf, hd]
  refine .inl ?_
  simp only [pureK, ha]
  have hO : Rs.O d (.one r) = [] := plain_O (r := .one r) hpl d
  refine ⟨.one r, ⟨.inr (.inl ?_), fun _ => hpl, ?_⟩, hcal, hfn⟩
  · cases r <;> first | rfl | simp [Rc.plain] at hpl
  · simp only [bindK, hO]
    refine ⟨trivial, ?_⟩
    simp only [Rs.V, hs]
    exact h
/-- a call, whatever its result -/
theorem op_callR {c : Call} {f : Operand} {n : Nat} {caps ps : List (Bool × List C)} {g : Bool} {r : Rs} {v : V} {obr : List (Nat × Ob)} (hd : o.dst = some d) (ho : o.op = .call c) (hc : c.callee = .value f) (hf : ev ⟨sl, ob⟩ f = .one (.fn n caps)) (ha : argsA ob (c.args.toList.map (ev ⟨sl, ob⟩)) = some (ps, g))
    (hfn : Fn P n (ps ++ caps) r) (hcal : callable P n = true) (hg : g = true ∨ r.flat = true) (hv : r.V d = v) (ho' : r.O d ++ ob = obr) (hno : allNone ob (r.O d)) (h : AtO P wv ty kp false all rest k ⟨(d, v) :: sl, obr⟩) : Do P wv ty kp false all rest k o ⟨sl, ob⟩ := by
  subst hv; subst ho'
  unfold Do
  simp only [stepK, ho, hc, callK, hf, hd]
  refine .inl ?_
  simp only [pureK, ha]
  exact ⟨r, ⟨hg.imp id .inl, (fun e => by simp at e), hno, h⟩, hcal, hfn⟩
end
/-- A WHOLE FUNCTION, step by step -/
theorem fn_go {P : Program} {ty : List (Nat × Td)} (kp : List Nat) {f : Nat} {fn : Func} {c : Code} {ts : List RV} {cs : List (Bool × List C)} {r : Rs} (hm : P.follows .mixedOrders = true) (hty : TyOk P ty)
    (hf : P.funcs[f]? = some fn) (hb : fn.body = some c) (hok : okB ty fn.ntmps c = true) (hrv : ts.all (RV.okB ty) = true) (hres : fn.results = (ts.map RV.res).toArray) (hl : ts.length = 1 ∨ ts.length = 2 ∨ ts.length = 3) (hn : cs.length ≤ fn.ntmps)
    {sl : List (Nat × V)} (hsl : entry 0 cs = sl) (h : At P false ty kp c (.done ts r []) ⟨sl, []⟩) : Fn P f cs r := by
  subst hsl
  refine fn_sound kp hm hty (allC_ok P) hf hb hok hrv hres hl hn ?_
  have e : goK P false ty kp (.done ts r []) = finK ts r [] := by funext e σ; simp only [goK]
  unfold At at h
  rw [e] at h
  exact h
end Go.Vq
