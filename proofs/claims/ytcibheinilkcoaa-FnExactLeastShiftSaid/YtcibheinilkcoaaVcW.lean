/- Part W of the small logic: more steps: guards and tests looked at once; rows that the call makes; calls with slices among their results. No conditions. -/
import Derived.Test.YtcibheinilkcoaaVcV
namespace Go.Vq
open Go.RowKit
theorem lt_of_blt {a b : Nat} (h : Nat.blt a b = true) : a < b := Nat.le_of_ble_eq_true h
theorem allShape_all : ∀ {ks : List Kd} {p : List C → Prop}, (∀ r, r.map C.kd = ks → p r) → allShape ks p := by
  intro ks
  induction ks with
  | nil => intro p h; exact h [] rfl
  | cons k ks ih =>
    intro p h
    cases k with
    | int κ => exact fun n => ih fun r hr => h _ (by rw [List.map_cons, hr]; rfl)
    | bool => exact fun b => ih fun r hr => h _ (by rw [List.map_cons, hr]; rfl)
    | sl ks' => exact fun rows => ih fun r hr => h _ (by rw [List.map_cons, hr]; rfl)
    | ref => exact fun c hc => ih fun r hr => h _ (by rw [List.map_cons, hr, hc])
section
variable {P : Program} {wv : Bool} {ty : List (Nat × Td)} {kp : List Nat} {k : Kont} {σ : St} {sl : List (Nat × V)} {ob : List (Nat × Ob)} {draw : Bool} {all rest : List Oper} {o : Oper} {d e : Nat} {b : Bool}
/-- a guard that stands for true -/
def GdT (P : Program) (wv : Bool) (ty : List (Nat × Td)) (kp : List Nat) (draw : Bool) (all rest : List Oper) (k : Kont) (o : Oper) (d e : Nat) (sl : List (Nat × V)) (ob : List (Nat × Ob)) (b : Bool) : Prop :=
  (b = true → Do P wv ty kp draw all rest k o ⟨(d, .one (.bool true)) :: sl, ob⟩) ∧ (b = false → AtO P wv ty kp draw all rest k ⟨(e, .one .und) :: (d, .one (.bool false)) :: sl, ob⟩)
/-- a guard that stands for false -/
def GdF (P : Program) (wv : Bool) (ty : List (Nat × Td)) (kp : List Nat) (draw : Bool) (all rest : List Oper) (k : Kont) (o : Oper) (d e : Nat) (sl : List (Nat × V)) (ob : List (Nat × Ob)) (b : Bool) : Prop :=
  (b = false → Do P wv ty kp draw all rest k o ⟨(d, .one (.bool false)) :: sl, ob⟩) ∧ (b = true → AtO P wv ty kp draw all rest k ⟨(e, .one .und) :: (d, .one (.bool true)) :: sl, ob⟩)
theorem o_gT {j : Nat} (hg : o.guard = some (j, true)) (hj : (all[j]?).bind (·.dst) = some d) (he : o.dst = some e) (hl : look sl d = some (.one (.bool b))) (h : GdT P wv ty kp draw all rest k o d e sl ob b) : AtO P wv ty kp draw all (o :: rest) k ⟨sl, ob⟩ :=
  o_gt_split hg hj hl he h.1 h.2
theorem o_gF {j : Nat} (hg : o.guard = some (j, false)) (hj : (all[j]?).bind (·.dst) = some d) (he : o.dst = some e) (hl : look sl d = some (.one (.bool b))) (h : GdF P wv ty kp draw all rest k o d e sl ob b) : AtO P wv ty kp draw all (o :: rest) k ⟨sl, ob⟩ :=
  o_gf_split hg hj hl he h.1 h.2
theorem gT_t (h : Do P wv ty kp draw all rest k o ⟨(d, .one (.bool true)) :: sl, ob⟩) : GdT P wv ty kp draw all rest k o d e sl ob true := ⟨fun _ => h, (fun e => by cases e)⟩
theorem gT_f (h : AtO P wv ty kp draw all rest k ⟨(e, .one .und) :: (d, .one (.bool false)) :: sl, ob⟩) : GdT P wv ty kp draw all rest k o d e sl ob false := ⟨(fun e => by cases e), fun _ => h⟩
theorem gT_s (h1 : b = true → Do P wv ty kp draw all rest k o ⟨(d, .one (.bool true)) :: sl, ob⟩) (h2 : b = false → AtO P wv ty kp draw all rest k ⟨(e, .one .und) :: (d, .one (.bool false)) :: sl, ob⟩) : GdT P wv ty kp draw all rest k o d e sl ob b := ⟨h1, h2⟩
theorem gF_f (h : Do P wv ty kp draw all rest k o ⟨(d, .one (.bool false)) :: sl, ob⟩) : GdF P wv ty kp draw all rest k o d e sl ob false := ⟨fun _ => h, (fun e => by cases e)⟩
theorem gF_t (h : AtO P wv ty kp draw all rest k ⟨(e, .one .und) :: (d, .one (.bool true)) :: sl, ob⟩) : GdF P wv ty kp draw all rest k o d e sl ob true := ⟨(fun e => by cases e), fun _ => h⟩
theorem gF_s (h1 : b = false → Do P wv ty kp draw all rest k o ⟨(d, .one (.bool false)) :: sl, ob⟩) (h2 : b = true → AtO P wv ty kp draw all rest k ⟨(e, .one .und) :: (d, .one (.bool true)) :: sl, ob⟩) : GdF P wv ty kp draw all rest k o d e sl ob b := ⟨h1, h2⟩
def Cd (P : Program) (wv : Bool) (ty : List (Nat × Td)) (kp : List Nat) (y z : Code) (k : Kont) (σ : St) (b : Bool) : Prop := (b = true → At P wv ty kp y k σ) ∧ (b = false → At P wv ty kp z k σ)
theorem g_cd {c : Operand} {y z : Code} (hc : ev σ c = .one (.bool b)) (h : Cd P wv ty kp y z k σ b) : At P wv ty kp (.cond c y z) k σ := g_cond hc h.1 h.2
theorem cd_t {y z : Code} (h : At P wv ty kp y k σ) : Cd P wv ty kp y z k σ true := ⟨fun _ => h, (fun e => by cases e)⟩
theorem cd_f {y z : Code} (h : At P wv ty kp z k σ) : Cd P wv ty kp y z k σ false := ⟨(fun e => by cases e), fun _ => h⟩
theorem cd_s {y z : Code} (h1 : b = true → At P wv ty kp y k σ) (h2 : b = false → At P wv ty kp z k σ) : Cd P wv ty kp y z k σ b := ⟨h1, h2⟩

/-! ### rows that the call makes -/
theorem op_make {t : TypeId} {y z : Operand} {e' : Nat} {ks1 ks : List Kd} {by1 bys : Nat} {sh : Sh} {κ κ' : IntKind} {n : Int} {zr : List C} (hd : o.dst = some d) (ho : o.op = .makeSlice t y z) (hl : look ty t = some ⟨.slice e', ks1, by1⟩) (hle : look ty e' = some ⟨sh, ks, bys⟩)
    (hy : ev ⟨sl, ob⟩ y = .one (.int κ n)) (hz : ev ⟨sl, ob⟩ z = .one (.int κ' n)) (hn : look ob d = none) (hzr : ks.map Kd.zeroC = zr) (hb : Nat.blt 0 bys = true)
    (h : AtO P wv ty kp false all rest k ⟨(d, .one (.root d)) :: sl, (d, .row e' ks (List.replicate n.toNat zr)) :: ob⟩) (hp : 0 ≤ n ∧ n * bys ≤ 140737488355328) : Do P wv ty kp false all rest k o ⟨sl, ob⟩ := by
  subst hzr
  unfold Do
  simp only [stepK, ho, eff, hd, hl, hy, hz, hle]
  refine ⟨hn, trivial, hp.1, hp.2, lt_of_blt hb, h⟩
def rowL (ks : List Kd) (V : V) : Option (List C) := match V.scs with
  | some ss => toCs ks ss
  | none => none
def rowsL (ks : List Kd) : List V → Option (List (List C))
  | [] => some []
  | V :: Vs => match rowL ks V, rowsL ks Vs with
    | some r, some rs => some (r :: rs)
    | _, _ => none
theorem rowsL_ok {ks : List Kd} {K : List (List C) → Prop} : ∀ {Vs : List V} {rows : List (List C)}, rowsL ks Vs = some rows → (∀ r ∈ rows, r.map C.kd = ks) → K rows → rowsOf ks Vs K
  | [], rows, h, _, hk => by simp only [rowsL, Option.some.injEq] at h; subst h; exact hk
  | V :: Vs, rows, h, hks, hk => by
    simp only [rowsL] at h
    split at h
    · rename_i r rs h1 h2
      cases h
      simp only [rowsOf, rowOf]
      unfold rowL at h1
      split at h1
      · rename_i ss hs
        simp only [hs, h1]
        exact ⟨hks r (by simp), rowsL_ok (K := fun rows => K (r :: rows)) h2 (fun r' hr' => hks r' (by simp [hr'])) hk⟩
      · cases h1
    · cases h
theorem op_lit {t : TypeId} {len : Nat} {parts : Array (Nat × Operand)} {e' : Nat} {ks1 ks : List Kd} {by1 bys : Nat} {sh : Sh} {rows : List (List C)} (hd : o.dst = some d) (ho : o.op = .buildSlice t len parts) (hl : look ty t = some ⟨.slice e', ks1, by1⟩) (hle : look ty e' = some ⟨sh, ks, bys⟩)
    (hn : look ob d = none) (hpr : parts.toList.map (·.1) = List.range len) (hsm : Nat.ble (len * ks.length) 16777216 = true) (hpos : Nat.blt 0 ks.length = true) (hr : rowsL ks (parts.toList.map fun p => ev ⟨sl, ob⟩ p.2) = some rows) (hk : rows.map (fun r => r.map C.kd) = List.replicate rows.length ks)
    (h : AtO P wv ty kp false all rest k ⟨(d, .one (.root d)) :: sl, (d, .row e' ks rows) :: ob⟩) : Do P wv ty kp false all rest k o ⟨sl, ob⟩ := by
  unfold Do
  simp only [stepK, ho, eff, hd, hl, hle]
  refine ⟨hn, hpr, Nat.le_of_ble_eq_true hsm, lt_of_blt hpos, rowsL_ok hr (fun r hr' => ?_) h⟩
  have : r.map C.kd ∈ rows.map (fun r => r.map C.kd) := List.mem_map_of_mem hr'
  rw [hk] at this
  exact List.eq_of_mem_replicate this
def srcL (ob : List (Nat × Ob)) : V → Option (List Kd × List (List C))
  | .one (.ro ks rows) => some (ks, rows)
  | .one (.vw _ ks rows) => match ks.all Kd.flat with
    | true => some (ks, rows)
    | false => none
  | .one (.root id) => match look ob id with
    | some (.row _ ks rows) => some (ks, rows)
    | _ => none
  | _ => none
theorem srcL_ok {V : V} {ks : List Kd} {rows : List (List C)} {K : List Kd → List (List C) → Prop} (h : srcL ob V = some (ks, rows)) (hk : K ks rows) : ∃ s, V = .one s ∧ s ≠ .nil ∧ srcOf ob s K := by
  unfold srcL at h
  split at h
  · cases h; exact ⟨_, rfl, by simp, hk⟩
  · split at h
    · rename_i hf; cases h; exact ⟨_, rfl, by simp, hf, hk⟩
    · cases h
  · split at h
    · rename_i hob; cases h; exact ⟨_, rfl, by simp, by simp only [srcOf, hob]; exact hk⟩
    · cases h
  · cases h
theorem app_core {c : Call} {s y : Operand} {t t' : TypeId} {e' e2 : Nat} {ks1 ks2 ks ks' : List Kd} {by1 by2 bys : Nat} {sh : Sh} {rows' : List (List C)} (hd : o.dst = some d) (ho : o.op = .call c) (hc : c.callee = .builtin .append) (ha : c.args.toList = [s, y]) (ht : c.argTypes.toList = [t, t'])
    (hl : look ty t = some ⟨.slice e', ks1, by1⟩) (hl' : look ty t' = some ⟨.slice e2, ks2, by2⟩) (hle : look ty e' = some ⟨sh, ks, bys⟩) (hy : srcL ob (ev ⟨sl, ob⟩ y) = some (ks', rows'))
    (h : effAppend ⟨sh, ks, bys⟩ e' d ⟨sl, ob⟩ (ev ⟨sl, ob⟩ s) ks' rows' fun σ => AtO P wv ty kp false all rest k σ) : Do P wv ty kp false all rest k o ⟨sl, ob⟩ := by
  obtain ⟨s', e1, hne, hs⟩ := srcL_ok (K := fun ks' rows' => effAppend ⟨sh, ks, bys⟩ e' d ⟨sl, ob⟩ (ev ⟨sl, ob⟩ s) ks' rows' fun σ => AtO P wv ty kp false all rest k σ) hy h
  unfold Do
  simp only [stepK, ho, hc, eff, hd, ha, ht, hl, hl', hle, e1]
  cases s' <;> first | exact hs | exact (hne rfl).elim
/-- append to nothing -/
theorem op_app0 {c : Call} {s y : Operand} {t t' : TypeId} {e' e2 : Nat} {ks1 ks2 ks : List Kd} {by1 by2 bys : Nat} {sh : Sh} {rows' : List (List C)} (hd : o.dst = some d) (ho : o.op = .call c) (hc : c.callee = .builtin .append) (ha : c.args.toList = [s, y]) (ht : c.argTypes.toList = [t, t'])
    (hl : look ty t = some ⟨.slice e', ks1, by1⟩) (hl' : look ty t' = some ⟨.slice e2, ks2, by2⟩) (hle : look ty e' = some ⟨sh, ks, bys⟩) (hy : srcL ob (ev ⟨sl, ob⟩ y) = some (ks, rows')) (hs : ev ⟨sl, ob⟩ s = .one .nil)
    (hpos : Nat.blt 0 ks.length = true) (hb : Nat.blt 0 bys = true) (hn : look ob d = none)
    (h : AtO P wv ty kp false all rest k ⟨(d, .one (.root d)) :: sl, (d, .row e' ks rows') :: ob⟩) (hp : rows'.length * bys ≤ 140737488355328) : Do P wv ty kp false all rest k o ⟨sl, ob⟩ := by
  refine app_core hd ho hc ha ht hl hl' hle hy ?_
  rw [hs]
  exact ⟨rfl, lt_of_blt hpos, lt_of_blt hb, hn, hp, h⟩
/-- append to a row of the call's own -/
theorem op_app1 {c : Call} {s y : Operand} {t t' : TypeId} {id e' e2 : Nat} {ks1 ks2 ks : List Kd} {by1 by2 bys : Nat} {sh : Sh} {rows rows' : List (List C)} {sl' : List (Nat × V)} {ob' : List (Nat × Ob)} (hd : o.dst = some d) (ho : o.op = .call c) (hc : c.callee = .builtin .append) (ha : c.args.toList = [s, y]) (ht : c.argTypes.toList = [t, t'])
    (hl : look ty t = some ⟨.slice e', ks1, by1⟩) (hl' : look ty t' = some ⟨.slice e2, ks2, by2⟩) (hle : look ty e' = some ⟨sh, ks, bys⟩) (hy : srcL ob (ev ⟨sl, ob⟩ y) = some (ks, rows')) (hs : ev ⟨sl, ob⟩ s = .one (.root id)) (hob : look ob id = some (.row e' ks rows))
    (h5 : Nat.blt id 500000 = true) (hpos : Nat.blt 0 ks.length = true) (hb : Nat.blt 0 bys = true) (hsl : mapV (V.kill true id) sl = sl') (hob' : mapV (Ob.kill true id) ob = ob')
    (h : AtO P wv ty kp false all rest k ⟨(d, .one (.root id)) :: sl', (id, .row e' ks (rows ++ rows')) :: ob'⟩) (hp : (rows.length + rows'.length) * bys ≤ 140737488355328) : Do P wv ty kp false all rest k o ⟨sl, ob⟩ := by
  subst hsl; subst hob'
  refine app_core hd ho hc ha ht hl hl' hle hy ?_
  rw [hs]
  refine ⟨rfl, lt_of_blt hpos, lt_of_blt hb, ?_⟩
  simp only [hob]
  exact ⟨lt_of_blt h5, trivial, trivial, hp, h⟩
/-- a whole row is stored into a row of the call's own -/
theorem op_storeE {t : TypeId} {p v : Operand} {td : Td} {id i e' : Nat} {ks : List Kd} {rows : List (List C)} {new : List C} {sl' : List (Nat × V)} {ob' : List (Nat × Ob)} (hd : o.dst = none) (ho : o.op = .store t p v) (hl : look ty t = some td) (hp : ev ⟨sl, ob⟩ p = .one (.ep id i 0)) (hob : look ob id = some (.row e' ks rows))
    (hr : rowL td.ks (ev ⟨sl, ob⟩ v) = some new) (hk1 : new.map C.kd = td.ks) (hk2 : td.ks = ks) (hsl : mapV (V.kill false id) sl = sl') (hob' : mapV (Ob.kill false id) ob = ob')
    (h : AtO P wv ty kp false all rest k ⟨sl', (id, .row e' ks (rows.set i new)) :: ob'⟩) (hi : i < rows.length) : Do P wv ty kp false all rest k o ⟨sl, ob⟩ := by
  subst hsl; subst hob'
  unfold Do
  unfold rowL at hr
  split at hr
  · rename_i ss hs
    simp only [stepK, ho, eff, hd, hl, hs, hp, hob]
    refine .inl ⟨hi, ?_⟩
    simp only [rowOf, hs, hr]
    refine ⟨hk1, allShape_all ?_⟩
    intro row hkd hrow
    have hlen : row.length = new.length := by
      have e1 : row.length = ks.length := by rw [← hkd]; simp
      have e2 : new.length = ks.length := by rw [← hk2, ← hk1]; simp
      omega
    have e3 : row.take 0 ++ new ++ row.drop (0 + new.length) = new := by
      rw [List.drop_of_length_le (by omega)]; simp
    rw [e3]
    exact ⟨by omega, by rw [hk1, hk2], h⟩
  · cases hr
end
end Go.Vq
