/- Part X of the small logic: many steps at once. No conditions. -/
import Derived.Test.YtcibheinilkcoaaVcW
namespace Go.Vq
open Go.RowKit

/-! ### bring a value to its plain form -/
section
universe u
variable {β : Sort u}
def fC (c : C) (k : C → β) : β := match c with
  | .int κ n => k (.int κ n)
  | .bool b => k (.bool b)
  | .sq ks rows => k (.sq ks rows)
  | .ptr cells => k (.ptr cells)
  | .fn f cs => k (.fn f cs)
def fCs : List C → (List C → β) → β
  | [], k => k []
  | c :: r, k => fC c fun c => fCs r fun r => k (c :: r)
def fSc (s : Sc) (k : Sc → β) : β := match s with
  | .any => k .any
  | .und => k .und
  | .int κ n => k (.int κ n)
  | .bool b => k (.bool b)
  | .ro ks rows => k (.ro ks rows)
  | .vw id ks rows => k (.vw id ks rows)
  | .root id => k (.root id)
  | .nil => k .nil
  | .bx id off => k (.bx id off)
  | .rp cs => fCs cs fun cs => k (.rp cs)
  | .vp id cs => fCs cs fun cs => k (.vp id cs)
  | .ep id i off => k (.ep id i off)
  | .fv id n => k (.fv id n)
  | .fn f caps => k (.fn f caps)
  | .xr ks rows => k (.xr ks rows)
  | .xp cs => fCs cs fun cs => k (.xp cs)
def fSs : List Sc → (List Sc → β) → β
  | [], k => k []
  | c :: r, k => fSc c fun c => fSs r fun r => k (c :: r)
def fV (v : V) (k : V → β) : β := match v with
  | .one s => fSc s fun s => k (.one s)
  | .agg ss => fSs ss fun ss => k (.agg ss)
  | .tup ps => k (.tup ps)
def fO (o : Ob) (k : Ob → β) : β := match o with
  | .row ty ks rows => k (.row ty ks rows)
  | .box ss => fSs ss fun ss => k (.box ss)
def fSl : List (Nat × V) → (List (Nat × V) → β) → β
  | [], k => k []
  | (d, v) :: r, k => fV v fun v => fSl r fun r => k ((d, v) :: r)
def fOb : List (Nat × Ob) → (List (Nat × Ob) → β) → β
  | [], k => k []
  | (d, v) :: r, k => fO v fun v => fOb r fun r => k ((d, v) :: r)
def fVs : List V → (List V → β) → β
  | [], k => k []
  | v :: r, k => fV v fun v => fVs r fun r => k (v :: r)
def fB (b : Bool) (k : Bool → β) : β := match b with
  | true => k true
  | false => k false
def fAs : List (Bool × List C) → (List (Bool × List C) → β) → β
  | [], k => k []
  | (b, cs) :: r, k => fB b fun b => fCs cs fun cs => fAs r fun r => k ((b, cs) :: r)
def kSl (l : List (Nat × V)) : List Nat → (List (Nat × V) → β) → β
  | [], k => k []
  | t :: r, k => match look l t with
    | some v => kSl l r fun r => k ((t, v) :: r)
    | none => kSl l r k
def kOb : List (Nat × Ob) → List Nat → (List (Nat × Ob) → β) → β
  | [], _, k => k []
  | (j, o) :: r, seen, k => match memN j seen with
    | true => kOb r seen k
    | false => kOb r (j :: seen) fun r => k ((j, o) :: r)
theorem fC_eq (c : C) (k : C → β) : fC c k = k c := by cases c <;> rfl
theorem fCs_eq : ∀ (l : List C) (k : List C → β), fCs l k = k l
  | [], _ => rfl
  | c :: r, k => by simp only [fCs, fC_eq, fCs_eq r]
theorem fSc_eq (s : Sc) (k : Sc → β) : fSc s k = k s := by cases s <;> first | rfl | simp only [fSc, fCs_eq]
theorem fSs_eq : ∀ (l : List Sc) (k : List Sc → β), fSs l k = k l
  | [], _ => rfl
  | c :: r, k => by simp only [fSs, fSc_eq, fSs_eq r]
theorem fV_eq (v : V) (k : V → β) : fV v k = k v := by cases v <;> first | rfl | simp only [fV, fSc_eq, fSs_eq]
theorem fO_eq (o : Ob) (k : Ob → β) : fO o k = k o := by cases o <;> first | rfl | simp only [fO, fSs_eq]
theorem fSl_eq : ∀ (l : List (Nat × V)) (k : List (Nat × V) → β), fSl l k = k l
  | [], _ => rfl
  | (d, v) :: r, k => by simp only [fSl, fV_eq, fSl_eq r]
theorem fOb_eq : ∀ (l : List (Nat × Ob)) (k : List (Nat × Ob) → β), fOb l k = k l
  | [], _ => rfl
  | (d, v) :: r, k => by simp only [fOb, fO_eq, fOb_eq r]
theorem fVs_eq : ∀ (l : List V) (k : List V → β), fVs l k = k l
  | [], _ => rfl
  | v :: r, k => by simp only [fVs, fV_eq, fVs_eq r]
theorem fB_eq (b : Bool) (k : Bool → β) : fB b k = k b := by cases b <;> rfl
theorem fAs_eq : ∀ (l : List (Bool × List C)) (k : List (Bool × List C) → β), fAs l k = k l
  | [], _ => rfl
  | (b, cs) :: r, k => by simp only [fAs, fB_eq, fCs_eq, fAs_eq r]
theorem kSl_eq (l : List (Nat × V)) : ∀ (kp : List Nat) (k : List (Nat × V) → β), kSl l kp k = k (keepSl l kp)
  | [], _ => rfl
  | t :: r, k => by
    simp only [kSl, keepSl]
    split <;> simp only [*, kSl_eq l r]
theorem kOb_eq : ∀ (l : List (Nat × Ob)) (seen : List Nat) (k : List (Nat × Ob) → β), kOb l seen k = k (keepOb l seen)
  | [], _, _ => rfl
  | (j, o) :: r, seen, k => by
    simp only [kOb, keepOb]
    split <;> simp only [*, kOb_eq r]
end

/-! ### operations that change something, as data -/
inductive Ez where
  | bad
  | ok (sl : List (Nat × V)) (ob : List (Nat × Ob))
  | req (p : Prop) (sl : List (Nat × V)) (ob : List (Nat × Ob))
def Ez.holds (K : St → Prop) : Ez → Prop
  | .bad => False
  | .ok sl ob => K ⟨sl, ob⟩
  | .req p sl ob => p ∧ K ⟨sl, ob⟩
def Sc.knownB : Sc → Bool
  | .any => false
  | .und => false
  | _ => true
theorem Sc.known_of {s : Sc} (h : s.knownB = true) : s.known := by cases s <;> first | trivial | (simp [Sc.knownB] at h)
theorem allKnown_of : ∀ {ss : List Sc}, ss.all Sc.knownB = true → allKnown ss
  | [], _ => trivial
  | s :: r, h => by
    simp only [List.all_cons, Bool.and_eq_true] at h
    exact ⟨Sc.known_of h.1, allKnown_of h.2⟩
def freeB (ob : List (Nat × Ob)) (d : Nat) : Bool := match look ob d with
  | some _ => false
  | none => true
theorem free_of {ob : List (Nat × Ob)} {d : Nat} (h : freeB ob d = true) : look ob d = none := by
  unfold freeB at h; split at h
  · cases h
  · assumption
mutual
def kdB : Kd → Kd → Bool
  | .int k, .int k' => k == k'
  | .bool, .bool => true
  | .sl a, .sl b => ksB a b
  | .ref, .ref => true
  | _, _ => false
def ksB : List Kd → List Kd → Bool
  | [], [] => true
  | a :: r, b :: s => kdB a b && ksB r s
  | _, _ => false
end
mutual
theorem kd_of : ∀ {a b : Kd}, kdB a b = true → a = b
  | .int k, .int k', h => by simp only [kdB, beq_iff_eq] at h; rw [h]
  | .bool, .bool, _ => rfl
  | .sl a, .sl b, h => by simp only [kdB] at h; rw [ks_of h]
  | .int _, .bool, h => by simp [kdB] at h
  | .int _, .sl _, h => by simp [kdB] at h
  | .bool, .int _, h => by simp [kdB] at h
  | .bool, .sl _, h => by simp [kdB] at h
  | .sl _, .int _, h => by simp [kdB] at h
  | .sl _, .bool, h => by simp [kdB] at h
  | .ref, .ref, _ => rfl
  | .ref, .int _, h => by simp [kdB] at h
  | .ref, .bool, h => by simp [kdB] at h
  | .ref, .sl _, h => by simp [kdB] at h
  | .int _, .ref, h => by simp [kdB] at h
  | .bool, .ref, h => by simp [kdB] at h
  | .sl _, .ref, h => by simp [kdB] at h
theorem ks_of : ∀ {a b : List Kd}, ksB a b = true → a = b
  | [], [], _ => rfl
  | a :: r, b :: s, h => by simp only [ksB, Bool.and_eq_true] at h; rw [kd_of h.1, ks_of h.2]
  | [], _ :: _, h => by simp [ksB] at h
  | _ :: _, [], h => by simp [ksB] at h
end
def rowsB (ks : List Kd) : List (List C) → Bool
  | [] => true
  | r :: rs => ksB (r.map C.kd) ks && rowsB ks rs
theorem rows_of {ks : List Kd} : ∀ {rows : List (List C)}, rowsB ks rows = true → ∀ r ∈ rows, r.map C.kd = ks
  | [], _, _, h => by cases h
  | r :: rs, hb, t, h => by
    simp only [rowsB, Bool.and_eq_true] at hb
    rcases List.mem_cons.1 h with rfl | h
    · exact ks_of hb.1
    · exact rows_of hb.2 t h
def natsB : List Nat → List Nat → Bool
  | [], [] => true
  | a :: r, b :: s => Nat.beq a b && natsB r s
  | _, _ => false
theorem nats_of : ∀ {a b : List Nat}, natsB a b = true → a = b
  | [], [], _ => rfl
  | a :: r, b :: s, h => by
    simp only [natsB, Bool.and_eq_true] at h
    rw [Nat.eq_of_beq_eq_true h.1, nats_of h.2]
  | [], _ :: _, h => by simp [natsB] at h
  | _ :: _, [], h => by simp [natsB] at h

def appR (e : Nat) (ks : List Kd) (bys : Nat) (d : Nat) (sl : List (Nat × V)) (ob : List (Nat × Ob)) (s : V) (ks' : List Kd) (rows' : List (List C)) : Ez := match ksB ks' ks && Nat.blt 0 ks.length && Nat.blt 0 bys with
  | false => .bad
  | true => match s with
    | .one .nil => match freeB ob d with
      | true => .req (rows'.length * bys ≤ 140737488355328) ((d, .one (.root d)) :: sl) ((d, .row e ks rows') :: ob)
      | false => .bad
    | .one (.root id) => match look ob id with
      | some (.row e' ks1 rows) => match Nat.blt id 500000 && Nat.beq e' e && ksB ks1 ks with
        | true => fSl (mapV (V.kill true id) sl) fun sl => fOb (mapV (Ob.kill true id) ob) fun ob => .req ((rows.length + rows'.length) * bys ≤ 140737488355328) ((d, .one (.root id)) :: sl) ((id, .row e ks (rows ++ rows')) :: ob)
        | false => .bad
      | _ => .bad
    | _ => .bad
/-- a row of which some cells are written anew -/
def putC (off : Nat) (part row : List C) : List C := row.take off ++ part ++ row.drop (off + part.length)
theorem kd_put {off : Nat} {part row : List C} {ks ks' : List Kd} (h1 : part.map C.kd = ks) (h2 : ks = (ks'.drop off).take ks.length) (hle : off + ks.length ≤ ks'.length) (hr : row.map C.kd = ks') : (putC off part row).map C.kd = ks' ∧ off + part.length ≤ row.length := by
  have hl : part.length = ks.length := by rw [← h1]; simp
  have hrl : row.length = ks'.length := by rw [← hr]; simp
  refine ⟨?_, by omega⟩
  unfold putC
  rw [List.map_append, List.map_append, h1, List.map_take, List.map_drop, hr, hl]
  have e1 : ks' = ks'.take off ++ ((ks'.drop off).take ks.length ++ (ks'.drop off).drop ks.length) := by rw [List.take_append_drop, List.take_append_drop]
  rw [← h2, List.drop_drop] at e1
  rw [List.append_assoc]
  exact e1.symm
def effR (ty : List (Nat × Td)) (o : Oper) (sl : List (Nat × V)) (ob : List (Nat × Ob)) : Ez := match o.op, o.dst with
  | .alloc t, some d => match look ty t with
    | some td => match freeB ob d with
      | true => fSs (td.ks.map Kd.zeroS) fun zs => .ok ((d, .one (.bx d 0)) :: sl) ((d, .box zs) :: ob)
      | false => .bad
    | none => .bad
  | .box _ v, some d => match (ev ⟨sl, ob⟩ v).scs with
    | some ss => match freeB ob d && ss.all Sc.knownB with
      | true => .ok ((d, .one (.bx d 0)) :: sl) ((d, .box ss) :: ob)
      | false => .bad
    | none => .bad
  | .store t p v, none => match look ty t with
    | some ⟨_, ks, _⟩ => match (ev ⟨sl, ob⟩ v).scs with
      | some ss => match ev ⟨sl, ob⟩ p with
        | .one (.bx id off) => match look ob id with
          | some (.box old) => match Nat.beq ss.length ks.length && Nat.ble (off + ss.length) old.length && ss.all Sc.knownB with
            | true => fSs (old.take off ++ ss ++ old.drop (off + ss.length)) fun new => .ok sl ((id, .box new) :: ob)
            | false => .bad
          | _ => .bad
        | .one (.ep id i off) => match look ob id with
          | some (.row e ks' rows) => match toCs ks ss with
            | some part => match Nat.beq off 0 && ksB (part.map C.kd) ks && ksB ks ks' with
              | true => fCs part fun part => fSl (mapV (V.kill false id) sl) fun sl => fOb (mapV (Ob.kill false id) ob) fun ob => .req (i < rows.length) sl ((id, .row e ks' (rows.set i part)) :: ob)
              | false => match ksB (part.map C.kd) ks && ksB ks ((ks'.drop off).take ks.length) && Nat.ble (off + ks.length) ks'.length with
                | true => fCs part fun part => fSl (mapV (V.kill false id) sl) fun sl => fOb (mapV (Ob.kill false id) ob) fun ob =>
                    .req (i < rows.length) sl ((id, .row e ks' (rows.set i (putC off part (rows.getD i [])))) :: ob)
                | false => .bad
            | none => .bad
          | _ => .bad
        | _ => .bad
      | none => .bad
    | none => .bad
  | .makeSlice t y z, some d => match look ty t with
    | some ⟨.slice e, _, _⟩ => match look ty e with
      | some ⟨_, ks, bys⟩ => match ev ⟨sl, ob⟩ y, ev ⟨sl, ob⟩ z with
        | .one (.int _ n), .one (.int _ m) => match freeB ob d && Nat.blt 0 bys with
          | true => fCs (ks.map Kd.zeroC) fun zr => .req (n = m ∧ 0 ≤ n ∧ n * bys ≤ 140737488355328) ((d, .one (.root d)) :: sl) ((d, .row e ks (List.replicate n.toNat zr)) :: ob)
          | false => .bad
        | _, _ => .bad
      | none => .bad
    | _ => .bad
  | .buildSlice t len parts, some d => match look ty t with
    | some ⟨.slice e, _, _⟩ => match look ty e with
      | some ⟨_, ks, _⟩ => match rowsL ks (parts.toList.map fun p => ev ⟨sl, ob⟩ p.2) with
        | some rows => match freeB ob d && natsB (parts.toList.map (·.1)) (List.range len) && Nat.ble (len * ks.length) 16777216 && Nat.blt 0 ks.length && rowsB ks rows with
          | true => .ok ((d, .one (.root d)) :: sl) ((d, .row e ks rows) :: ob)
          | false => .bad
        | none => .bad
      | none => .bad
    | _ => .bad
  | .call c, some d => match c.callee, c.args.toList, c.argTypes.toList with
    | .builtin .append, [s, y], [t, t'] => match look ty t, look ty t' with
      | some ⟨.slice e, _, _⟩, some ⟨.slice _, _, _⟩ => match look ty e, srcL ob (ev ⟨sl, ob⟩ y) with
        | some ⟨_, ks, bys⟩, some (ks', rows') => appR e ks bys d sl ob (ev ⟨sl, ob⟩ s) ks' rows'
        | some ⟨_, ks, bys⟩, none => match ev ⟨sl, ob⟩ y with
          | .one .nil => appR e ks bys d sl ob (ev ⟨sl, ob⟩ s) ks []
          | _ => .bad
        | _, _ => .bad
      | _, _ => .bad
    | _, _, _ => .bad
  | _, _ => .bad
theorem appR_ok {e : Nat} {sh : Sh} {ks : List Kd} {bys d : Nat} {sl : List (Nat × V)} {ob : List (Nat × Ob)} {s : V} {ks' : List Kd} {rows' : List (List C)} {K : St → Prop} (h : (appR e ks bys d sl ob s ks' rows').holds K) : effAppend ⟨sh, ks, bys⟩ e d ⟨sl, ob⟩ s ks' rows' K := by
  unfold appR at h
  split at h
  · exact h.elim
  · rename_i hb
    simp only [Bool.and_eq_true] at hb
    refine ⟨ks_of hb.1.1, lt_of_blt hb.1.2, lt_of_blt hb.2, ?_⟩
    split at h
    · split at h
      · rename_i hf; exact ⟨free_of hf, h.1, h.2⟩
      · exact h.elim
    · split at h
      · rename_i hob
        split at h
        · rename_i hc
          simp only [Bool.and_eq_true] at hc
          simp only [fSl_eq, fOb_eq] at h
          simp only [hob]
          exact ⟨lt_of_blt hc.1.1, Nat.eq_of_beq_eq_true hc.1.2, ks_of hc.2, h.1, h.2⟩
        · exact h.elim
      · exact h.elim
    · exact h.elim
theorem effR_ok {ty : List (Nat × Td)} {o : Oper} {sl : List (Nat × V)} {ob : List (Nat × Ob)} {K : St → Prop} (h : (effR ty o sl ob).holds K) : eff ty o ⟨sl, ob⟩ K := by
  unfold effR at h
  split at h
  · rename_i ho hd
    split at h
    · rename_i hl
      split at h
      · rename_i hf
        simp only [fSs_eq] at h
        simp only [eff, ho, hd, hl]
        exact ⟨free_of hf, h⟩
      · exact h.elim
    · exact h.elim
  · rename_i ho hd
    split at h
    · rename_i hs
      split at h
      · rename_i hf
        simp only [Bool.and_eq_true] at hf
        simp only [eff, ho, hd, hs]
        exact ⟨free_of hf.1, allKnown_of hf.2, h⟩
      · exact h.elim
    · exact h.elim
  · rename_i ho hd
    split at h
    · rename_i hl
      split at h
      · rename_i hs
        split at h
        · rename_i hp
          split at h
          · rename_i hob
            split at h
            · rename_i hc
              simp only [Bool.and_eq_true] at hc
              simp only [fSs_eq] at h
              simp only [eff, ho, hd, hl, hs, hp, hob]
              exact ⟨Nat.eq_of_beq_eq_true hc.1.1, Nat.le_of_ble_eq_true hc.1.2, allKnown_of hc.2, h⟩
            · exact h.elim
          · exact h.elim
        · rename_i id i off hp
          split at h
          · rename_i hob
            split at h
            · rename_i part hr
              split at h
              · rename_i hc
                simp only [Bool.and_eq_true] at hc
                have h0 := Nat.eq_of_beq_eq_true hc.1.1
                subst h0
                have hk1 := ks_of hc.1.2
                have hk2 := ks_of hc.2
                simp only [fCs_eq, fSl_eq, fOb_eq] at h
                simp only [eff, ho, hd, hl, hs, hp, hob]
                refine ⟨h.1, ?_⟩
                simp only [rowOf, hs, hr]
                refine ⟨hk1, allShape_all ?_⟩
                intro old hkd hrow
                have hlen : old.length = part.length := by
                  have e1 := congrArg List.length hkd
                  have e2 := congrArg List.length (hk1.trans hk2)
                  simp only [List.length_map] at e1 e2
                  omega
                have e3 : old.take 0 ++ part ++ old.drop (0 + part.length) = part := by
                  rw [List.drop_of_length_le (by omega)]; simp
                rw [e3]
                exact ⟨by omega, by rw [hk1, hk2], h.2⟩
              · split at h
                · rename_i hc
                  simp only [Bool.and_eq_true] at hc
                  have hk1 := ks_of hc.1.1
                  have hk2 := ks_of hc.1.2
                  have hk3 := Nat.le_of_ble_eq_true hc.2
                  simp only [fCs_eq, fSl_eq, fOb_eq] at h
                  simp only [eff, ho, hd, hl, hs, hp, hob]
                  refine ⟨h.1, ?_⟩
                  simp only [rowOf, hs, hr]
                  refine ⟨hk1, allShape_all ?_⟩
                  intro old hkd hrow
                  have e := kd_put hk1 hk2 hk3 hkd
                  have h2 := h.2
                  rw [List.getD, hrow] at h2
                  exact ⟨e.2, e.1, h2⟩
                · exact h.elim
            · exact h.elim
          · exact h.elim
        · exact h.elim
      · exact h.elim
    · exact h.elim
  · rename_i ho hd
    split at h
    · rename_i hl
      split at h
      · rename_i hle
        split at h
        · rename_i hy hz
          split at h
          · rename_i hf
            simp only [Bool.and_eq_true] at hf
            simp only [fCs_eq] at h
            simp only [eff, ho, hd, hl, hle, hy, hz]
            exact ⟨free_of hf.1, h.1.1, h.1.2.1, h.1.2.2, lt_of_blt hf.2, h.2⟩
          · exact h.elim
        · exact h.elim
      · exact h.elim
    · exact h.elim
  · rename_i ho hd
    split at h
    · rename_i hl
      split at h
      · rename_i hle
        split at h
        · rename_i hr
          split at h
          · rename_i hf
            simp only [Bool.and_eq_true] at hf
            simp only [eff, ho, hd, hl, hle]
            exact ⟨free_of hf.1.1.1.1, nats_of hf.1.1.1.2, Nat.le_of_ble_eq_true hf.1.1.2, lt_of_blt hf.1.2, rowsL_ok hr (rows_of hf.2) h⟩
          · exact h.elim
        · exact h.elim
      · exact h.elim
    · exact h.elim
  · rename_i c d ho hd
    split at h
    · rename_i hc ha ht
      split at h
      · rename_i hl hl'
        split at h
        · rename_i hle hy
          obtain ⟨s', e1, hne, hs⟩ := srcL_ok (K := fun ks' rows' => effAppend _ _ d ⟨sl, ob⟩ (ev ⟨sl, ob⟩ _) ks' rows' K) hy (appR_ok (sh := _) h)
          simp only [eff, ho, hd, hc, ha, ht, hl, hl', hle, e1]
          cases s' <;> first | exact hs | exact (hne rfl).elim
        · rename_i hle hy
          split at h
          · rename_i hn
            simp only [eff, ho, hd, hc, ha, ht, hl, hl', hle, hn]
            exact appR_ok h
          · exact h.elim
        · exact h.elim
      · exact h.elim
    · exact h.elim
  · exact h.elim
end Go.Vq
