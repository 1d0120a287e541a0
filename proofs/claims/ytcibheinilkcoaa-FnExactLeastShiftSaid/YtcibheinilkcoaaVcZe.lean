/- Part Ze of the small logic: a region that draws its order, its orders said one by one. No conditions. -/
import Derived.Test.YtcibheinilkcoaaVcZc
namespace Go.Vq
open Go.RowKit
section
variable {P : Program} {wv : Bool} {ty : List (Nat × Td)} {kp : List Nat} {sl : List (Nat × V)} {ob : List (Nat × Ob)} {k : Kont}
theorem allP_n {α : Type} {p : α → Prop} : allP [] p := trivial
theorem allP_c {α : Type} {p : α → Prop} {x : α} {r : List α} (h : p x) (hr : allP r p) : allP (x :: r) p := ⟨h, hr⟩
theorem z_sn0 (h : St.le0 ⟨sl, ob⟩ ⟨sl, ob⟩) : SN (fun σ => σ.le ⟨sl, ob⟩) sl ob := ⟨[], rfl, h⟩
end
/-- a result that is given up: what was the caller's own may be read only -/
theorem Ret.weak {S : Nat → Prop} {w w' : World} {v : Value} {r r' : Rs} (h : Ret S w w' v r) (hle : St.le0 ⟨[(0, r.V 0)], r.O 0⟩ ⟨[(0, r'.V 0)], r'.O 0⟩) : Ret S w w' v r' := by
  obtain ⟨ρ, hr, hv⟩ := h
  have h0 : Rel ⟨S, w, NoM, noF, false⟩ ⟨[(0, r.V 0)], r.O 0⟩ ρ ⟨#[v], []⟩ w' := by
    refine ⟨fun t V hV => ?_, hr.objs, hr.sep, hr.fresh, hr.grow, rfl, hr.fix⟩
    simp only [look_cons] at hV
    split at hV
    · rename_i ht; subst ht; cases hV; exact hv
    · simp [look] at hV
  obtain ⟨ρ', h1⟩ := h0.le0 hle
  exact ⟨ρ', ⟨(fun t V hV => by simp [look] at hV), h1.objs, h1.sep, h1.fresh, h1.grow, rfl, h1.fix⟩, h1.slots 0 _ rfl⟩
theorem Fn.weak {P : Program} {f : Nat} {cs : List (Bool × List C)} {r r' : Rs} (h : Fn P f cs r) (hle : St.le0 ⟨[(0, r.V 0)], r.O 0⟩ ⟨[(0, r'.V 0)], r'.O 0⟩) : Fn P f cs r' := fun S vals w ha =>
  (h S vals w ha).mono fun _ _ ⟨v, he, hr, hE⟩ => ⟨v, he, hr.weak hle, hE⟩
theorem FnDC.weak {P : Program} {f : Nat} {cs : List (Bool × List C)} {r r' : Rs} (h : FnDC P f cs r) (hle : St.le0 ⟨[(0, r.V 0)], r.O 0⟩ ⟨[(0, r'.V 0)], r'.O 0⟩) : FnDC P f cs r' := ⟨h.cal, fun S vals w ha =>
  (h.fn S vals w ha).mono fun _ _ ⟨v, he, hr, hE⟩ => ⟨v, he, hr.weak hle, hE⟩⟩
theorem FnC.weak {P : Program} {f : Nat} {cs : List (Bool × List C)} {r r' : Rs} (h : FnC P f cs r) (hle : St.le0 ⟨[(0, r.V 0)], r.O 0⟩ ⟨[(0, r'.V 0)], r'.O 0⟩) : FnC P f cs r' := ⟨h.cal, h.fn.weak hle⟩
/-! ### slots behind a change of whole numbers, one by one -/
theorem hv_nil {K : List (Nat × V) → Prop} (h : K []) : hvL [] K := h
theorem hv_ro {t : Nat} {ks : List Kd} {rows : List (List C)} {r : List (Nat × V)} {K : List (Nat × V) → Prop} (h : ∀ rows', shp rows' = shp rows → hvL r fun r' => K ((t, .one (.ro ks rows')) :: r')) : hvL ((t, .one (.ro ks rows)) :: r) K := h
theorem hv_v {t : Nat} {V0 V1 : V} {r : List (Nat × V)} {K : List (Nat × V) → Prop} (e : ∀ K, hvV V0 K = K V1) (h : hvL r fun r' => K ((t, V1) :: r')) : hvL ((t, V0) :: r) K := by
  show hvV V0 _
  rw [e]; exact h
theorem shp_get {rows rows' : List (List C)} (h : shp rows' = shp rows) : rows'.length = rows.length ∧ ∀ (i : Nat) r', rows'[i]? = some r' → ∃ r, rows[i]? = some r ∧ r'.map C.len = r.map C.len := by
  have hl : rows'.length = rows.length := by have := congrArg List.length h; simpa [shp] using this
  refine ⟨hl, fun i r' hr' => ?_⟩
  have hi : i < rows.length := by rw [← hl]; exact (List.getElem?_eq_some_iff.1 hr').1
  refine ⟨rows[i], List.getElem?_eq_getElem hi, ?_⟩
  have := congrArg (·[i]?) h
  simpa [shp, hr', hi] using this
/-! ### a nil slice that is handed over -/
def nilTo1 : V → V → Prop
  | .one .nil, .one (.ro _ rows) => rows = []
  | v, v' => v = v'
def nilTo : List V → List V → Prop
  | [], [] => True
  | v :: r, v' :: r' => nilTo1 v v' ∧ nilTo r r'
  | _, _ => False
theorem nilTo_rel {w : World} {U : Nat → Prop} {ob : List (Nat × Ob)} {ρ : Nat → Value} : ∀ {l l' : List V} {vs : List Value}, nilTo l l' → All2 (VRel w U ob ρ) vs l → All2 (VRel w U ob ρ) vs l'
  | [], [], vs, _, h => h
  | v :: r, v' :: r', vs, hn, h => by
    cases vs with
    | nil => have := h.1; simp at this
    | cons u vs =>
      have h1 : VRel w U ob ρ u v := h.2 0 u v rfl rfl
      have h2 : All2 (VRel w U ob ρ) vs r := ⟨by have := h.1; simpa using this, fun j u V hu hV => h.2 (j + 1) u V (by simpa using hu) (by simpa using hV)⟩
      refine (nilTo_rel hn.2 h2).cons ?_
      have h3 := hn.1
      unfold nilTo1 at h3
      split at h3
      · subst h3
        rw [show u = .slice none 0 0 from h1]
        exact Rd.nil _
      · rw [← h3]; exact h1
/-- a function of a nil slice and of a slice of ours -/
theorem FnC.nilM {P : Program} {f : Nat} {cs : List (Bool × List C)} {r : Rs} {as : List (Bool × List Ma)} {obs : List Mo} {vs : List V} {g : Bool} (h : FnC P f cs r) (hn : nilTo (as.map (maV (· + 500000))) vs) (ha : argsA (numb 500000 obs) vs = some (cs, g)) (hp : r.plain = true) (hf : r.flat = true) : FnMC P f as obs obs r := by
  refine ⟨h.cal, fun S vals w ρ hrel hargs => ?_, rfl, fun k o o' h1 h2 => ?_, fun j hj => by rw [plain_O hp] at hj; simp [look] at hj⟩
  · refine (h.fn _ vals w (argsA_rel hrel (nilTo_rel hn hargs) ha)).mono ?_
    rintro e w' ⟨v, rfl, hret, hE⟩
    obtain ⟨ρ', h1, h2⟩ := hrel.call hret hE (d := 0) (fun j hj => by rw [plain_O hp] at hj; simp [look] at hj) (.inr hf)
    exact ⟨v, ρ', rfl, h1, h2⟩
  · rw [h1] at h2; cases h2
    cases o <;> simp [Mo.like]
/-! ### an empty slice, whatever its rows would have been -/
theorem Rd.kinds {w : World} {S : Nat → Prop} {v : Value} {ks ks' : List Kd} (h : Rd w S v (.sq ks [])) : Rd w S v (.sq ks' []) := by
  cases h with
  | nil => exact .nil ks'
  | sq a n cap ks rows xs hn hc he hS hl hr hd => exact .sq a n cap ks' [] xs hn hc (fun r hr => by cases hr) hS hl hr hd
/-- the same data, but for the kinds of empty slices -/
def nzC (c c' : C) : Prop := c = c' ∨ ∃ ks ks', c = .sq ks [] ∧ c' = .sq ks' []
def nzL : List C → List C → Prop
  | [], [] => True
  | c :: r, c' :: r' => nzC c c' ∧ nzL r r'
  | _, _ => False
def nzA : List (Bool × List C) → List (Bool × List C) → Prop
  | [], [] => True
  | (b, c) :: r, (b', c') :: r' => b = b' ∧ nzL c c' ∧ nzA r r'
  | _, _ => False
theorem nzC.rd {w : World} {S : Nat → Prop} {v : Value} {c c' : C} (hn : nzC c c') (h : Rd w S v c) : Rd w S v c' := by
  rcases hn with rfl | ⟨ks, ks', rfl, rfl⟩
  · exact h
  · exact h.kinds
theorem nzL.rd {w : World} {S : Nat → Prop} : ∀ {cs cs' : List C} {vs : List Value}, nzL cs cs' → All2 (Rd w S) vs cs → All2 (Rd w S) vs cs'
  | [], [], _, _, h => h
  | c :: r, c' :: r', vs, hn, h => by
    obtain ⟨v, vs', rfl, h1, h2⟩ := h.cons_right
    exact All2.cons (hn.1.rd h1) (nzL.rd hn.2 h2)
theorem nzL_one {c : C} {l : List C} (h : nzL [c] l) : ∃ c', l = [c'] ∧ nzC c c' := by
  cases l with
  | nil => exact h.elim
  | cons c' r => cases r with
    | nil => exact ⟨c', rfl, h.1⟩
    | cons _ _ => exact h.2.elim
theorem FnC.nz {P : Program} {f : Nat} {cs cs' : List (Bool × List C)} {r : Rs} (h : FnC P f cs' r) (hn : nzA cs cs') (hw : ∀ p ∈ cs, p.1 = true ∨ ∃ c, p.2 = [c]) : FnC P f cs r := by
  refine ⟨h.cal, fun S vals w ha => h.fn S vals w ?_⟩
  clear h
  unfold ArgsRel at ha ⊢
  induction cs generalizing cs' vals with
  | nil => cases cs' with
    | nil => exact ha
    | cons _ _ => exact hn.elim
  | cons p q ih =>
    cases cs' with
    | nil => exact hn.elim
    | cons p' q' =>
      obtain ⟨v, vs', rfl, h1, h2⟩ := ha.cons_right
      obtain ⟨b, c⟩ := p
      obtain ⟨b', c'⟩ := p'
      obtain ⟨rfl, hl, hq⟩ := hn
      refine All2.cons ?_ (ih hq (fun p hp => hw p (List.mem_cons_of_mem _ hp)) vs' h2)
      cases b with
      | true => obtain ⟨us, rfl, hu⟩ := h1; exact ⟨us, rfl, hl.rd hu⟩
      | false =>
        rcases hw _ (List.mem_cons_self ..) with hh | ⟨c0, rfl⟩
        · cases hh
        · obtain ⟨c1, rfl, hc⟩ := nzL_one hl
          exact hc.rd h1
/-! ### Part Zf of the small logic: function literals. No conditions. -/
/-- a box that is only read from now on -/
def frzS (i : Nat) (cs : List C) : Sc → Sc
  | .bx j o => if j = i then .rp (cs.drop o) else .bx j o
  | .int k n => .int k n
  | .bool b => .bool b
  | .ro ks rows => .ro ks rows
  | .nil => .nil
  | .root j => .root j
  | .rp cells => .rp cells
  | .fn f caps => .fn f caps
  | _ => .any
def frzV (i : Nat) (cs : List C) : V → V
  | .one s => .one (frzS i cs s)
  | .agg ss => .agg (ss.map (frzS i cs))
  | .tup _ => .one .any
def frzL (i : Nat) (cs : List C) : List (Nat × V) → List (Nat × V)
  | [] => []
  | (t, v) :: r => (t, frzV i cs v) :: frzL i cs r
def frz (i : Nat) (σ : St) : Option St := match look σ.ob i with
  | some (.box ss) => match unSs ss with
    | some cs => some ⟨frzL i cs σ.sl, drp σ.ob i⟩
    | none => none
  | _ => none
def frzAll (σ : St) : List V → Option St
  | [] => some σ
  | .one (.bx i _) :: r => match frz i σ with
    | some τ => frzAll τ r
    | none => frzAll σ r
  | _ :: r => frzAll σ r
section
variable {P : Program} {wv : Bool} {ty : List (Nat × Td)} {kp : List Nat} {sl : List (Nat × V)} {ob : List (Nat × Ob)} {k : Kont}
theorem z_mf {draw : Bool} {all rest : List Oper} {o : Oper} {d f : Nat} {caps : Array Operand} {τ : St} {ps : List (Bool × List C)} {cs : List C} (hd : o.dst = some d) (ho : o.op = .makeFunc (.func f) #[] caps)
    (_ : frzAll ⟨sl, ob⟩ (caps.toList.map (ev ⟨sl, ob⟩)) = some τ) (ha : argsA τ.ob (caps.toList.map (ev τ)) = some (ps, true)) (hp : unsing ps = some cs) (hle : St.le0 ⟨sl, ob⟩ τ)
    (h : Mok P wv ty kp (.ops draw all rest k) ((d, .one (.fn f ps)) :: τ.sl) τ.ob) : SX P wv ty kp (.op draw all rest k o) sl ob := by
  refine ⟨?_⟩
  show Do P wv ty kp draw all rest k o ⟨sl, ob⟩
  unfold Do
  simp only [stepK, ho, mfK, hd]
  have e := unsing_eq hp
  subst e
  exact ⟨trivial, τ, cs, hle, ha, h⟩
/-- the front part of a row of ours -/
theorem z_fs {draw : Bool} {all rest : List Oper} {o : Oper} {d id tt : Nat} {t e : TypeId} {y hi : Operand} {ks0 : List Kd} {bs : Nat} {td : Td} {ks : List Kd} {rows : List (List C)} {κ : IntKind} {n : Int} (hd : o.dst = some d) (ho : o.op = .slice t y none (some hi) none)
    (hl : look ty t = some ⟨.slice e, ks0, bs⟩) (hle : look ty e = some td) (hy : ev ⟨sl, ob⟩ y = .one (.root id)) (hob : look ob id = some (.row tt ks rows)) (hks : td.ks.length = ks.length) (hn : ev ⟨sl, ob⟩ hi = .one (.int κ n))
    (h : Mok P wv ty kp (.ops draw all rest k) ((d, .one (.fv id n.toNat)) :: sl) ob) (h0 : 0 ≤ n ∧ n ≤ rows.length ∧ 0 < rows.length) : SX P wv ty kp (.op draw all rest k o) sl ob := by
  refine ⟨?_⟩
  show Do P wv ty kp draw all rest k o ⟨sl, ob⟩
  unfold Do
  simp only [stepK, ho, still, hl, hle, hy, hob]
  refine ⟨hks, .inr ?_⟩
  simp only [frontP, hn]
  refine ⟨h0.1, h0.2.1, h0.2.2, ?_⟩
  rw [hd]; exact h
/-- an append to the front part of a row of ours, of a part of a row -/
theorem z_fa {draw : Bool} {all rest : List Oper} {o : Oper} {d id id' n : Nat} {t t' e e' : TypeId} {s y : Operand} {ks0 ks1 : List Kd} {b0 b1 : Nat} {td : Td} {rows rows' : List (List C)} {c : Call} (hd : o.dst = some d) (ho : o.op = .call c)
    (hcal : c.callee = .builtin .append) (hargs : c.args.toList = [s, y]) (hts : c.argTypes.toList = [t, t']) (hl : look ty t = some ⟨.slice e, ks0, b0⟩) (hl' : look ty t' = some ⟨.slice e', ks1, b1⟩) (hle : look ty e = some td)
    (hs : ev ⟨sl, ob⟩ s = .one (.fv id n)) (hy : ev ⟨sl, ob⟩ y = .one (.vw id' td.ks rows')) (hfl : td.ks.all Kd.flat = true) (hkp : Nat.blt 0 td.ks.length = true) (hbp : Nat.blt 0 td.bytes = true) (hob : look ob id = some (.row e td.ks rows)) (hid : Nat.blt id 500000 = true)
    {sl' : List (Nat × V)} {ob' : List (Nat × Ob)} (hsl : mapV (V.kill true id) sl = sl') (hob' : mapV (Ob.kill true id) ob = ob')
    (h : Mok P wv ty kp (.ops draw all rest k) ((d, .one (.root id)) :: sl') ((id, .row e td.ks (rows.take n ++ rows')) :: ob')) (hb : (n + rows'.length) * td.bytes ≤ 140737488355328) : SX P wv ty kp (.op draw all rest k o) sl ob := by
  subst hsl; subst hob'
  refine ⟨?_⟩
  show Do P wv ty kp draw all rest k o ⟨sl, ob⟩
  unfold Do
  simp only [stepK, ho, hcal, eff, hd, hargs, hts, hl, hl', hle, hy, srcOf, effAppend, hs, hob]
  exact ⟨hfl, trivial, lt_of_blt hkp, lt_of_blt hbp, lt_of_blt hid, trivial, trivial, hb, h⟩
/-- is something appended to a front part? -/
def cutB (ops : Array Oper) : Bool := ops.toList.any fun o => match o.op with
  | .call c => match c.callee, c.args.toList with
    | .builtin .append, .tmp t :: _ => ops.toList.any fun o' => (match o'.dst with | some d => Nat.beq d t | none => false) && match o'.op with
      | .slice _ _ none (some _) none => true
      | _ => false
    | _, _ => false
  | _ => false
/-- a region where something is appended to a front part: step by step -/
structure SC (P : Program) (wv : Bool) (ty : List (Nat × Td)) (kp : List Nat) (m : M) (sl : List (Nat × V)) (ob : List (Nat × Ob)) : Prop where h : Mok P wv ty kp m sl ob
theorem z_xf {ops : Array Oper} (_ : cutB ops = true) (hp : ordsX ops [ord1 ops] = true) (h : SC P wv ty kp (.ops true ops.toList (pick ops (ord1 ops)) k) sl ob) : SD P wv ty kp ops k sl ob := z_x hp h.h
/-- some steps -/
theorem z_st {m : M} (n : Nat) (h : run P wv ty kp n m sl ob) : SC P wv ty kp m sl ob := ⟨run_ok n h⟩
end
end Go.Vq
