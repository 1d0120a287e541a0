/- Part P of the small logic: operations in a row, in their order or in any. No conditions. -/
import Derived.Test.YtcibheinilkcoaaVcOv
import Derived.Orders
namespace Go.Vq
open Go.RowKit

/-- the program, and whether calls and stores may change whole numbers in memory that no object stands for -/
structure Ctx where
  prog : Program
  hv : Bool
instance : Coe Ctx Program := ⟨Ctx.prog⟩
def callable (P : Program) (f : Nat) : Bool := match P.funcs[f]? with
  | some fn => !(fn.name == "runtime.NumGoroutine") && fn.body.isSome
  | none => false
def CtxOk (P : Program) (x : Cx) (Γ : Ctx) : Prop := Γ.prog = P ∧ (Γ.hv = true → (∀ b, x.S b → x.M b) ∧ ∀ a, x.M a.block → x.w0.frozen? a = false)
def allNone (ob : List (Nat × Ob)) : List (Nat × Ob) → Prop
  | [] => True
  | (j, _) :: r => look ob j = none ∧ allNone ob r
def bindK (dst : Option Nat) (r : Rs) (σ : St) (K : St → Prop) : Prop := match dst with
  | some d => allNone σ.ob (r.O d) ∧ K ⟨(d, r.V d) :: σ.sl, r.O d ++ σ.ob⟩
  | none => K σ
/-- is it a type of ints or of bools? -/
def plainT (ty : List (Nat × Td)) (t : TypeId) : Bool := match look ty t with
  | some ⟨.int _, _, _⟩ => true
  | some ⟨.bool, _, _⟩ => true
  | _ => false
/-- a call that changes nothing old -/
def pureK (Γ : Ctx) (draw : Bool) (σ : St) (dst : Option Nat) (f : Nat) (caps : List (Bool × List C)) (args : List V) (K : St → Prop) : Prop := match argsA σ.ob args with
  | some (ps, g) => ∃ r, ((g = true ∨ r.flat = true ∨ FnD Γ f (ps ++ caps) r) ∧ (draw = true → r.plain = true) ∧ bindK dst r σ K) ∧ callable Γ f = true ∧ Fn Γ f (ps ++ caps) r
  | none => False
/-- a call that changes what it is handed -/
structure MutK (Γ : Ctx) (σ : St) (d : Nat) (f : Nat) (args : List V) (K : St → Prop) (ids : List Nat) (as : List (Bool × List Ma)) (obs obs' : List Mo) (r : Rs) : Prop where
  cal : callable Γ f = true
  fn : FnM Γ f as obs obs' r
  args : args = as.map (maV fun k => ids.getD k 0)
  maIn : maIn ids.length as = true
  hands : Hands σ ids obs
  len : obs'.length = ids.length
  like : ∀ (k : Nat) (o o' : Mo), obs[k]? = some o → obs'[k]? = some o' → o.like o'
  low : ∀ j, (look (r.O 0) j).isSome → j < 500000
  none : allNone σ.ob (r.O d)
  k : K ⟨(d, r.V d) :: mapV (V.killL ids) σ.sl, zipO ids obs' ++ (r.O d ++ mapV (Ob.killL ids) σ.ob)⟩
def mutK (Γ : Ctx) (draw : Bool) (σ : St) (dst : Option Nat) (f : Nat) (caps : List (Bool × List C)) (args : List V) (K : St → Prop) : Prop :=
  draw = false ∧ caps = [] ∧ ∃ d ids as obs obs' r, dst = some d ∧ MutK Γ σ d f args K ids as obs obs' r
/-- a call that is handed objects for good -/
structure HovK (Γ : Ctx) (σ : St) (d : Nat) (f : Nat) (args : List V) (K : St → Prop) (ids : List Nat) (as : List (Bool × List Ma)) (obs : List Mo) (r : Rs) : Prop where
  cal : callable Γ f = true
  fn : FnH Γ f as obs r
  args : args = as.map (maV fun k => ids.getD k 0)
  maIn : maIn ids.length as = true
  hands : Hands σ ids obs
  low : lowN ids = true
  none : allNone σ.ob (r.O d)
  k : K ⟨(d, r.V d) :: mapV (V.killA ids) σ.sl, r.O d ++ mapV (Ob.killA ids) (dropO ids σ.ob)⟩
def hovK (Γ : Ctx) (draw : Bool) (σ : St) (dst : Option Nat) (f : Nat) (caps : List (Bool × List C)) (args : List V) (K : St → Prop) : Prop :=
  draw = false ∧ caps = [] ∧ ∃ d ids as obs r, dst = some d ∧ HovK Γ σ d f args K ids as obs r
/-- a call that may change whole numbers in what it is handed to read -/
def hvcK (Γ : Ctx) (draw : Bool) (σ : St) (dst : Option Nat) (f : Nat) (caps : List (Bool × List C)) (args : List V) (K : St → Prop) : Prop :=
  draw = false ∧ caps = [] ∧ Γ.hv = true ∧ callable Γ f = true ∧ flatOb σ.ob = true ∧ ∃ d ps k m, dst = some d ∧ argsA σ.ob args = some (ps, true) ∧ FnU Γ f ps k m ∧ hvL σ.sl fun sl => K ⟨(d, .one (.int k m)) :: sl, σ.ob⟩
/-- a store of a whole number into memory that no object stands for -/
def hvsK (Γ : Ctx) (ty : List (Nat × Td)) (draw : Bool) (o : Oper) (σ : St) (K : St → Prop) : Prop :=
  draw = false ∧ Γ.hv = true ∧ flatOb σ.ob = true ∧ o.dst = none ∧ ∃ t p v sh bs k n cs m, o.op = .store t p v ∧ look ty t = some ⟨sh, [.int k], bs⟩ ∧ ev σ p = .one (.rp (.int k n :: cs)) ∧ ev σ v = .one (.int k m) ∧ hvL σ.sl fun sl => K ⟨sl, σ.ob⟩
def callK (Γ : Ctx) (draw pl : Bool) (σ : St) (dst : Option Nat) (callee : V) (args : List V) (K : St → Prop) : Prop := match callee with
  | .one (.fn f caps) => pureK Γ pl σ dst f caps args K ∨ mutK Γ draw σ dst f caps args K ∨ hovK Γ draw σ dst f caps args K ∨ hvcK Γ draw σ dst f caps args K
  | _ => False
/-- a function literal: what it captures is data, of the state that it leaves -/
def mfK (σ : St) (dst : Option Nat) (fn : Go.Fn) (first caps : Array Operand) (K : St → Prop) : Prop := match dst, fn with
  | some d, .func f => first = #[] ∧ ∃ (τ : St) (cs : List C), St.le0 σ τ ∧ argsA τ.ob (caps.toList.map (ev τ)) = some (cs.map fun c => (false, [c]), true) ∧ K ⟨(d, .one (.fn f (cs.map fun c => (false, [c])))) :: τ.sl, τ.ob⟩
  | _, _ => False
def stepK (Γ : Ctx) (ty : List (Nat × Td)) (draw : Bool) (o : Oper) (σ : St) (K : St → Prop) : Prop := match o.op with
  | .call c => match c.callee with
    | .value f => callK Γ draw (draw && plainT ty o.type) σ o.dst (ev σ f) (c.args.toList.map (ev σ)) K
    | .builtin .append => eff ty o σ K
    | _ => still ty o σ fun V => K (σ.put o.dst V)
  | .store _ _ _ => eff ty o σ K ∨ hvsK Γ ty draw o σ K
  | .alloc _ | .box _ _ | .makeSlice _ _ _ | .buildSlice _ _ _ => eff ty o σ K
  | .makeFunc fn first caps => mfK σ o.dst fn first caps K
  | _ => still ty o σ fun V => K (σ.put o.dst V)
def vcOps (Γ : Ctx) (ty : List (Nat × Td)) (draw : Bool) (all : List Oper) : List Oper → St → (St → Prop) → Prop
  | [], σ, K => K σ
  | o :: r, σ, K => match o.guard with
    | none => stepK Γ ty draw o σ fun σ => vcOps Γ ty draw all r σ K
    | some (j, want) => match (all[j]?).bind (·.dst) with
      | some d => match look σ.sl d with
        | some (.one (.bool b)) => if b = want then stepK Γ ty draw o ⟨(d, .one (.bool want)) :: σ.sl, σ.ob⟩ fun σ => vcOps Γ ty draw all r σ K
            else vcOps Γ ty draw all r ((⟨(d, .one (.bool !want)) :: σ.sl, σ.ob⟩ : St).put o.dst (.one .und)) K
        | some (.one .und) => vcOps Γ ty draw all r (σ.put o.dst (.one .und)) K
        | _ => False
      | none => False

section
variable {P : Program} {x : Cx} {σ : St} {ρ : Nat → Value} {a : Act} {w w' : World} {o : Oper} {ty : List (Nat × Td)} {Γ : Ctx} {K : St → Prop}

theorem put_size (a : Act) (d : Option Tmp) (v : Value) : (a.put d v).tmps.size = a.tmps.size := by cases d <;> simp [Act.put]
theorem allNone.get : ∀ {l : List (Nat × Ob)}, allNone σ.ob l → ∀ j, (look l j).isSome → look σ.ob j = none
  | [], _, j, h => by simp [look] at h
  | (i, o) :: r, hn, j, h => by
    simp only [look] at h
    by_cases hij : i = j
    · subst hij; exact hn.1
    · rw [if_neg hij] at h; exact allNone.get hn.2 j h

/-- how a call begins -/
theorem run_call {c : Call} {f : Operand} (ho : o.op = .call c) (hf : c.callee = .value f) {n : Nat} {caps : List Value} (hv : a.eval f = .func (.func n) #[] caps.toArray) (hn : callable P n = true) (w : World) :
    (execOp a.eval o).run P w = .ok (.enter n ((c.args.toList.map a.eval) ++ caps).toArray) w := by
  unfold callable at hn
  split at hn
  · rename_i fn hfn
    simp only [Bool.and_eq_true, Bool.not_eq_true'] at hn
    obtain ⟨h1, h2⟩ := hn
    have h2' : fn.body.isNone = false := by cases hb : fn.body <;> simp_all
    unfold execOp; rw [ho]
    simp only [resolve, hf, hv, Deferred.ofValue, Sem.run_bind, Sem.run_pure, Result.andThen_ok, invoke, callFunc, run_program, hfn, h1, Bool.false_eq_true, if_false, h2']
    congr 2
    apply Array.ext'
    simp
  · cases hn

def Rc.val : Rc → Value
  | .int k n => .int k n
  | .bool b => .bool b
  | _ => undef
def Rs.val : Rs → Value
  | .one c => c.val
  | .agg cs => .agg (cs.map Rc.val).toArray
  | .tup _ => undef
theorem plain_list {U : Nat → Prop} {ob : List (Nat × Ob)} : ∀ {cs : List Rc} {d : Nat} {vs : List Value}, cs.all Rc.plain = true → All2 (SRel w U ob ρ) vs (scsOf d cs) → vs = cs.map Rc.val
  | [], d, vs, _, h => All2.nil_right h
  | .int k n :: r, d, vs, hp, h => by
    obtain ⟨v, vs', rfl, h1, h2⟩ := h.cons_right
    simp only [List.all_cons, Bool.and_eq_true] at hp
    rw [show v = .int k n from h1, plain_list hp.2 h2]; rfl
  | .bool b :: r, d, vs, hp, h => by
    obtain ⟨v, vs', rfl, h1, h2⟩ := h.cons_right
    simp only [List.all_cons, Bool.and_eq_true] at hp
    rw [show v = .bool b from h1, plain_list hp.2 h2]; rfl
  | .own _ _ _ :: r, d, vs, hp, h => by simp [Rc.plain] at hp
  | .fz _ _ :: r, d, vs, hp, h => by simp [Rc.plain] at hp
  | .bx _ :: r, d, vs, hp, h => by simp [Rc.plain] at hp
theorem plain_val {U : Nat → Prop} {ob : List (Nat × Ob)} {r : Rs} {d : Nat} {v : Value} (hp : r.plain = true) (h : VRel w U ob ρ v (r.V d)) : v = r.val := by
  cases r with
  | one c =>
    cases c with
    | int k n => exact h
    | bool b => exact h
    | _ => simp [Rs.plain, Rc.plain] at hp
  | agg cs =>
    obtain ⟨vs, rfl, h⟩ := h
    rw [plain_list hp h]; rfl
  | tup _ => simp [Rs.plain] at hp
theorem plain_obs : ∀ {cs : List Rc} (d : Nat), cs.all Rc.plain = true → obsOf d cs = []
  | [], d, _ => rfl
  | .int k n :: r, d, hp => by simp only [List.all_cons, Bool.and_eq_true] at hp; exact plain_obs (cs := r) d hp.2
  | .bool b :: r, d, hp => by simp only [List.all_cons, Bool.and_eq_true] at hp; exact plain_obs (cs := r) d hp.2
  | .own _ _ _ :: r, d, hp => by simp [Rc.plain] at hp
  | .fz _ _ :: r, d, hp => by simp [Rc.plain] at hp
  | .bx _ :: r, d, hp => by simp [Rc.plain] at hp
theorem plain_O {r : Rs} (hp : r.plain = true) (d : Nat) : r.O d = [] := by
  cases r with
  | one c => exact plain_obs (cs := [c]) d (by simpa [Rs.plain] using hp)
  | agg cs => exact plain_obs d hp
  | tup _ => simp [Rs.plain] at hp

theorem sa_top {U : Nat → Prop} {g : Bool} : ∀ b, U b → SA U g b := by intro b hb; cases g <;> simp_all [SA]

theorem args_rel (h : Rel x σ ρ a w) {args : List Operand} {ps : List (Bool × List C)} {g : Bool} {caps : List (Bool × List C)} {cv : List Value} (hp : argsA σ.ob (args.map (ev σ)) = some (ps, g)) (hc : All2 (CapRel w (x.U σ.ob ρ)) cv caps) :
    ArgsRel w (SA (x.U σ.ob ρ) g) (args.map a.eval ++ cv) (ps ++ caps) := by
  have h1 : All2 (VRel w (x.U σ.ob ρ) σ.ob ρ) (args.map a.eval) (args.map (ev σ)) := by
    refine ⟨by simp, fun j u V hu hV => ?_⟩
    simp only [List.getElem?_map, Option.map_eq_some_iff] at hu hV
    obtain ⟨p, hp, rfl⟩ := hu
    obtain ⟨p', hp', rfl⟩ := hV
    rw [hp] at hp'; cases hp'
    exact ev_rel h p
  exact (argsA_rel h h1 hp).append (hc.mono fun _ _ q => q.sa sa_top)

/-- a call, wherever its result lies -/
theorem Fn.orD {f : Nat} {ps : List (Bool × List C)} {vals : List Value} {r : Rs} {g : Bool} {U : Nat → Prop} (ha : ArgsRel w (SA U g) vals ps) (hfn : Fn P f ps r) (hgf : g = true ∨ r.flat = true ∨ FnD P f ps r) :
    Calls P f vals.toArray w fun e w' => ∃ v, e = .returned v ∧ Ret (SA U (g || !r.flat)) w w' v r ∧ Ext w w' NoM := by
  by_cases hq : (g || !r.flat) = g
  · rw [hq]; exact hfn _ _ w ha
  · have hd : FnD P f ps r := by
      rcases hgf with rfl | hf | hd
      · simp at hq
      · simp [hf] at hq
      · exact hd
    exact (hd _ _ w ha).mono fun _ _ ⟨v, e, hr, hE⟩ => ⟨v, e, hr.wider fun _ f => f.elim, hE⟩
theorem run_storeInt {t : TypeId} {i : TypeInfo} (hi : P.info? t = some i) (h1 : i.size = 1) {ad : Addr} {k : IntKind} {n m : Int} (hc : w.cell? ad = some (.int k n)) (hz : w.frozen? ad = false) :
    (Instr.storeAt t (.pointer (some ad)) (.int k m)).run P w = .ok () (w.setCell ad (.int k m)) := by
  have hst : (store ad (.int k m)).run P w = .ok () (w.setCell ad (.int k m)) := by
    rw [run_store P w ad _ _ rfl, hc]; simp [hz]
  have hcl : (Value.int k m).cells.toList = [.int k m] := rfl
  have hsz : (Value.int k m).cells.size = 1 := rfl
  simp only [Instr.storeAt, Instr.sureAddr, Sem.run_bind, Sem.run_pure, Result.andThen_ok, storeVar, run_sizeOf' hi, hsz, h1, ne_eq, not_true_eq_false, if_false, hcl, storeCells, Addr.add_zero', hst]
/-- one operation, in its place -/
theorem step_ext {dr : Bool} (hty : TyOk P ty) (hΓ : CtxOk P x Γ) (h : Rel x σ ρ a w) (hd : dstOk a.tmps.size o.dst = true) (hs : stepK Γ ty dr o σ K) {next : Act → World → Prop} {Q : Exit → Act → World → Prop}
    (hn : ∀ σ' ρ' a' w', K σ' → Rel x σ' ρ' a' w' → a'.tmps.size = a.tmps.size → (dr = true → chgO o = false → Ext w w' NoM) → next a' w') : o.wp P a w next Q := by
  obtain ⟨pg, hvb⟩ := Γ
  have hhv := hΓ.2
  have hΓ' : P = pg := Eq.symm hΓ.1
  subst hΓ'
  have still_case : still ty o σ (fun V => K (σ.put o.dst V)) → o.wp P a w next Q := by
    intro hs
    obtain ⟨V, hK, v, hv, hr⟩ := still_sound hty h hs
    unfold Oper.wp
    rw [hr w (fun _ => Ext.refl w _), Oper.upon_value]
    exact hn _ ρ _ _ hK (h.put hd hv) (put_size _ _ _) (fun _ _ => Ext.refl _ _)
  have eff_case : EffOk P x a w o K → o.wp P a w next Q := by
    rintro ⟨σ', ρ', w', hK, hX, ⟨v, hr, hrel⟩ | ⟨hr, hrel⟩⟩
    · unfold Oper.wp
      rw [hr, Oper.upon_value]
      exact hn _ ρ' _ _ hK hrel (put_size _ _ _) (fun _ => hX)
    · unfold Oper.wp
      rw [hr, Oper.upon_skip]
      exact hn _ ρ' _ _ hK hrel (put_size _ _ _) (fun _ => hX)
  have dlt : ∀ d, o.dst = some d → d < a.tmps.size := fun d e => by rw [e] at hd; simpa [dstOk] using hd
  cases ho : o.op with
  | call c =>
    simp only [stepK, ho] at hs
    cases hcal : c.callee with
    | value f =>
      rw [hcal] at hs
      simp only [callK] at hs
      have hf := ev_rel h f
      split at hs
      · rename_i n caps he; rw [he] at hf
        obtain ⟨cv, hcv, hcr⟩ := hf
        rcases hs with hs | ⟨hdr, hcaps, d, ids, as, obs, obs', r, hdst, hm⟩ | ⟨hdr, hcaps, d, ids, as, obs, r, hdst, hm⟩ | ⟨hdr, hcaps, hhv1, hcall, hfl, d, ps, k, m, hdst, hargs, hfn, hK⟩
        rotate_left
        rotate_left
        rotate_left
        · subst hcaps
          have ha := args_rel h hargs hcr
          obtain ⟨hSM, hfz⟩ := hhv hhv1
          unfold Oper.wp
          rw [run_call ho hcal hcv hcall w, Oper.upon_enter]
          rw [List.append_nil] at ha
          refine (hfn _ _ w (fun ad had => ?_) ha).mono ?_
          · rw [h.grow.frozen ad]
            have hb : x.M ad.block ∨ x.w0.heap.size ≤ ad.block := by
              rcases had.1 with hb | hb | hb
              · exact .inl (hSM _ hb)
              · exact .inl hb
              · exact .inr hb
            rcases hb with hb | hb
            · exact hfz ad hb
            · have : x.w0.heap[ad.block]? = none := by simp; exact hb
              simp [World.frozen?, this]
          · rintro e w' ⟨rfl, hE⟩
            show next (a.put o.dst _) w'
            obtain ⟨sl', h1, h2⟩ := h.hv hSM hfl hE hK
            rw [hdst]
            exact hn _ ρ _ _ h1 (h2.put (d := some d) (by simpa [dstOk] using dlt d hdst) (V := .one (.int k m)) rfl) (put_size _ _ _) (fun e => by rw [hdr] at e; cases e)
        rotate_left
        · subst hcaps
          have hcv0 : cv = [] := hcr.nil_right
          subst hcv0
          have hargs : All2 (VRel w (x.U σ.ob ρ) σ.ob ρ) (c.args.toList.map a.eval) (as.map (maV fun k => ids.getD k 0)) := by
            rw [← hm.args]
            refine ⟨by simp, fun j u V hu hV => ?_⟩
            simp only [List.getElem?_map, Option.map_eq_some_iff] at hu hV
            obtain ⟨p, hp, rfl⟩ := hu
            obtain ⟨p', hp', rfl⟩ := hV
            rw [hp] at hp'; cases hp'
            exact ev_rel h p
          unfold Oper.wp
          rw [run_call ho hcal hcv hm.cal w, Oper.upon_enter, List.append_nil]
          refine (hm.fn _ _ w _ (h.menter hm.hands).1 (mas_rel h hm.hands hm.maIn hargs)).mono ?_
          rintro e w' ⟨v, ρ', rfl, hr, hv⟩
          show next (a.put o.dst v) w'
          obtain ⟨ρ2, h1, h2⟩ := h.mleave hm.hands hm.len hm.like hr hv hm.low (d := d) (fun j hj => hm.none.get j hj)
          rw [hdst]
          exact hn _ ρ2 _ _ hm.k (h1.put (d := some d) (by simpa [dstOk] using dlt d hdst) h2) (put_size _ _ _) (fun e => by rw [hdr] at e; cases e)
        · subst hcaps
          have hcv0 : cv = [] := hcr.nil_right
          subst hcv0
          have hargs : All2 (VRel w (x.U σ.ob ρ) σ.ob ρ) (c.args.toList.map a.eval) (as.map (maV fun k => ids.getD k 0)) := by
            rw [← hm.args]
            refine ⟨by simp, fun j u V hu hV => ?_⟩
            simp only [List.getElem?_map, Option.map_eq_some_iff] at hu hV
            obtain ⟨p, hp, rfl⟩ := hu
            obtain ⟨p', hp', rfl⟩ := hV
            rw [hp] at hp'; cases hp'
            exact ev_rel h p
          unfold Oper.wp
          rw [run_call ho hcal hcv hm.cal w, Oper.upon_enter, List.append_nil]
          refine (hm.fn _ _ w _ (h.henter hm.hands).1 (mhs_rel h hm.hands hm.maIn hargs)).mono ?_
          rintro e w' ⟨v, ρ', rfl, hr, hv⟩
          show next (a.put o.dst v) w'
          obtain ⟨ρ2, h1, h2⟩ := h.hleave hm.hands hm.low hr hv (d := d) (fun j hj => hm.none.get j hj)
          rw [hdst]
          exact hn _ ρ2 _ _ hm.k (h1.put (d := some d) (by simpa [dstOk] using dlt d hdst) h2) (put_size _ _ _) (fun e => by rw [hdr] at e; cases e)
        unfold pureK at hs
        split at hs
        · rename_i ps g hargs
          obtain ⟨r, ⟨hgf, _, hK⟩, hcall, hfn⟩ := hs
          have ha := args_rel h hargs hcr
          unfold Oper.wp
          rw [run_call ho hcal hcv hcall w, Oper.upon_enter]
          refine (Fn.orD ha hfn hgf).mono ?_
          rintro e w' ⟨v, rfl, hret, hE⟩
          show next (a.put o.dst v) w'
          cases hdst : o.dst with
          | none =>
            rw [hdst] at hK
            exact hn _ ρ _ _ hK (h.grown hE) rfl (fun _ _ => hE)
          | some d =>
            rw [hdst] at hK
            obtain ⟨hno, hK⟩ := hK
            obtain ⟨ρ', h1, h2⟩ := Rel.call h (g := g || !r.flat) hret hE (d := d) (fun j hj => hno.get j hj) (by cases r.flat <;> simp)
            exact hn _ ρ' _ _ hK (h1.put (d := some d) (by simpa [dstOk] using dlt d hdst) h2) (put_size _ _ _) (fun _ _ => hE)
        · exact hs.elim
      · exact hs.elim
    | invoke r m => rw [hcal] at hs; exact still_case hs
    | builtin b =>
      rw [hcal] at hs
      cases b with
      | append =>
        cases hdst : o.dst with
        | none => simp only [eff, ho, hdst] at hs
        | some d => exact eff_case (sound_append hty h ho hdst (dlt d hdst) hs)
      | _ => exact still_case hs
  | alloc t =>
    simp only [stepK, ho] at hs
    cases hdst : o.dst with
    | none => simp only [eff, ho, hdst] at hs
    | some d => exact eff_case (sound_alloc hty h ho hdst (dlt d hdst) hs)
  | box t v =>
    simp only [stepK, ho] at hs
    cases hdst : o.dst with
    | none => simp only [eff, ho, hdst] at hs
    | some d => exact eff_case (sound_box h ho hdst (dlt d hdst) hs)
  | store t p v =>
    simp only [stepK, ho] at hs
    cases hdst : o.dst with
    | some d =>
      rcases hs with hs | ⟨_, _, _, e, _⟩
      · simp only [eff, ho, hdst] at hs
      · rw [hdst] at e; cases e
    | none =>
      rcases hs with hs | ⟨hdr, hhv1, hfl, _, t', p', v', sh, bs, k, n, cs, m, ho', hl, hp, hv, hK⟩
      · exact eff_case (sound_store hty h ho hdst hs)
      · rw [ho] at ho'; cases ho'
        obtain ⟨hSM, hfz⟩ := hhv hhv1
        have hp' := ev_rel h p
        have hv' := ev_rel h v
        rw [hp] at hp'; rw [hv] at hv'
        obtain ⟨ad, e1, e2, e3⟩ := hp'
        obtain ⟨u, hu, hr⟩ := e3 0 _ rfl
        rw [Addr.add_zero'] at hu
        rw [hr.int_inv] at hu
        have hb := e2 (by simp)
        obtain ⟨i, ds, hi, _, hsz, _⟩ := tdB.info (hty.get hl)
        have hz : w.frozen? ad = false := by
          rw [h.grow.frozen ad]
          have hb : x.M ad.block ∨ x.w0.heap.size ≤ ad.block := by
            rcases hb.1 with hb | hb | hb
            · exact .inl (hSM _ hb)
            · exact .inl hb
            · exact .inr hb
          rcases hb with hb | hb
          · exact hfz ad hb
          · have : x.w0.heap[ad.block]? = none := by simp; exact hb
            simp [World.frozen?, this]
        obtain ⟨sl', h1, h2⟩ := h.hv hSM hfl (HExt.setCell hb hu m) hK
        have hrun : (execOp a.eval o).run P w = .ok .skip (w.setCell ad (.int k m)) := by
          unfold execOp; rw [ho]
          simp only [e1, hv'.one_int, Sem.run_bind, run_storeInt hi (by rw [hsz]; rfl) hu hz, Result.andThen_ok, Sem.run_pure]
        unfold Oper.wp
        rw [hrun, Oper.upon_skip]
        exact hn _ ρ _ _ h1 (by rw [hdst]; exact h2) (put_size _ _ _) (fun e => by rw [hdr] at e; cases e)
  | makeSlice t n c =>
    simp only [stepK, ho] at hs
    cases hdst : o.dst with
    | none => simp only [eff, ho, hdst] at hs
    | some d => exact eff_case (sound_makeSlice hty h ho hdst (dlt d hdst) hs)
  | buildSlice t n c =>
    simp only [stepK, ho] at hs
    cases hdst : o.dst with
    | none => simp only [eff, ho, hdst] at hs
    | some d => exact eff_case (sound_buildSlice hty h ho hdst (dlt d hdst) hs)
  | makeFunc fn first caps =>
    simp only [stepK, ho] at hs
    unfold mfK at hs
    split at hs
    · rename_i d f hdst
      obtain ⟨rfl, τ, cs, hle, hargs, hK⟩ := hs
      obtain ⟨ρ', hτ⟩ := h.le0 hle
      have ha := args_rel hτ hargs All2.nil
      simp only [List.append_nil] at ha
      have hrun : (execOp a.eval o).run P w = .ok (.value (.func (.func f) #[] (caps.toList.map a.eval).toArray)) w := by
        simp [execOp, ho, Instr.makeFunc]
        cases caps; simp
      unfold Oper.wp
      rw [hrun, Oper.upon_value, hdst]
      exact hn _ ρ' _ _ hK (hτ.put (d := some d) (by simpa [dstOk] using dlt d hdst) ⟨_, rfl, by simpa [SA, ArgsRel] using ha⟩) (put_size _ _ _) (fun _ _ => Ext.refl _ _)
    · exact hs.elim
  | _ => exact still_case (by simpa only [stepK, ho] using hs)

theorem step_sound (hty : TyOk P ty) (hΓ : CtxOk P x Γ) (h : Rel x σ ρ a w) (hd : dstOk a.tmps.size o.dst = true) (hs : stepK Γ ty false o σ K) {next : Act → World → Prop} {Q : Exit → Act → World → Prop}
    (hn : ∀ σ' ρ' a' w', K σ' → Rel x σ' ρ' a' w' → a'.tmps.size = a.tmps.size → next a' w') : o.wp P a w next Q :=
  step_ext hty hΓ h hd hs fun σ' ρ' a' w' h1 h2 h3 _ => hn σ' ρ' a' w' h1 h2 h3
/-- does an operation make or change memory, or a function? -/
def memO (o : Oper) : Bool := match o.op with
  | .alloc _ | .box _ _ | .store _ _ _ | .makeSlice _ _ _ | .buildSlice _ _ _ | .makeFunc _ _ _ => true
  | .call c => match c.callee with
    | .builtin .append => true
    | _ => false
  | _ => false

/-- one operation of a region that draws its order -/
theorem step_quiet (hty : TyOk P ty) (hΓ : CtxOk P x Γ) (h : Rel x σ ρ a w) (hd : dstOk a.tmps.size o.dst = true) (hpt : ∀ c f, o.op = .call c → c.callee = .value f → plainT ty o.type = true) (hmo : memO o = false) (hs : stepK Γ ty true o σ K) {next : Act → Prop}
    (hn : ∀ σ' ρ' a', K σ' → Rel x σ' ρ' a' w → a'.tmps.size = a.tmps.size → next a') : o.quiet P a (fun w' => Ext w w' NoM) next := by
  obtain ⟨pg, hvb⟩ := Γ
  have hhv := hΓ.2
  have hΓ' : P = pg := Eq.symm hΓ.1
  subst hΓ'
  have still_case : still ty o σ (fun V => K (σ.put o.dst V)) → o.quiet P a (fun w' => Ext w w' NoM) next := by
    intro hs
    obtain ⟨V, hK, v, hv, hr⟩ := still_sound hty h hs
    refine ⟨v, fun w' hw' => ?_, hn _ ρ _ hK (h.put hd hv) (put_size _ _ _)⟩
    unfold Oper.quietAt
    rw [hr w' fun _ => hw']
    exact ⟨rfl, rfl⟩
  have dlt : ∀ d, o.dst = some d → d < a.tmps.size := fun d e => by rw [e] at hd; simpa [dstOk] using hd
  cases ho : o.op with
  | call c =>
    simp only [stepK, ho] at hs
    cases hcal : c.callee with
    | value f =>
      rw [hcal] at hs
      simp only [callK] at hs
      have hf := ev_rel h f
      split at hs
      · rename_i n caps he; rw [he] at hf
        obtain ⟨cv, hcv, hcr⟩ := hf
        rcases hs with hs | ⟨hdr, _⟩ | ⟨hdr, _⟩ | ⟨hdr, _⟩
        rotate_left
        · cases hdr
        · cases hdr
        · cases hdr
        unfold pureK at hs
        split at hs
        · rename_i ps g hargs
          obtain ⟨r, ⟨hgf, hpl, hK⟩, hcall, hfn⟩ := hs
          have hpl := hpl (by rw [hpt c f ho hcal]; rfl)
          refine ⟨r.val, fun w' hw' => ?_, ?_⟩
          · unfold Oper.quietAt
            rw [run_call ho hcal hcv hcall w']
            refine ⟨rfl, ?_⟩
            have hg := h.grown hw'
            have hcr' : All2 (CapRel w' (x.U σ.ob ρ)) cv caps := hcr.mono fun _ _ q => q.mono (fun _ _ h => h) fun a u _ hu => hw'.cell (fun f => f) hu
            refine (hfn _ _ w' (args_rel hg hargs hcr')).mono ?_
            rintro e w'' ⟨v, rfl, hret, hE⟩
            obtain ⟨ρ', _, h2⟩ := hret
            exact ⟨by rw [plain_val hpl h2], hw'.trans hE (fun _ f => f.elim)⟩
          · have hv : ∀ d, VRel w (x.U σ.ob ρ) σ.ob ρ r.val (r.V d) := fun d => by
              cases r with
              | one c => cases c with
                | int k n => exact (rfl : _ = _)
                | bool b => exact (rfl : _ = _)
                | _ => simp [Rs.plain, Rc.plain] at hpl
              | agg cs =>
                refine ⟨cs.map Rc.val, rfl, ?_⟩
                have key : ∀ (cs : List Rc), cs.all Rc.plain = true → All2 (SRel w (x.U σ.ob ρ) σ.ob ρ) (cs.map Rc.val) (scsOf d cs) := by
                  intro cs
                  induction cs with
                  | nil => intro _; exact All2.nil
                  | cons c r ih =>
                    intro hp
                    simp only [List.all_cons, Bool.and_eq_true] at hp
                    cases c with
                    | int k n => exact All2.cons (rfl : _ = _) (ih hp.2)
                    | bool b => exact All2.cons (rfl : _ = _) (ih hp.2)
                    | _ => simp [Rc.plain] at hp
                exact key cs hpl
              | tup _ => simp [Rs.plain] at hpl
            cases hdst : o.dst with
            | none => rw [hdst] at hK; exact hn _ ρ _ hK h rfl
            | some d =>
              rw [hdst] at hK
              simp only [bindK, plain_O hpl, List.nil_append] at hK
              exact hn _ ρ _ hK.2 (h.put (d := some d) (by simpa [dstOk] using dlt d hdst) (hv d)) (put_size _ _ _)
        · exact hs.elim
      · exact hs.elim
    | invoke r m => rw [hcal] at hs; exact still_case hs
    | builtin b =>
      rw [hcal] at hs
      cases b <;> first | exact still_case hs | (simp [memO, ho, hcal] at hmo)
  | alloc t => simp [memO, ho] at hmo
  | box t v => simp [memO, ho] at hmo
  | store t p v => simp [memO, ho] at hmo
  | makeSlice t n c => simp [memO, ho] at hmo
  | buildSlice t n c => simp [memO, ho] at hmo
  | makeFunc fn first caps => simp [memO, ho] at hmo
  | _ => exact still_case (by simpa only [stepK, ho] using hs)

/-- the guard's value is known: it may stand in its slot -/
theorem Rel.know (h : Rel x σ ρ a w) {d : Nat} {b c : Bool} (hl : look σ.sl d = some (.one (.bool b))) (hb : b = c) : Rel x ⟨(d, .one (.bool c)) :: σ.sl, σ.ob⟩ ρ a w := by
  refine ⟨fun t V hV => ?_, h.objs, h.sep, h.fresh, h.grow, h.defers, h.fix⟩
  simp only [look_cons] at hV
  split at hV
  · rename_i ht; subst ht
    cases hV; rw [← hb]; exact h.slots d _ hl
  · exact h.slots t V hV
theorem yielded_of (h : Rel x σ ρ a w) {ops : Array Oper} {j d : Nat} {b : Bool} (hj : (ops.toList[j]?).bind (·.dst) = some d) (hl : look σ.sl d = some (.one (.bool b))) (hsz : d < a.tmps.size) : yielded ops a.tmps j = some b := by
  have h1 : a.tmps.getD d undef = .bool b := h.slots d _ hl
  have h2 : a.tmps[d]? = some (.bool b) := by
    rw [Array.getElem?_eq_getElem hsz]
    simpa [Array.getD, hsz] using h1
  have hj' : (ops[j]?).bind (·.dst) = some d := by rw [← Array.getElem?_toList]; exact hj
  simp [yielded, hj', h2]

theorem yielded_und (h : Rel x σ ρ a w) {ops : Array Oper} {j d : Nat} (hj : (ops.toList[j]?).bind (·.dst) = some d) (hl : look σ.sl d = some (.one .und)) (hsz : d < a.tmps.size) : yielded ops a.tmps j = none := by
  have h1 : a.tmps.getD d undef = undef := h.slots d _ hl
  have h2 : a.tmps[d]? = some undef := by
    rw [Array.getElem?_eq_getElem hsz]
    simpa [Array.getD, hsz] using h1
  have hj' : (ops[j]?).bind (·.dst) = some d := by rw [← Array.getElem?_toList]; exact hj
  simp [yielded, hj', h2, undef]
theorem dst_lt {ops : Array Oper} {n j d : Nat} (hd : ∀ o ∈ ops.toList, dstOk n o.dst = true) (hj : (ops.toList[j]?).bind (·.dst) = some d) : d < n := by
  cases hq : ops.toList[j]? with
  | none => rw [hq] at hj; cases hj
  | some o =>
    rw [hq] at hj
    have := hd o (List.mem_of_getElem? hq)
    simp only [Option.bind_some] at hj
    rw [hj] at this
    simpa [dstOk] using this

theorem perm_sound (hty : TyOk P ty) (hΓ : CtxOk P x Γ) {ops : Array Oper} {N : Nat} (hd : ∀ o ∈ ops.toList, dstOk N o.dst = true) {Q : Exit → Act → World → Prop}
    (hn : ∀ σ' ρ' a' w', K σ' → Rel x σ' ρ' a' w' → a'.tmps.size = N → Q .normal a' w') :
    ∀ (is : List Nat) (rest : List Oper), is.map (fun i => ops[i]?) = rest.map some → ∀ (σ : St) (ρ : Nat → Value) (a : Act) (w : World), Rel x σ ρ a w → a.tmps.size = N → vcOps Γ ty false ops.toList rest σ K → wpOps P ops Q is a w
  | [], [], _, σ, ρ, a, w, h, hN, hs => hn σ ρ a w hs h hN
  | i :: is, o :: r, hl, σ, ρ, a, w, h, hN, hs => by
    simp only [List.map_cons, List.cons.injEq] at hl
    obtain ⟨ho, hl⟩ := hl
    have hdo : dstOk a.tmps.size o.dst = true := by rw [hN]; exact hd o (List.mem_of_getElem? (by rw [Array.getElem?_toList]; exact ho))
    simp only [wpOps, ho]
    have ih := perm_sound hty hΓ hd hn is r hl
    simp only [vcOps] at hs
    split at hs
    · rename_i hg
      have hw : Region.wanted o (yielded ops a.tmps) = true := by simp [Region.wanted, hg]
      rw [if_pos hw]
      exact .inl (step_sound hty hΓ h hdo hs fun σ' ρ' a' w' hK hrel hsz => ih σ' ρ' a' w' hrel (by rw [hsz, hN]) hK)
    · rename_i j want hg
      split at hs
      · rename_i d hjd
        split at hs
        · rename_i b hl'
          have hy := yielded_of (ops := ops) h hjd hl' (by rw [hN]; exact dst_lt hd hjd)
          by_cases hb : b = want
          all_goals simp only [hb, if_true, if_false] at hs
          · have hw : Region.wanted o (yielded ops a.tmps) = true := by simp [Region.wanted, hg, hy, hb]
            rw [if_pos hw]
            exact .inl (step_sound hty hΓ (h.know hl' hb) hdo hs fun σ' ρ' a' w' hK hrel hsz => ih σ' ρ' a' w' hrel (by rw [hsz, hN]) hK)
          · have hw : ¬ Region.wanted o (yielded ops a.tmps) = true := by simp [Region.wanted, hg, hy, hb]
            rw [if_neg hw]
            have hb' : b = !want := by cases b <;> cases want <;> simp_all
            exact ih _ ρ _ w ((h.know hl' hb').put hdo (v := undef) (V := .one .und) rfl) (by rw [put_size, hN]) hs
        · rename_i hl'
          have hy := yielded_und (ops := ops) h hjd hl' (by rw [hN]; exact dst_lt hd hjd)
          have hw : ¬ Region.wanted o (yielded ops a.tmps) = true := by simp [Region.wanted, hg, hy]
          rw [if_neg hw]
          exact ih _ ρ _ w (h.put hdo (v := undef) (V := .one .und) rfl) (by rw [put_size, hN]) hs
        · exact hs.elim
      · exact hs.elim
  | [], _ :: _, hl, _, _, _, _, _, _, _ => by simp at hl
  | _ :: _, [], hl, _, _, _, _, _, _, _ => by simp at hl
theorem range_ops (ops : Array Oper) : (List.range' 0 ops.size).map (fun i => ops[i]?) = ops.toList.map some := by
  refine List.ext_getElem? fun i => ?_
  by_cases hi : i < ops.size
  · simp [hi]
  · have : (List.range' 0 ops.size)[i]? = none := by simp; omega
    simp [hi]

/-! ### every order -/
def orders (md : Region.Mode) (ops : Array Oper) : Nat → Array Bool → List (List Nat)
  | 0, _ => [[]]
  | n + 1, listed => match Region.ready md ops listed with
    | [] => [[]]
    | i :: r => (i :: r).flatMap fun i => (orders md ops n (listed.setIfInBounds i true)).map (i :: ·)
theorem orders_lt {md : Region.Mode} {ops : Array Oper} : ∀ {n : Nat} {listed : Array Bool} {p : List Nat}, p ∈ orders md ops n listed → ∀ i ∈ p, i < ops.size
  | 0, _, p, h, i, hi => by simp only [orders, List.mem_singleton] at h; subst h; cases hi
  | n + 1, listed, p, h, i, hi => by
    simp only [orders] at h
    split at h
    · simp only [List.mem_singleton] at h; subst h; cases hi
    · rename_i i0 r hr
      simp only [List.mem_flatMap, List.mem_map] at h
      obtain ⟨j, hj, q, hq, rfl⟩ := h
      rcases List.mem_cons.1 hi with rfl | hi
      · rw [← hr] at hj
        have := (List.mem_filter.1 hj).1
        exact List.mem_range.1 this
      · exact orders_lt hq i hi
theorem lin_mem {md : Region.Mode} {ops : Array Oper} : ∀ (n t : Nat) (listed : Array Bool), Region.linearise.go md ops n t listed [] ∈ orders md ops n listed
  | 0, t, listed => by simp [Region.linearise.go, orders]
  | n + 1, t, listed => by
    simp only [Region.linearise.go]
    change (match (Region.ready md ops listed)[t % (Region.ready md ops listed).length]? with
      | some i => Region.linearise.go md ops n (t / (Region.ready md ops listed).length) (listed.setIfInBounds i true) [i]
      | none => [].reverse) ∈ _
    cases hr : Region.ready md ops listed with
    | nil => simp [orders, hr]
    | cons i0 r =>
      simp only [orders, hr]
      have hlt : t % (i0 :: r).length < (i0 :: r).length := Nat.mod_lt _ (by simp)
      rw [List.getElem?_eq_getElem hlt]
      simp only []
      rw [linearise_go_acc, List.reverse_singleton, List.singleton_append]
      exact List.mem_flatMap.2 ⟨_, List.getElem_mem hlt, List.mem_map.2 ⟨_, lin_mem n _ _, rfl⟩⟩
def permOps (ops : Array Oper) : List (List Oper) := (orders .any ops ops.size (Array.replicate ops.size false)).map fun p => p.filterMap fun i => ops[i]?
theorem filterMap_ops {ops : Array Oper} : ∀ {p : List Nat}, (∀ i ∈ p, i < ops.size) → p.map (fun i => ops[i]?) = (p.filterMap fun i => ops[i]?).map some
  | [], _ => rfl
  | i :: p, h => by
    have hi := h i (by simp)
    have := filterMap_ops (ops := ops) (p := p) (fun j hj => h j (List.mem_cons_of_mem _ hj))
    simp [hi, this]
theorem draw_sound (hm : P.follows .mixedOrders = true) (hty : TyOk P ty) (hΓ : CtxOk P x Γ) {id : Nat} {ops : Array Oper} {N : Nat} (hd : ∀ o ∈ ops.toList, dstOk N o.dst = true) {Q : Exit → Act → World → Prop}
    (hn : ∀ σ' ρ' a' w', K σ' → Rel x σ' ρ' a' w' → a'.tmps.size = N → Q .normal a' w') (h : Rel x σ ρ a w) (hN : a.tmps.size = N)
    (hs : ∀ p ∈ permOps ops, vcOps Γ ty false ops.toList p σ K) : (Code.region id ops true).wp P Q a w := by
  refine wp_region_draw fun t => ?_
  have hE : Ext w { w with drawn := w.drawn + 1 } NoM := ⟨rfl, rfl, Nat.le_refl _, fun _ _ _ => rfl, fun _ => rfl⟩
  simp only [Region.schedule, hm, Bool.true_or, if_true]
  have hmem := lin_mem (md := .any) (ops := ops) ops.size t (Array.replicate ops.size false)
  exact perm_sound hty hΓ hd hn _ _ (filterMap_ops (orders_lt hmem)) σ ρ a _ (h.grown hE) hN (hs _ (List.mem_map.2 ⟨_, hmem, rfl⟩))

theorem quiet_sound (hty : TyOk P ty) (hΓ : CtxOk P x Γ) {ops : Array Oper} {N : Nat} (hd : ∀ o ∈ ops.toList, dstOk N o.dst = true) (hpt : ∀ o ∈ ops.toList, ∀ c f, o.op = .call c → c.callee = .value f → plainT ty o.type = true) (hmo : ∀ o ∈ ops.toList, memO o = false) {Q : Act → Prop}
    (hn : ∀ σ' ρ' a', K σ' → Rel x σ' ρ' a' w → a'.tmps.size = N → Q a') :
    ∀ (rest pre : List Oper), ops.toList = pre ++ rest → ∀ (σ : St) (ρ : Nat → Value) (a : Act), Rel x σ ρ a w → a.tmps.size = N → vcOps Γ ty true ops.toList rest σ K → wpQuiet P ops (fun w' => Ext w w' NoM) Q rest a
  | [], pre, hl, σ, ρ, a, h, hN, hs => hn σ ρ a hs h hN
  | o :: r, pre, hl, σ, ρ, a, h, hN, hs => by
    have hdo : dstOk a.tmps.size o.dst = true := by rw [hN]; exact hd o (by rw [hl]; simp)
    have hpo := hpt o (by rw [hl]; simp)
    have hmo1 := hmo o (by rw [hl]; simp)
    have ih := quiet_sound hty hΓ hd hpt hmo hn r (pre ++ [o]) (by rw [hl]; simp)
    simp only [wpQuiet]
    simp only [vcOps] at hs
    split at hs
    · rename_i hg
      have hw : Region.wanted o (yielded ops a.tmps) = true := by simp [Region.wanted, hg]
      rw [if_pos hw]
      exact step_quiet hty hΓ h hdo hpo hmo1 hs fun σ' ρ' a' hK hrel hsz => ih σ' ρ' a' hrel (by rw [hsz, hN]) hK
    · rename_i j want hg
      split at hs
      · rename_i d hjd
        split at hs
        · rename_i b hl'
          have hy := yielded_of (ops := ops) h hjd hl' (by rw [hN]; exact dst_lt hd hjd)
          by_cases hb : b = want
          all_goals simp only [hb, if_true, if_false] at hs
          · have hw : Region.wanted o (yielded ops a.tmps) = true := by simp [Region.wanted, hg, hy, hb]
            rw [if_pos hw]
            exact step_quiet hty hΓ (h.know hl' hb) hdo hpo hmo1 hs fun σ' ρ' a' hK hrel hsz => ih σ' ρ' a' hrel (by rw [hsz, hN]) hK
          · have hw : ¬ Region.wanted o (yielded ops a.tmps) = true := by simp [Region.wanted, hg, hy, hb]
            rw [if_neg hw]
            have hb' : b = !want := by cases b <;> cases want <;> simp_all
            exact ih _ ρ _ ((h.know hl' hb').put hdo (v := undef) (V := .one .und) rfl) (by rw [put_size, hN]) hs
        · rename_i hl'
          have hy := yielded_und (ops := ops) h hjd hl' (by rw [hN]; exact dst_lt hd hjd)
          have hw : ¬ Region.wanted o (yielded ops a.tmps) = true := by simp [Region.wanted, hg, hy]
          rw [if_neg hw]
          exact ih _ ρ _ (h.put hdo (v := undef) (V := .one .und) rfl) (by rw [put_size, hN]) hs
        · exact hs.elim
      · exact hs.elim
end
end Go.Vq
