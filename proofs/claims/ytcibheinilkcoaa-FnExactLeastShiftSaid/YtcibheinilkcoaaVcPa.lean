/- Part Pa of the small logic: a region that draws its order, whose calls make memory, in one order. No conditions. -/
import Derived.Test.YtcibheinilkcoaaVcP
import Derived.OrdersHeld
namespace Go.Vq
open Go.RowKit
/-- an operation that reads, and is no call of a function -/
def quietO (o : Oper) : Bool := match o.op with
  | .alloc _ | .box _ _ | .store _ _ _ | .makeSlice _ _ _ | .buildSlice _ _ _ | .makeFunc _ _ _ => false
  | .call c => match c.callee with
    | .value _ => false
    | .builtin .append => false
    | _ => true
  | _ => true
def callO (o : Oper) : Bool := match o.op with
  | .call c => match c.callee with
    | .value _ => true
    | _ => false
  | _ => false
/-- is this order one that stands for all? -/
def ordC (ops : Array Oper) : List Nat → Array Bool → Bool
  | [], listed => (Region.ready .any ops listed).isEmpty
  | i :: p, listed => match ops[i]? with
    | none => false
    | some o => ((quietO o && Region.free .any ops listed i && (Region.ready .any ops listed).contains i) || (callO o && (Region.ready .any ops listed == [i]))) && ordC ops p (listed.setIfInBounds i true)
def ordOk (ops : Array Oper) (p : List Nat) : Bool := Region.noSelect ops && (p.length == ops.size) && ordC ops p (Array.replicate ops.size false)
def pickL (l : List Oper) : List Nat → List Oper
  | [] => []
  | i :: p => match l[i]? with
    | some o => o :: pickL l p
    | none => pickL l p
def pick (ops : Array Oper) (p : List Nat) : List Oper := pickL ops.toList p
/-- such an order, if there is one: what reads comes first -/
def upB (done : List Nat) (o : Oper) : Bool := o.after.toList.all fun e => !Region.binds .any e || done.contains e.on
def numL : Nat → List Oper → List (Nat × Oper)
  | _, [] => []
  | n, o :: r => (n, o) :: numL (n + 1) r
def ordGo (l : List (Nat × Oper)) : Nat → List Nat → List Nat
  | 0, _ => []
  | n + 1, done => match l.find? (fun p => !done.contains p.1 && quietO p.2 && upB done p.2) with
    | some p => p.1 :: ordGo l n (p.1 :: done)
    | none => match l.find? (fun p => !done.contains p.1 && upB done p.2) with
      | some p => p.1 :: ordGo l n (p.1 :: done)
      | none => []
def ordG (ops : Array Oper) : List Nat := ordGo (numL 0 ops.toList) ops.toList.length []
section
variable {P : Program} {x : Cx} {σ : St} {ρ : Nat → Value} {a : Act} {w w' : World} {o : Oper} {ty : List (Nat × Td)} {Γ : Ctx} {K : St → Prop}
theorem wpAnyH_weak {md : Region.Mode} {ops : Array Oper} {Q : Exit → Act → World → Prop} {S S' : World → Prop} (hS : ∀ w, S w → S' w) : ∀ (fuel : Nat) (listed : Array Bool) (a : Act) (w : World), wpAnyH P md ops Q S fuel listed a w → wpAnyH P md ops Q S' fuel listed a w
  | 0, _, _, _, h => h
  | n + 1, _, _, _, h => ⟨h.1, fun i hi => wpOp_mono (fun a' w' h' => ⟨hS _ h'.1, wpAnyH_weak hS n _ a' w' h'.2⟩) (h.2 i hi)⟩
/-- a call that makes memory, in its place -/
theorem step_call (hΓ : CtxOk P x Γ) (h : Rel x σ ρ a w) (hd : dstOk a.tmps.size o.dst = true) (hc : callO o = true) (hs : stepK Γ ty true o σ K) {next : Act → World → Prop} {Q : Exit → Act → World → Prop}
    (hn : ∀ σ' ρ' a' w', K σ' → Rel x σ' ρ' a' w' → a'.tmps.size = a.tmps.size → Ext w w' NoM → next a' w') : o.wp P a w next Q := by
  obtain ⟨pg, hvb⟩ := Γ
  have hhv := hΓ.2
  have hΓ' : P = pg := Eq.symm hΓ.1
  subst hΓ'
  have dlt : ∀ d, o.dst = some d → d < a.tmps.size := fun d e => by rw [e] at hd; simpa [dstOk] using hd
  cases ho : o.op with
  | call c =>
    simp only [stepK, ho] at hs
    cases hcal : c.callee with
    | value f =>
      rw [hcal] at hs
      simp only [callK] at hs
      have hf := ev_rel h f
      split at hs
      · rename_i n caps he; rw [he] at hf
        obtain ⟨cv, hcv, hcr⟩ := hf
        rcases hs with hs | ⟨hdr, _⟩ | ⟨hdr, _⟩ | ⟨hdr, _⟩
        rotate_left
        · cases hdr
        · cases hdr
        · cases hdr
        unfold pureK at hs
        split at hs
        · rename_i ps g hargs
          obtain ⟨r, ⟨hgf, _, hK⟩, hcall, hfn⟩ := hs
          have ha := args_rel h hargs hcr
          unfold Oper.wp
          rw [run_call ho hcal hcv hcall w, Oper.upon_enter]
          refine (Fn.orD ha hfn hgf).mono ?_
          rintro e w' ⟨v, rfl, hret, hE⟩
          show next (a.put o.dst v) w'
          cases hdst : o.dst with
          | none =>
            rw [hdst] at hK
            exact hn _ ρ _ _ hK (h.grown hE) rfl hE
          | some d =>
            rw [hdst] at hK
            obtain ⟨hno, hK⟩ := hK
            obtain ⟨ρ', h1, h2⟩ := Rel.call h (g := g || !r.flat) hret hE (d := d) (fun j hj => hno.get j hj) (by cases r.flat <;> simp)
            exact hn _ ρ' _ _ hK (h1.put (d := some d) (by simpa [dstOk] using dlt d hdst) h2) (put_size _ _ _) hE
        · exact hs.elim
      · exact hs.elim
    | invoke r m => simp [callO, ho, hcal] at hc
    | builtin b => simp [callO, ho, hcal] at hc
  | _ => simp [callO, ho] at hc
theorem quiet_still (hq : quietO o = true) (hs : stepK Γ ty true o σ K) : still ty o σ fun V => K (σ.put o.dst V) := by
  cases ho : o.op with
  | call c =>
    simp only [stepK, ho] at hs
    cases hcal : c.callee with
    | value f => simp [quietO, ho, hcal] at hq
    | invoke r m => rw [hcal] at hs; exact hs
    | builtin b =>
      rw [hcal] at hs
      cases b <;> first | exact hs | (simp [quietO, ho, hcal] at hq)
  | alloc t => simp [quietO, ho] at hq
  | box t v => simp [quietO, ho] at hq
  | store t p v => simp [quietO, ho] at hq
  | makeSlice t n c => simp [quietO, ho] at hq
  | buildSlice t n c => simp [quietO, ho] at hq
  | makeFunc fn first caps => simp [quietO, ho] at hq
  | _ => simpa only [stepK, ho] using hs
theorem pick_cons {ops : Array Oper} {i : Nat} {p : List Nat} (hi : ops[i]? = some o) : pick ops (i :: p) = o :: pick ops p := by
  have : ops.toList[i]? = some o := by rw [Array.getElem?_toList]; exact hi
  simp only [pick, pickL, this]
theorem line_go (hty : TyOk P ty) (hΓ : CtxOk P x Γ) {ops : Array Oper} {N : Nat} (hd : ∀ o ∈ ops.toList, dstOk N o.dst = true) {Q : Exit → Act → World → Prop} (hQ : ∀ c a w, ¬ Q (.panic c) a w)
    (hn : ∀ σ' ρ' a' w', K σ' → Rel x σ' ρ' a' w' → a'.tmps.size = N → Q .normal a' w') (hsel : Region.noSelect ops = true) :
    ∀ (p : List Nat) (listed : Array Bool) (σ : St) (ρ : Nat → Value) (a : Act) (w : World), ordC ops p listed = true → Rel x σ ρ a w → a.tmps.size = N → vcOps Γ ty true ops.toList (pick ops p) σ K → wpAnyH P .any ops Q (fun w' => Ext w w' NoM) p.length listed a w
  | [], listed, σ, ρ, a, w, hC, h, hN, hs => ⟨by simpa [ordC] using hC, hn σ ρ a w hs h hN⟩
  | i :: p, listed, σ, ρ, a, w, hC, h, hN, hs => by
    have ih := line_go hty hΓ hd hQ hn hsel p (listed.setIfInBounds i true)
    simp only [ordC] at hC
    cases ho : ops[i]? with
    | none => rw [ho] at hC; cases hC
    | some o =>
      rw [ho] at hC
      simp only [Bool.and_eq_true, Bool.or_eq_true] at hC
      obtain ⟨hC, hC'⟩ := hC
      rw [pick_cons ho] at hs
      have hdo : dstOk a.tmps.size o.dst = true := by rw [hN]; exact hd o (List.mem_of_getElem? (by rw [Array.getElem?_toList]; exact ho))
      rcases hC with ⟨⟨hq, hf⟩, hr⟩ | ⟨hc, hr⟩
      · -- what reads is taken first
        have take : ∀ {v : Value}, YieldsIf P ops (fun w' => Ext w w' NoM) o v a → (wpAnyH P .any ops Q (fun w' => Ext w w' NoM) p.length (listed.setIfInBounds i true) (a.put o.dst v) w) → wpAnyH P .any ops Q (fun w' => Ext w w' NoM) (i :: p).length listed a w :=
          fun hy hk => wpAnyH_take ho hsel hf hr (fun c a w h => (hQ _ _ _ h).elim) hy (Ext.refl _ _) hk
        simp only [vcOps] at hs
        split at hs
        · rename_i hg
          have hw : Region.wanted o (yielded ops a.tmps) = true := by simp [Region.wanted, hg]
          obtain ⟨V, hK, v, hv, hrun⟩ := still_sound hty h (quiet_still hq hs)
          exact take (.inl ⟨hw, fun w' h' => hrun w' fun _ => h'⟩) (ih _ ρ _ w hC' (h.put hdo hv) (by rw [put_size, hN]) hK)
        · rename_i j want hg
          split at hs
          · rename_i d hjd
            split at hs
            · rename_i b hl'
              have hy := yielded_of (ops := ops) h hjd hl' (by rw [hN]; exact dst_lt hd hjd)
              by_cases hb : b = want
              all_goals simp only [hb, if_true, if_false] at hs
              · have hw : Region.wanted o (yielded ops a.tmps) = true := by simp [Region.wanted, hg, hy, hb]
                obtain ⟨V, hK, v, hv, hrun⟩ := still_sound hty (h.know hl' hb) (quiet_still hq hs)
                exact take (.inl ⟨hw, fun w' h' => hrun w' fun _ => h'⟩) (ih _ ρ _ w hC' ((h.know hl' hb).put hdo hv) (by rw [put_size, hN]) hK)
              · have hw : Region.wanted o (yielded ops a.tmps) = false := by simp [Region.wanted, hg, hy, hb]
                have hb' : b = !want := by cases b <;> cases want <;> simp_all
                exact take (v := undef) (.inr ⟨hw, rfl⟩) (ih _ ρ _ w hC' ((h.know hl' hb').put hdo (v := undef) (V := .one .und) rfl) (by rw [put_size, hN]) hs)
            · rename_i hl'
              have hy := yielded_und (ops := ops) h hjd hl' (by rw [hN]; exact dst_lt hd hjd)
              have hw : Region.wanted o (yielded ops a.tmps) = false := by simp [Region.wanted, hg, hy]
              exact take (v := undef) (.inr ⟨hw, rfl⟩) (ih _ ρ _ w hC' (h.put hdo (v := undef) (V := .one .und) rfl) (by rw [put_size, hN]) hs)
            · exact hs.elim
          · exact hs.elim
      · -- a call, when nothing else may come up
        have hr : Region.ready .any ops listed = [i] := by simpa using hr
        have next : ∀ σ' ρ' a' w', vcOps Γ ty true ops.toList (pick ops p) σ' K → Rel x σ' ρ' a' w' → a'.tmps.size = a.tmps.size → Ext w w' NoM → Ext w w' NoM ∧ wpAnyH P .any ops Q (fun w' => Ext w w' NoM) p.length (listed.setIfInBounds i true) a' w' :=
          fun σ' ρ' a' w' hK hrel hsz hE => ⟨hE, wpAnyH_weak (fun w'' h'' => hE.trans h'' (fun _ f => f.elim)) _ _ _ _ (ih σ' ρ' a' w' hC' hrel (by rw [hsz, hN]) hK)⟩
        refine wpAnyH_all hr (by simp) fun i' hi' => ?_
        obtain rfl : i' = i := by simpa using hi'
        unfold wpOp
        simp only [ho]
        simp only [vcOps] at hs
        split at hs
        · rename_i hg
          have hw : Region.wanted o (yielded ops a.tmps) = true := by simp [Region.wanted, hg]
          rw [if_pos hw]
          exact .inl (step_call hΓ h hdo hc hs next)
        · rename_i j want hg
          split at hs
          · rename_i d hjd
            split at hs
            · rename_i b hl'
              have hy := yielded_of (ops := ops) h hjd hl' (by rw [hN]; exact dst_lt hd hjd)
              by_cases hb : b = want
              all_goals simp only [hb, if_true, if_false] at hs
              · have hw : Region.wanted o (yielded ops a.tmps) = true := by simp [Region.wanted, hg, hy, hb]
                rw [if_pos hw]
                exact .inl (step_call hΓ (h.know hl' hb) hdo hc hs next)
              · have hw : ¬ Region.wanted o (yielded ops a.tmps) = true := by simp [Region.wanted, hg, hy, hb]
                rw [if_neg hw]
                have hb' : b = !want := by cases b <;> cases want <;> simp_all
                exact next _ ρ _ w hs ((h.know hl' hb').put hdo (v := undef) (V := .one .und) rfl) (put_size _ _ _) (Ext.refl _ _)
            · rename_i hl'
              have hy := yielded_und (ops := ops) h hjd hl' (by rw [hN]; exact dst_lt hd hjd)
              have hw : ¬ Region.wanted o (yielded ops a.tmps) = true := by simp [Region.wanted, hg, hy]
              rw [if_neg hw]
              exact next _ ρ _ w hs (h.put hdo (v := undef) (V := .one .und) rfl) (put_size _ _ _) (Ext.refl _ _)
            · exact hs.elim
          · exact hs.elim
theorem line_sound (hm : P.follows .mixedOrders = true) (hty : TyOk P ty) (hΓ : CtxOk P x Γ) {id : Nat} {ops : Array Oper} {N : Nat} (hd : ∀ o ∈ ops.toList, dstOk N o.dst = true) {Q : Exit → Act → World → Prop} (hQ : ∀ c a w, ¬ Q (.panic c) a w)
    (hn : ∀ σ' ρ' a' w', K σ' → Rel x σ' ρ' a' w' → a'.tmps.size = N → Q .normal a' w') {p : List Nat} (hp : ordOk ops p = true) (h : Rel x σ ρ a w) (hN : a.tmps.size = N)
    (hs : vcOps Γ ty true ops.toList (pick ops p) σ K) : (Code.region id ops true).wp P Q a w := by
  simp only [ordOk, Bool.and_eq_true, beq_iff_eq] at hp
  obtain ⟨⟨h1, h2⟩, h3⟩ := hp
  have hE : Ext w { w with drawn := w.drawn + 1 } NoM := ⟨rfl, rfl, Nat.le_refl _, fun _ _ _ => rfl, fun _ => rfl⟩
  have := line_go hty hΓ hd hQ hn h1 p _ σ ρ a _ h3 (h.grown hE) hN hs
  rw [h2] at this
  exact wp_region_held hm this
end
end Go.Vq
