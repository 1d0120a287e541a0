/- Part Pb of the small logic: a region in every order, of which those operations that read no memory are taken first. No conditions. -/
import Derived.Test.YtcibheinilkcoaaVcPa
namespace Go.Vq
open Go.RowKit
/-- an operation that reads no memory, and is no call of a function -/
def dullO (o : Oper) : Bool := quietO o && !(loadB o)
/-- what may be taken first -/
def dullF (ops : Array Oper) (listed : Array Bool) (i : Nat) : Bool := match ops[i]? with
  | some o => dullO o && Region.free .any ops listed i
  | none => false
/-- the orders that stand for all -/
def ordersR (ops : Array Oper) : Nat → Array Bool → List (List Nat)
  | 0, _ => [[]]
  | n + 1, listed => match Region.ready .any ops listed with
    | [] => [[]]
    | i :: r => match (i :: r).find? (dullF ops listed) with
      | some j => (ordersR ops n (listed.setIfInBounds j true)).map (j :: ·)
      | none => (i :: r).flatMap fun j => (ordersR ops n (listed.setIfInBounds j true)).map (j :: ·)
def ordsOk (ops : Array Oper) (ps : List (List Nat)) : Bool := Region.noSelect ops && (ordersR ops ops.size (Array.replicate ops.size false)).all fun p => ps.contains p
/-- an order of all that have not come up -/
def Valid (ops : Array Oper) : List Nat → Array Bool → Prop
  | [], listed => Region.ready .any ops listed = []
  | i :: q, listed => i ∈ Region.ready .any ops listed ∧ Valid ops q (listed.setIfInBounds i true)
def cntU (ops : Array Oper) (listed : Array Bool) : Nat := (List.range ops.size).countP fun i => !listed.getD i true
theorem countP_lt {α : Type} {p q : α → Bool} {l : List α} (h : ∀ x, p x = true → q x = true) {y : α} (hy : y ∈ l) (h1 : q y = true) (h2 : p y = false) : l.countP p < l.countP q := by
  induction l with
  | nil => cases hy
  | cons x l ih =>
    have hle : l.countP p ≤ l.countP q := List.countP_mono_left fun x _ => h x
    rw [List.countP_cons, List.countP_cons]
    rcases List.mem_cons.1 hy with rfl | hy
    · rw [h1, h2]; simp; omega
    · have := ih hy
      cases hp : p x with
      | false => simp; omega
      | true => rw [h x hp]; simp; exact this
theorem cntU_lt {ops : Array Oper} {listed : Array Bool} {i : Nat} (h : i ∈ Region.ready .any ops listed) : cntU ops (listed.setIfInBounds i true) < cntU ops listed := by
  obtain ⟨h0, o, ho, _⟩ := mem_ready.1 h
  have hlt : i < ops.size := (Array.getElem?_eq_some_iff.1 ho).1
  have hl : i < listed.size := by
    rcases Nat.lt_or_ge i listed.size with h' | h'
    · exact h'
    · simp [Array.getElem?_eq_none h'] at h0
  refine countP_lt (y := i) (fun x hx => ?_) (List.mem_range.2 hlt) (by rw [h0]; rfl) ?_
  · by_cases hxi : i = x
    · subst hxi; simp [hl] at hx
    · rwa [getD_set_ne true hxi] at hx
  · simp [hl]
theorem cntU_pos {ops : Array Oper} {listed : Array Bool} {i : Nat} (h : i ∈ Region.ready .any ops listed) : 0 < cntU ops listed := Nat.lt_of_le_of_lt (Nat.zero_le _) (cntU_lt h)
theorem orders_valid {ops : Array Oper} : ∀ {n : Nat} {listed : Array Bool} {p : List Nat}, p ∈ orders .any ops n listed → cntU ops listed ≤ n → Valid ops p listed
  | 0, listed, p, h, hc => by
    simp only [orders, List.mem_singleton] at h; subst h
    simp only [Valid]
    cases hr : Region.ready .any ops listed with
    | nil => rfl
    | cons i r => have := cntU_pos (ops := ops) (listed := listed) (i := i) (by rw [hr]; simp); omega
  | n + 1, listed, p, h, hc => by
    simp only [orders] at h
    split at h
    · rename_i hr
      simp only [List.mem_singleton] at h; subst h
      exact hr
    · rename_i i0 r hr
      simp only [List.mem_flatMap, List.mem_map] at h
      obtain ⟨j, hj, q, hq, rfl⟩ := h
      have hj' : j ∈ Region.ready .any ops listed := by rw [hr]; exact hj
      exact ⟨hj', orders_valid hq (by have := cntU_lt hj'; omega)⟩
section
variable {P : Program} {x : Cx} {σ : St} {ρ : Nat → Value} {a : Act} {w w' : World} {o : Oper} {ty : List (Nat × Td)} {Γ : Ctx} {K : St → Prop}
/-- an operation that may come up, taken out of its place -/
theorem late {ops : Array Oper} {Q : Exit → Act → World → Prop} (hQ : ∀ c a w, ¬ Q (.panic c) a w) (hsel : Region.noSelect ops = true) {j : Nat} {oj : Oper} (hj : ops[j]? = some oj) :
    ∀ (q : List Nat) (listed : Array Bool), Valid ops q listed → (∀ k ok, ops[k]? = some ok → k ≠ j → listed.getD k true = false → (∀ e ∈ ok.after, Region.binds .any e = true → e.on ≠ j) → oj.apart ops ok = true) → j ∈ Region.ready .any ops listed →
    ∃ q', Valid ops q' (listed.setIfInBounds j true) ∧ ∀ v a w, Yields P ops oj v a → wpOps P ops Q q' (a.put oj.dst v) w → wpOps P ops Q q a w
  | [], listed, hv, hfree, hr => by simp only [Valid] at hv; rw [hv] at hr; cases hr
  | i :: q, listed, hv, hfree, hr => by
    obtain ⟨hi, hv⟩ := hv
    by_cases hij : i = j
    · subst hij
      refine ⟨q, hv, fun v a w hy h => ?_⟩
      rw [wpOps_cons]
      exact hy.wpOp hj h
    · obtain ⟨hiun, oi, hoi, hall⟩ := mem_ready.1 hi
      have hnot : ∀ e ∈ oi.after, Region.binds .any e = true → e.on ≠ j := fun e he hb heq => by
        have h1 := hall e he hb
        have h0 := (mem_ready.1 hr).1
        rw [heq] at h1
        rcases Nat.lt_or_ge j listed.size with h' | h'
        · simp [h'] at h0 h1; rw [h0] at h1; cases h1
        · simp [Array.getElem?_eq_none h'] at h1
      have hap := hfree i oi hoi hij hiun hnot
      have hfree' : ∀ k ok, ops[k]? = some ok → k ≠ j → (listed.setIfInBounds i true).getD k true = false → (∀ e ∈ ok.after, Region.binds .any e = true → e.on ≠ j) → oj.apart ops ok = true := fun k ok hk hkj hun hno => by
        refine hfree k ok hk hkj ?_ hno
        by_cases hik : i = k
        · subst hik; exact hiun
        · rw [getD_set_ne true hik] at hun; exact hun
      obtain ⟨q', hv', hq'⟩ := late hQ hsel hj q (listed.setIfInBounds i true) hv hfree' (ready_mono hr (Ne.symm hij))
      refine ⟨i :: q', ⟨ready_mono hi hij, by rw [Array.setIfInBounds_comm _ _ (Ne.symm hij)]; exact hv'⟩, fun v a w hy h => ?_⟩
      rw [wpOps_cons] at h ⊢
      have h2 := wpOp_put hoi hap (fun cs b => Region.noSelect_spec hsel j oj cs b hj) (fun cs b => Region.noSelect_spec hsel i oi cs b hoi) (fun c a w h => (hQ _ _ _ h).elim) hy h
      exact wpOp_mono (fun a' w' h3 => hq' v a' w' h3.1 h3.2) h2
theorem dull_still (hq : dullO o = true) (hs : stepK Γ ty false o σ K) : still ty o σ fun V => K (σ.put o.dst V) := by
  have hq : quietO o = true := by unfold dullO at hq; simp only [Bool.and_eq_true] at hq; exact hq.1
  cases ho : o.op with
  | call c =>
    simp only [stepK, ho] at hs
    cases hcal : c.callee with
    | value f => simp [quietO, ho, hcal] at hq
    | invoke r m => rw [hcal] at hs; exact hs
    | builtin b =>
      rw [hcal] at hs
      cases b <;> first | exact hs | (simp [quietO, ho, hcal] at hq)
  | alloc t => simp [quietO, ho] at hq
  | box t v => simp [quietO, ho] at hq
  | store t p v => simp [quietO, ho] at hq
  | makeSlice t n c => simp [quietO, ho] at hq
  | buildSlice t n c => simp [quietO, ho] at hq
  | makeFunc fn first caps => simp [quietO, ho] at hq
  | _ => simpa only [stepK, ho] using hs
theorem dull_any (hq : dullO o = true) : loadB o = false := by unfold dullO at hq; simp only [Bool.and_eq_true, Bool.not_eq_true'] at hq; exact hq.2
/-- for each order there is one that stands for it -/
theorem red_lin (hty : TyOk P ty) (hΓ : CtxOk P x Γ) {ops : Array Oper} {N : Nat} (hd : ∀ o ∈ ops.toList, dstOk N o.dst = true) {Q : Exit → Act → World → Prop} (hQ : ∀ c a w, ¬ Q (.panic c) a w)
    (hn : ∀ σ' ρ' a' w', K σ' → Rel x σ' ρ' a' w' → a'.tmps.size = N → Q .normal a' w') (hsel : Region.noSelect ops = true) :
    ∀ (n : Nat) (listed : Array Bool) (q : List Nat), Valid ops q listed → cntU ops listed ≤ n →
    ∃ p ∈ ordersR ops n listed, ∀ (σ : St) (ρ : Nat → Value) (a : Act) (w : World), Rel x σ ρ a w → a.tmps.size = N → vcOps Γ ty false ops.toList (pick ops p) σ K → wpOps P ops Q q a w
  | 0, listed, q, hv, hc => by
    cases q with
    | nil => exact ⟨[], by simp [ordersR], fun σ ρ a w h hN hs => hn σ ρ a w hs h hN⟩
    | cons i q => have := cntU_pos hv.1; omega
  | n + 1, listed, q, hv, hc => by
    simp only [ordersR]
    cases hr : Region.ready .any ops listed with
    | nil =>
      cases q with
      | nil => exact ⟨[], by simp, fun σ ρ a w h hN hs => hn σ ρ a w hs h hN⟩
      | cons i q => have := hv.1; rw [hr] at this; cases this
    | cons i0 r0 =>
      simp only []
      cases hf : (i0 :: r0).find? (dullF ops listed) with
      | some i =>
        have hmem : i ∈ Region.ready .any ops listed := by rw [hr]; exact List.mem_of_find?_eq_some hf
        have hdl := List.find?_some hf
        unfold dullF at hdl
        cases ho : ops[i]? with
        | none => rw [ho] at hdl; cases hdl
        | some o =>
          rw [ho] at hdl
          simp only [Bool.and_eq_true] at hdl
          obtain ⟨hq, hfree⟩ := hdl
          have hdo : ∀ a : Act, a.tmps.size = N → dstOk a.tmps.size o.dst = true := fun a hN => by rw [hN]; exact hd o (List.mem_of_getElem? (by rw [Array.getElem?_toList]; exact ho))
          obtain ⟨q', hv', hq'⟩ := late (P := P) (Q := Q) hQ hsel ho q listed hv (Region.free_spec ho hfree) hmem
          obtain ⟨p, hp, hpq⟩ := red_lin hty hΓ hd hQ hn hsel n _ q' hv' (by have := cntU_lt hmem; omega)
          refine ⟨i :: p, List.mem_map.2 ⟨p, hp, rfl⟩, fun σ ρ a w h hN hs => ?_⟩
          rw [pick_cons ho] at hs
          have hnl : loadB o = false := dull_any hq
          simp only [vcOps] at hs
          split at hs
          · rename_i hg
            have hw : Region.wanted o (yielded ops a.tmps) = true := by simp [Region.wanted, hg]
            obtain ⟨V, hK, v, hv, hrun⟩ := still_sound hty h (dull_still hq hs)
            exact hq' v a w (.inl ⟨hw, fun w' => hrun w' (by simp [hnl])⟩) (hpq _ ρ _ w (h.put (hdo a hN) hv) (by rw [put_size, hN]) hK)
          · rename_i j want hg
            split at hs
            · rename_i d hjd
              split at hs
              · rename_i b hl'
                have hy := yielded_of (ops := ops) h hjd hl' (by rw [hN]; exact dst_lt hd hjd)
                by_cases hb : b = want
                all_goals simp only [hb, if_true, if_false] at hs
                · have hw : Region.wanted o (yielded ops a.tmps) = true := by simp [Region.wanted, hg, hy, hb]
                  obtain ⟨V, hK, v, hv, hrun⟩ := still_sound hty (h.know hl' hb) (dull_still hq hs)
                  exact hq' v a w (.inl ⟨hw, fun w' => hrun w' (by simp [hnl])⟩) (hpq _ ρ _ w ((h.know hl' hb).put (hdo a hN) hv) (by rw [put_size, hN]) hK)
                · have hw : Region.wanted o (yielded ops a.tmps) = false := by simp [Region.wanted, hg, hy, hb]
                  have hb' : b = !want := by cases b <;> cases want <;> simp_all
                  exact hq' undef a w (.inr ⟨hw, rfl⟩) (hpq _ ρ _ w ((h.know hl' hb').put (hdo a hN) (v := undef) (V := .one .und) rfl) (by rw [put_size, hN]) hs)
              · rename_i hl'
                have hy := yielded_und (ops := ops) h hjd hl' (by rw [hN]; exact dst_lt hd hjd)
                have hw : Region.wanted o (yielded ops a.tmps) = false := by simp [Region.wanted, hg, hy]
                exact hq' undef a w (.inr ⟨hw, rfl⟩) (hpq _ ρ _ w (h.put (hdo a hN) (v := undef) (V := .one .und) rfl) (by rw [put_size, hN]) hs)
              · exact hs.elim
            · exact hs.elim
      | none =>
        cases q with
        | nil => simp only [Valid] at hv; rw [hv] at hr; cases hr
        | cons i q =>
          obtain ⟨hmem, hv⟩ := hv
          obtain ⟨_, o, ho, _⟩ := mem_ready.1 hmem
          have hdo : ∀ a : Act, a.tmps.size = N → dstOk a.tmps.size o.dst = true := fun a hN => by rw [hN]; exact hd o (List.mem_of_getElem? (by rw [Array.getElem?_toList]; exact ho))
          obtain ⟨p, hp, hpq⟩ := red_lin hty hΓ hd hQ hn hsel n _ q hv (by have := cntU_lt hmem; omega)
          refine ⟨i :: p, List.mem_flatMap.2 ⟨i, by rw [← hr]; exact hmem, List.mem_map.2 ⟨p, hp, rfl⟩⟩, fun σ ρ a w h hN hs => ?_⟩
          rw [pick_cons ho] at hs
          simp only [wpOps, ho]
          simp only [vcOps] at hs
          split at hs
          · rename_i hg
            have hw : Region.wanted o (yielded ops a.tmps) = true := by simp [Region.wanted, hg]
            rw [if_pos hw]
            exact .inl (step_sound hty hΓ h (hdo a hN) hs fun σ' ρ' a' w' hK hrel hsz => hpq σ' ρ' a' w' hrel (by rw [hsz, hN]) hK)
          · rename_i j want hg
            split at hs
            · rename_i d hjd
              split at hs
              · rename_i b hl'
                have hy := yielded_of (ops := ops) h hjd hl' (by rw [hN]; exact dst_lt hd hjd)
                by_cases hb : b = want
                all_goals simp only [hb, if_true, if_false] at hs
                · have hw : Region.wanted o (yielded ops a.tmps) = true := by simp [Region.wanted, hg, hy, hb]
                  rw [if_pos hw]
                  exact .inl (step_sound hty hΓ (h.know hl' hb) (hdo a hN) hs fun σ' ρ' a' w' hK hrel hsz => hpq σ' ρ' a' w' hrel (by rw [hsz, hN]) hK)
                · have hw : ¬ Region.wanted o (yielded ops a.tmps) = true := by simp [Region.wanted, hg, hy, hb]
                  rw [if_neg hw]
                  have hb' : b = !want := by cases b <;> cases want <;> simp_all
                  exact hpq _ ρ _ w ((h.know hl' hb').put (hdo a hN) (v := undef) (V := .one .und) rfl) (by rw [put_size, hN]) hs
              · rename_i hl'
                have hy := yielded_und (ops := ops) h hjd hl' (by rw [hN]; exact dst_lt hd hjd)
                have hw : ¬ Region.wanted o (yielded ops a.tmps) = true := by simp [Region.wanted, hg, hy]
                rw [if_neg hw]
                exact hpq _ ρ _ w (h.put (hdo a hN) (v := undef) (V := .one .und) rfl) (by rw [put_size, hN]) hs
              · exact hs.elim
            · exact hs.elim
theorem cntU_le (ops : Array Oper) (listed : Array Bool) : cntU ops listed ≤ ops.size := by
  unfold cntU
  have := List.countP_le_length (p := fun i => !listed.getD i true) (l := List.range ops.size)
  simpa using this
theorem red_sound (hm : P.follows .mixedOrders = true) (hty : TyOk P ty) (hΓ : CtxOk P x Γ) {id : Nat} {ops : Array Oper} {N : Nat} (hd : ∀ o ∈ ops.toList, dstOk N o.dst = true) {Q : Exit → Act → World → Prop} (hQ : ∀ c a w, ¬ Q (.panic c) a w)
    (hn : ∀ σ' ρ' a' w', K σ' → Rel x σ' ρ' a' w' → a'.tmps.size = N → Q .normal a' w') (h : Rel x σ ρ a w) (hN : a.tmps.size = N) {ps : List (List Nat)} (hp : ordsOk ops ps = true)
    (hs : ∀ p ∈ ps, vcOps Γ ty false ops.toList (pick ops p) σ K) : (Code.region id ops true).wp P Q a w := by
  simp only [ordsOk, Bool.and_eq_true, List.all_eq_true] at hp
  refine wp_region_draw fun t => ?_
  have hE : Ext w { w with drawn := w.drawn + 1 } NoM := ⟨rfl, rfl, Nat.le_refl _, fun _ _ _ => rfl, fun _ => rfl⟩
  simp only [Region.schedule, hm, Bool.true_or, if_true]
  have hmem := lin_mem (md := .any) (ops := ops) ops.size t (Array.replicate ops.size false)
  obtain ⟨p, hpm, hpq⟩ := red_lin hty hΓ hd hQ hn hp.1 ops.size _ _ (orders_valid hmem (cntU_le _ _)) (cntU_le _ _)
  exact hpq σ ρ a _ (h.grown hE) hN (hs p (by simpa using hp.2 p hpm))
end
end Go.Vq
