/- Part Pc of the small logic: a region in every order, of which those operations are taken first that read what nobody changes before them. No conditions. -/
import Derived.Test.YtcibheinilkcoaaVcPb
namespace Go.Vq
open Go.RowKit
/-! ### which operations wait for one -/
def edgeB (acc : List Bool) (j : Nat) (o : Oper) : Bool := o.after.toList.any fun e => Region.binds .any e && (Nat.beq e.on j || acc.getD e.on false)
def waitsGo (j : Nat) : List Oper → List Bool → List Bool
  | [], acc => acc
  | o :: r, acc => waitsGo j r (acc ++ [edgeB acc j o])
def waitsL (ops : Array Oper) (j : Nat) : List Bool := waitsGo j ops.toList []
/-- what has come up came up behind what it waits for -/
def Closed (ops : Array Oper) (listed : Array Bool) : Prop := ∀ (k : Nat) (ok : Oper), ops[k]? = some ok → listed.getD k true = true → ∀ e ∈ ok.after, Region.binds .any e = true → listed.getD e.on true = true
def Waits (ops : Array Oper) (j k : Nat) : Prop := ∀ listed, Closed ops listed → listed.getD k true = true → listed.getD j true = true
theorem edgeB_spec {ops : Array Oper} {j : Nat} {acc : List Bool} (hacc : ∀ k, acc.getD k false = true → ∃ o, ops[k]? = some o ∧ ∃ e ∈ o.after, Region.binds .any e = true ∧ (e.on = j ∨ Waits ops j e.on)) {o : Oper} (h : edgeB acc j o = true) :
    ∃ e ∈ o.after, Region.binds .any e = true ∧ (e.on = j ∨ Waits ops j e.on) := by
  simp only [edgeB, List.any_eq_true, Bool.and_eq_true, Bool.or_eq_true] at h
  obtain ⟨e, he, hb, h | h⟩ := h
  · exact ⟨e, by simpa using he, hb, .inl (Nat.eq_of_beq_eq_true h)⟩
  · refine ⟨e, by simpa using he, hb, .inr fun listed hc hl => ?_⟩
    obtain ⟨o', ho', e', he', hb', h' | h'⟩ := hacc _ h
    · have := hc _ _ ho' hl e' he' hb'; rwa [h'] at this
    · exact h' listed hc (hc _ _ ho' hl e' he' hb')
theorem waitsGo_spec {ops : Array Oper} {j : Nat} : ∀ (rest pre : List Oper) (acc : List Bool), ops.toList = pre ++ rest → acc.length = pre.length →
    (∀ k, acc.getD k false = true → ∃ o, ops[k]? = some o ∧ ∃ e ∈ o.after, Region.binds .any e = true ∧ (e.on = j ∨ Waits ops j e.on)) →
    ∀ k, (waitsGo j rest acc).getD k false = true → ∃ o, ops[k]? = some o ∧ ∃ e ∈ o.after, Region.binds .any e = true ∧ (e.on = j ∨ Waits ops j e.on)
  | [], _, acc, _, _, hacc, k, h => hacc k h
  | o :: r, pre, acc, hl, hlen, hacc, k, h => by
    refine waitsGo_spec r (pre ++ [o]) (acc ++ [edgeB acc j o]) (by rw [hl]; simp) (by simp [hlen]) (fun k hk => ?_) k h
    rcases Nat.lt_trichotomy k acc.length with hlt | heq | hgt
    · refine hacc k ?_
      rwa [List.getD_eq_getElem?_getD, List.getElem?_append_left hlt, ← List.getD_eq_getElem?_getD] at hk
    · subst heq
      have hk' : edgeB acc j o = true := by simpa [List.getD_eq_getElem?_getD] using hk
      refine ⟨o, ?_, edgeB_spec hacc hk'⟩
      rw [← Array.getElem?_toList, hl, hlen]; simp
    · have : (acc ++ [edgeB acc j o])[k]? = none := by simp; omega
      rw [List.getD_eq_getElem?_getD, this] at hk; cases hk
theorem getD_ft {listed : Array Bool} {k : Nat} (h : listed.getD k false = true) : listed.getD k true = true := by
  rcases Nat.lt_or_ge k listed.size with h' | h'
  · simp [h'] at h ⊢; exact h
  · simp [Array.getElem?_eq_none h'] at h
/-- what waits for one that has not come up may not come up -/
theorem not_ready {ops : Array Oper} {listed : Array Bool} {j k : Nat} (hc : Closed ops listed) (hj : listed.getD j true = false) (hw : (waitsL ops j).getD k false = true) : k ∉ Region.ready .any ops listed := fun hk => by
  obtain ⟨o, ho, e, he, hb, h⟩ := waitsGo_spec (ops := ops) ops.toList [] [] rfl rfl (fun k h => by simp at h) k hw
  obtain ⟨_, o', ho', hall⟩ := mem_ready.1 hk
  rw [ho] at ho'; cases ho'
  have h1 := getD_ft (hall e he hb)
  rcases h with h | h
  · rw [h, hj] at h1; cases h1
  · have := h listed hc h1; rw [hj] at this; cases this
theorem closed_set {ops : Array Oper} {listed : Array Bool} {i : Nat} (hc : Closed ops listed) (hi : i ∈ Region.ready .any ops listed) : Closed ops (listed.setIfInBounds i true) := by
  intro k ok hk hl e he hb
  have mono : listed.getD e.on true = true → (listed.setIfInBounds i true).getD e.on true = true := fun h => by
    by_cases hie : i = e.on
    · subst hie
      rcases Nat.lt_or_ge e.on listed.size with h' | h'
      · simp [h']
      · simp
    · rwa [getD_set_ne true hie]
  by_cases hik : i = k
  · subst hik
    obtain ⟨_, o, ho, hall⟩ := mem_ready.1 hi
    rw [hk] at ho; cases ho
    exact mono (getD_ft (hall e he hb))
  · rw [getD_set_ne true hik] at hl
    exact mono (hc k ok hk hl e he hb)
theorem closed_init (ops : Array Oper) : Closed ops (Array.replicate ops.size false) := by
  intro k ok hk hl
  have hlt : k < ops.size := (Array.getElem?_eq_some_iff.1 hk).1
  simp [hlt] at hl
/-- every operation that changes memory, and has not come up, waits for this one -/
def chgL : List Oper → List Bool → Nat → Array Bool → Bool
  | [], _, _, _ => true
  | o :: r, ws, k, listed => (!chgO o || listed.getD k true || ws.getD k false) && chgL r ws (k + 1) listed
theorem chgL_spec {ws : List Bool} {listed : Array Bool} : ∀ {l : List Oper} {k : Nat}, chgL l ws k listed = true → ∀ (i : Nat) (o : Oper), l[i]? = some o → chgO o = true → listed.getD (k + i) true = false → ws.getD (k + i) false = true
  | [], k, _, i, o, ho, _, _ => by simp at ho
  | x :: r, k, h, i, o, ho, hc, hl => by
    simp only [chgL, Bool.and_eq_true] at h
    cases i with
    | zero =>
      simp at ho; subst ho
      have h1 := h.1
      simp only [Nat.add_zero] at hl ⊢
      rw [hc, hl] at h1
      simpa using h1
    | succ i =>
      have := chgL_spec h.2 i o (by simpa using ho) hc (by rw [show k + 1 + i = k + (i + 1) by omega]; exact hl)
      rwa [show k + 1 + i = k + (i + 1) by omega] at this
/-- what may be taken first -/
def firstF (ops : Array Oper) (listed : Array Bool) (i : Nat) : Bool := match ops[i]? with
  | some o => quietO o && Region.free .any ops listed i && (!(loadB o) || chgL ops.toList (waitsL ops i) 0 listed)
  | none => false
/-- the orders that stand for all -/
def ordersX (ops : Array Oper) : Nat → Array Bool → List (List Nat)
  | 0, _ => [[]]
  | n + 1, listed => match Region.ready .any ops listed with
    | [] => [[]]
    | i :: r => match (i :: r).find? (firstF ops listed) with
      | some j => (ordersX ops n (listed.setIfInBounds j true)).map (j :: ·)
      | none => (i :: r).flatMap fun j => (ordersX ops n (listed.setIfInBounds j true)).map (j :: ·)
def allX (ops : Array Oper) : List (List Nat) := ordersX ops ops.size (Array.replicate ops.size false)
def ordsX (ops : Array Oper) (ps : List (List Nat)) : Bool := Region.noSelect ops && (allX ops).all fun p => ps.contains p
/-- the one order -/
def chgS : List Oper → List Bool → Nat → List Nat → Bool
  | [], _, _, _ => true
  | o :: r, ws, k, done => (!chgO o || done.contains k || ws.getD k false) && chgS r ws (k + 1) done
def ordXGo (l : List (Nat × Oper)) (ol : List Oper) : Nat → List Nat → List Nat
  | 0, _ => []
  | n + 1, done => match l.find? (fun p => !done.contains p.1 && quietO p.2 && upB done p.2 && (!(loadB p.2) || chgS ol (waitsGo p.1 ol []) 0 done)) with
    | some p => p.1 :: ordXGo l ol n (p.1 :: done)
    | none => match l.find? (fun p => !done.contains p.1 && upB done p.2) with
      | some p => p.1 :: ordXGo l ol n (p.1 :: done)
      | none => []
def ord1 (ops : Array Oper) : List Nat := ordXGo (numL 0 ops.toList) ops.toList ops.toList.length []
section
variable {P : Program} {x : Cx} {σ : St} {ρ : Nat → Value} {a : Act} {w w' : World} {o : Oper} {ty : List (Nat × Td)} {Γ : Ctx} {K : St → Prop}
def chgI (ops : Array Oper) (i : Nat) : Bool := match ops[i]? with
  | some o => chgO o
  | none => false
/-- operations in a row; what is said of the world holds up to the next one that changes memory -/
def wpOpsX (P : Program) (ops : Array Oper) (Q : Exit → Act → World → Prop) : List Nat → (World → Prop) → Act → World → Prop
  | [], _, a, w => Q .normal a w
  | i :: q, S, a, w => wpOp P ops Q i (fun a' w' => ∃ S' : World → Prop, S' w' ∧ (chgI ops i = false → ∀ w'', S' w'' → S w'') ∧ wpOpsX P ops Q q S' a' w') a w
theorem wpOpsX_ops {ops : Array Oper} {Q : Exit → Act → World → Prop} : ∀ {q : List Nat} {S : World → Prop} {a : Act} {w : World}, wpOpsX P ops Q q S a w → wpOps P ops Q q a w
  | [], _, _, _, h => h
  | i :: q, S, a, w, h => by
    rw [wpOps_cons]
    exact wpOp_mono (fun a' w' ⟨S', _, _, h'⟩ => wpOpsX_ops h') h
theorem wpOpsX_weak {ops : Array Oper} {Q : Exit → Act → World → Prop} {q : List Nat} {S S' : World → Prop} (hS : ∀ w, S w → S' w) {a : Act} {w : World} (h : wpOpsX P ops Q q S a w) : wpOpsX P ops Q q S' a w := by
  cases q with
  | nil => exact h
  | cons i q => exact wpOp_mono (fun a' w' ⟨S2, h1, h2, h3⟩ => ⟨S2, h1, fun hc w'' hw => hS _ (h2 hc w'' hw), h3⟩) h
theorem YieldsIf.weak {ops : Array Oper} {S S' : World → Prop} (hS : ∀ w, S' w → S w) {o : Oper} {v : Value} (h : YieldsIf P ops S o v a) : YieldsIf P ops S' o v a := h.imp (fun ⟨h1, h2⟩ => ⟨h1, fun w hw => h2 w (hS w hw)⟩) id
/-- an operation that may come up, taken out of its place -/
theorem lateX {ops : Array Oper} {Q : Exit → Act → World → Prop} (hQ : ∀ c a w, ¬ Q (.panic c) a w) (hsel : Region.noSelect ops = true) {j : Nat} {oj : Oper} (hj : ops[j]? = some oj) {ld : Bool} :
    ∀ (q : List Nat) (listed : Array Bool), Valid ops q listed → Closed ops listed → (∀ k ok, ops[k]? = some ok → k ≠ j → listed.getD k true = false → (∀ e ∈ ok.after, Region.binds .any e = true → e.on ≠ j) → oj.apart ops ok = true) →
    (ld = true → ∀ k ok, ops[k]? = some ok → chgO ok = true → listed.getD k true = false → (waitsL ops j).getD k false = true) → j ∈ Region.ready .any ops listed →
    ∃ q', Valid ops q' (listed.setIfInBounds j true) ∧ ∀ v S T a w, S w → (∀ w, S w → T w) → (ld = false → ∀ w, T w) → YieldsIf P ops T oj v a → wpOpsX P ops Q q' S (a.put oj.dst v) w → wpOpsX P ops Q q S a w
  | [], listed, hv, _, hfree, _, hr => by simp only [Valid] at hv; rw [hv] at hr; cases hr
  | i :: q, listed, hv, hcl, hfree, hld, hr => by
    obtain ⟨hi, hv⟩ := hv
    by_cases hij : i = j
    · subst hij
      refine ⟨q, hv, fun v S T a w hS hST _ hy h => ?_⟩
      exact hy.wpOp hj (hST w hS) ⟨S, hS, fun _ _ h => h, h⟩
    · obtain ⟨hiun, oi, hoi, hall⟩ := mem_ready.1 hi
      have hjun := (mem_ready.1 hr).1
      have hnot : ∀ e ∈ oi.after, Region.binds .any e = true → e.on ≠ j := fun e he hb heq => by
        have h1 := getD_ft (hall e he hb)
        rw [heq, hjun] at h1; cases h1
      have hap := hfree i oi hoi hij hiun hnot
      have un : ∀ k, (listed.setIfInBounds i true).getD k true = false → listed.getD k true = false := fun k hun => by
        by_cases hik : i = k
        · subst hik; exact hiun
        · rwa [getD_set_ne true hik] at hun
      obtain ⟨q', hv', hq'⟩ := lateX (ld := ld) hQ hsel hj q (listed.setIfInBounds i true) hv (closed_set hcl hi) (fun k ok hk hkj hun hno => hfree k ok hk hkj (un k hun) hno) (fun h k ok hk hc hun => hld h k ok hk hc (un k hun)) (ready_mono hr (Ne.symm hij))
      refine ⟨i :: q', ⟨ready_mono hi hij, by rw [Array.setIfInBounds_comm _ _ (Ne.symm hij)]; exact hv'⟩, fun v S T a w hS hST hT hy h => ?_⟩
      have h2 := wpOp_putIf hoi hap (fun cs b => Region.noSelect_spec hsel j oj cs b hj) (fun cs b => Region.noSelect_spec hsel i oi cs b hoi) (fun c a w h => (hQ _ _ _ h).elim) hy h
      refine wpOp_mono (fun a' w' h3 => ?_) h2
      obtain ⟨hy', S', hS', hsub, h4⟩ := h3
      refine ⟨S', hS', hsub, hq' v S' T a' w' hS' (fun w'' hw'' => ?_) hT hy' h4⟩
      cases hl : ld with
      | false => exact hT hl w''
      | true =>
        refine hST w'' (hsub ?_ w'' hw'')
        unfold chgI
        rw [hoi]
        cases hc : chgO oi with
        | false => exact hc
        | true => exact absurd hi (not_ready hcl hjun (hld hl i oi hoi hc hiun))
/-- for each order there is one that stands for it -/
theorem redX_lin (hty : TyOk P ty) (hΓ : CtxOk P x Γ) {ops : Array Oper} {N : Nat} (hd : ∀ o ∈ ops.toList, dstOk N o.dst = true) {Q : Exit → Act → World → Prop} (hQ : ∀ c a w, ¬ Q (.panic c) a w)
    (hn : ∀ σ' ρ' a' w', K σ' → Rel x σ' ρ' a' w' → a'.tmps.size = N → Q .normal a' w') (hsel : Region.noSelect ops = true) :
    ∀ (n : Nat) (listed : Array Bool) (q : List Nat), Valid ops q listed → Closed ops listed → cntU ops listed ≤ n →
    ∃ p ∈ ordersX ops n listed, ∀ (σ : St) (ρ : Nat → Value) (a : Act) (w : World), Rel x σ ρ a w → a.tmps.size = N → vcOps Γ ty true ops.toList (pick ops p) σ K → wpOpsX P ops Q q (fun w' => Ext w w' NoM) a w
  | 0, listed, q, hv, _, hc => by
    cases q with
    | nil => exact ⟨[], by simp [ordersX], fun σ ρ a w h hN hs => hn σ ρ a w hs h hN⟩
    | cons i q => have := cntU_pos hv.1; omega
  | n + 1, listed, q, hv, hcl, hc => by
    simp only [ordersX]
    cases hr : Region.ready .any ops listed with
    | nil =>
      cases q with
      | nil => exact ⟨[], by simp, fun σ ρ a w h hN hs => hn σ ρ a w hs h hN⟩
      | cons i q => have := hv.1; rw [hr] at this; cases this
    | cons i0 r0 =>
      simp only []
      cases hf : (i0 :: r0).find? (firstF ops listed) with
      | some i =>
        have hmem : i ∈ Region.ready .any ops listed := by rw [hr]; exact List.mem_of_find?_eq_some hf
        have hdl := List.find?_some hf
        unfold firstF at hdl
        cases ho : ops[i]? with
        | none => rw [ho] at hdl; cases hdl
        | some o =>
          rw [ho] at hdl
          simp only [Bool.and_eq_true, Bool.or_eq_true, Bool.not_eq_true'] at hdl
          obtain ⟨⟨hq, hfree⟩, hch⟩ := hdl
          have hdo : ∀ a : Act, a.tmps.size = N → dstOk a.tmps.size o.dst = true := fun a hN => by rw [hN]; exact hd o (List.mem_of_getElem? (by rw [Array.getElem?_toList]; exact ho))
          obtain ⟨q', hv', hq'⟩ := lateX (P := P) (Q := Q) (ld := loadB o) hQ hsel ho q listed hv hcl (Region.free_spec ho hfree) (fun hl k ok hk hck hun => by
            rcases hch with hch | hch
            · rw [hch] at hl; cases hl
            · have := chgL_spec hch k ok (by rw [Array.getElem?_toList]; exact hk) hck (by rw [Nat.zero_add]; exact hun)
              rwa [Nat.zero_add] at this) hmem
          obtain ⟨p, hp, hpq⟩ := redX_lin hty hΓ hd hQ hn hsel n _ q' hv' (closed_set hcl hmem) (by have := cntU_lt hmem; omega)
          refine ⟨i :: p, List.mem_map.2 ⟨p, hp, rfl⟩, fun σ ρ a w h hN hs => ?_⟩
          rw [pick_cons ho] at hs
          have go : ∀ (v : Value) (T : World → Prop), (∀ w', Ext w w' NoM → T w') → (loadB o = false → ∀ w', T w') → YieldsIf P ops T o v a → wpOpsX P ops Q q' (fun w' => Ext w w' NoM) (a.put o.dst v) w → wpOpsX P ops Q q (fun w' => Ext w w' NoM) a w :=
            fun v T h1 h2 hy hk => hq' v _ T a w (Ext.refl _ _) h1 h2 hy hk
          have goR : ∀ (σ : St) (ρ : Nat → Value) (V : V), Rel x σ ρ a w → (∃ v, VRel w (x.U σ.ob ρ) σ.ob ρ v V ∧ ∀ w', (loadB o = true → Ext w w' NoM) → (execOp a.eval o).run P w' = .ok (.value v) w') → Region.wanted o (yielded ops a.tmps) = true → vcOps Γ ty true ops.toList (pick ops p) (σ.put o.dst V) K → wpOpsX P ops Q q (fun w' => Ext w w' NoM) a w := by
            rintro σ ρ V hrel ⟨v, hv, hrun⟩ hw hK
            exact go v (fun w' => loadB o = true → Ext w w' NoM) (fun w' hw' _ => hw') (fun hl w' e => by rw [hl] at e; cases e) (.inl ⟨hw, fun w' hw' => hrun w' hw'⟩) (hpq _ ρ _ w (hrel.put (hdo a hN) hv) (by rw [put_size, hN]) hK)
          have goN : ∀ (σ : St), Rel x σ ρ a w → Region.wanted o (yielded ops a.tmps) = false → vcOps Γ ty true ops.toList (pick ops p) (σ.put o.dst (.one .und)) K → wpOpsX P ops Q q (fun w' => Ext w w' NoM) a w := fun σ hrel hw hK =>
            go undef (fun _ => True) (fun _ _ => trivial) (fun _ _ => trivial) (.inr ⟨hw, rfl⟩) (hpq _ ρ _ w (hrel.put (hdo a hN) (v := undef) (V := .one .und) rfl) (by rw [put_size, hN]) hK)
          simp only [vcOps] at hs
          split at hs
          · rename_i hg
            have hw : Region.wanted o (yielded ops a.tmps) = true := by simp [Region.wanted, hg]
            obtain ⟨V, hK, hok⟩ := still_sound hty h (quiet_still hq hs)
            exact goR σ ρ V h hok hw hK
          · rename_i j want hg
            split at hs
            · rename_i d hjd
              split at hs
              · rename_i b hl'
                have hy := yielded_of (ops := ops) h hjd hl' (by rw [hN]; exact dst_lt hd hjd)
                by_cases hb : b = want
                all_goals simp only [hb, if_true, if_false] at hs
                · have hw : Region.wanted o (yielded ops a.tmps) = true := by simp [Region.wanted, hg, hy, hb]
                  obtain ⟨V, hK, hok⟩ := still_sound hty (h.know hl' hb) (quiet_still hq hs)
                  exact goR _ ρ V (h.know hl' hb) hok hw hK
                · have hw : Region.wanted o (yielded ops a.tmps) = false := by simp [Region.wanted, hg, hy, hb]
                  have hb' : b = !want := by cases b <;> cases want <;> simp_all
                  exact goN _ (h.know hl' hb') hw hs
              · rename_i hl'
                have hy := yielded_und (ops := ops) h hjd hl' (by rw [hN]; exact dst_lt hd hjd)
                have hw : Region.wanted o (yielded ops a.tmps) = false := by simp [Region.wanted, hg, hy]
                exact goN _ h hw hs
              · exact hs.elim
            · exact hs.elim
      | none =>
        cases q with
        | nil => simp only [Valid] at hv; rw [hv] at hr; cases hr
        | cons i q =>
          obtain ⟨hmem, hv⟩ := hv
          obtain ⟨_, o, ho, _⟩ := mem_ready.1 hmem
          have hdo : ∀ a : Act, a.tmps.size = N → dstOk a.tmps.size o.dst = true := fun a hN => by rw [hN]; exact hd o (List.mem_of_getElem? (by rw [Array.getElem?_toList]; exact ho))
          obtain ⟨p, hp, hpq⟩ := redX_lin hty hΓ hd hQ hn hsel n _ q hv (closed_set hcl hmem) (by have := cntU_lt hmem; omega)
          refine ⟨i :: p, List.mem_flatMap.2 ⟨i, by rw [← hr]; exact hmem, List.mem_map.2 ⟨p, hp, rfl⟩⟩, fun σ ρ a w h hN hs => ?_⟩
          rw [pick_cons ho] at hs
          have hci : chgI ops i = chgO o := by unfold chgI; rw [ho]
          have next : ∀ (σ' : St) (ρ' : Nat → Value) (a' : Act) (w' : World), vcOps Γ ty true ops.toList (pick ops p) σ' K → Rel x σ' ρ' a' w' → a'.tmps.size = N → (chgO o = false → Ext w w' NoM) →
              ∃ S' : World → Prop, S' w' ∧ (chgI ops i = false → ∀ w'', S' w'' → Ext w w'' NoM) ∧ wpOpsX P ops Q q S' a' w' := fun σ' ρ' a' w' hK hrel hsz hX =>
            ⟨fun w'' => Ext w' w'' NoM, Ext.refl _ _, fun hcf w'' hw'' => (hX (by rw [← hci]; exact hcf)).trans hw'' (fun _ f => f.elim), hpq σ' ρ' a' w' hrel hsz hK⟩
          show wpOp P ops Q i _ a w
          unfold wpOp
          simp only [ho]
          simp only [vcOps] at hs
          split at hs
          · rename_i hg
            have hw : Region.wanted o (yielded ops a.tmps) = true := by simp [Region.wanted, hg]
            rw [if_pos hw]
            exact .inl (step_ext hty hΓ h (hdo a hN) hs fun σ' ρ' a' w' hK hrel hsz hX => next σ' ρ' a' w' hK hrel (by rw [hsz, hN]) (hX rfl))
          · rename_i j want hg
            split at hs
            · rename_i d hjd
              split at hs
              · rename_i b hl'
                have hy := yielded_of (ops := ops) h hjd hl' (by rw [hN]; exact dst_lt hd hjd)
                by_cases hb : b = want
                all_goals simp only [hb, if_true, if_false] at hs
                · have hw : Region.wanted o (yielded ops a.tmps) = true := by simp [Region.wanted, hg, hy, hb]
                  rw [if_pos hw]
                  exact .inl (step_ext hty hΓ (h.know hl' hb) (hdo a hN) hs fun σ' ρ' a' w' hK hrel hsz hX => next σ' ρ' a' w' hK hrel (by rw [hsz, hN]) (hX rfl))
                · have hw : ¬ Region.wanted o (yielded ops a.tmps) = true := by simp [Region.wanted, hg, hy, hb]
                  rw [if_neg hw]
                  have hb' : b = !want := by cases b <;> cases want <;> simp_all
                  exact next _ ρ _ w hs ((h.know hl' hb').put (hdo a hN) (v := undef) (V := .one .und) rfl) (by rw [put_size, hN]) (fun _ => Ext.refl _ _)
              · rename_i hl'
                have hy := yielded_und (ops := ops) h hjd hl' (by rw [hN]; exact dst_lt hd hjd)
                have hw : ¬ Region.wanted o (yielded ops a.tmps) = true := by simp [Region.wanted, hg, hy]
                rw [if_neg hw]
                exact next _ ρ _ w hs (h.put (hdo a hN) (v := undef) (V := .one .und) rfl) (by rw [put_size, hN]) (fun _ => Ext.refl _ _)
              · exact hs.elim
            · exact hs.elim
theorem redX_sound (hm : P.follows .mixedOrders = true) (hty : TyOk P ty) (hΓ : CtxOk P x Γ) {id : Nat} {ops : Array Oper} {N : Nat} (hd : ∀ o ∈ ops.toList, dstOk N o.dst = true) {Q : Exit → Act → World → Prop} (hQ : ∀ c a w, ¬ Q (.panic c) a w)
    (hn : ∀ σ' ρ' a' w', K σ' → Rel x σ' ρ' a' w' → a'.tmps.size = N → Q .normal a' w') (h : Rel x σ ρ a w) (hN : a.tmps.size = N) {ps : List (List Nat)} (hp : ordsX ops ps = true)
    (hs : ∀ p ∈ ps, vcOps Γ ty true ops.toList (pick ops p) σ K) : (Code.region id ops true).wp P Q a w := by
  simp only [ordsX, Bool.and_eq_true, List.all_eq_true] at hp
  refine wp_region_draw fun t => ?_
  have hE : Ext w { w with drawn := w.drawn + 1 } NoM := ⟨rfl, rfl, Nat.le_refl _, fun _ _ _ => rfl, fun _ => rfl⟩
  simp only [Region.schedule, hm, Bool.true_or, if_true]
  have hmem := lin_mem (md := .any) (ops := ops) ops.size t (Array.replicate ops.size false)
  obtain ⟨p, hpm, hpq⟩ := redX_lin hty hΓ hd hQ hn hp.1 ops.size _ _ (orders_valid hmem (cntU_le _ _)) (closed_init ops) (cntU_le _ _)
  exact wpOpsX_ops (hpq σ ρ a _ (h.grown hE) hN (hs p (by simpa using hp.2 p hpm)))
end
end Go.Vq
