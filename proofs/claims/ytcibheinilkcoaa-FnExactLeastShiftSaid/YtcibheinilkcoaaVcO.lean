/- Part O of the small logic: what a call leaves. No conditions. -/
import Derived.Test.YtcibheinilkcoaaVcN
namespace Go.Vq
open Go.RowKit
section
variable {P : Program} {x : Cx} {σ : St} {ρ : Nat → Value} {a : Act} {w w' : World} {o : Oper}

section shift
variable {U0 U' : Nat → Prop} {ob0 ob' : List (Nat × Ob)} {ρ0 ρ' : Nat → Value} (d : Nat) (hid : ∀ j, (look ob0 j).isSome → (look ob' (j + d)).isSome ∧ ρ' (j + d) = ρ0 j)
include hid
theorem scsOf_shift : ∀ (e : Nat) (cs : List Rc) (vs : List Value), (∀ ks rows v, Rc.fz ks rows ∈ cs → Rd w U0 v (.sq ks rows) → Rd w U' v (.sq ks rows)) → All2 (SRel w U0 ob0 ρ0) vs (scsOf e cs) → All2 (SRel w U' ob' ρ') vs (scsOf (e + d) cs)
  | e, [], vs, _, h => by
    rw [All2.nil_right h]; exact All2.nil
  | e, .int k n :: r, vs, hz, h => by
    obtain ⟨v, vs', rfl, h1, h2⟩ := h.cons_right
    exact All2.cons h1 (scsOf_shift e r vs' (fun ks rows v hm => hz ks rows v (by simp [hm])) h2)
  | e, .bool b :: r, vs, hz, h => by
    obtain ⟨v, vs', rfl, h1, h2⟩ := h.cons_right
    exact All2.cons h1 (scsOf_shift e r vs' (fun ks rows v hm => hz ks rows v (by simp [hm])) h2)
  | e, .own ty ks rows :: r, vs, hz, h => by
    obtain ⟨v, vs', rfl, h1, h2⟩ := h.cons_right
    obtain ⟨e1, e2⟩ := hid e h1.2
    refine All2.cons ⟨by rw [e2]; exact h1.1, e1⟩ ?_
    have := scsOf_shift (e + 1000) r vs' (fun ks rows v hm => hz ks rows v (by simp [hm])) h2
    rwa [show e + 1000 + d = e + d + 1000 by omega] at this
  | e, .fz ks rows :: r, vs, hz, h => by
    obtain ⟨v, vs', rfl, h1, h2⟩ := h.cons_right
    exact All2.cons (hz ks rows v (by simp) h1) (scsOf_shift e r vs' (fun ks rows v hm => hz ks rows v (by simp [hm])) h2)
  | e, .bx bs :: r, vs, hz, h => by
    obtain ⟨v, vs', rfl, h1, h2⟩ := h.cons_right
    obtain ⟨b, g1, g2, g3⟩ := h1
    obtain ⟨e1, e2⟩ := hid e g3
    refine All2.cons ⟨b, by rw [e2]; exact g1, g2, e1⟩ ?_
    have := scsOf_shift (e + 1000) r vs' (fun ks rows v hm => hz ks rows v (by simp [hm])) h2
    rwa [show e + 1000 + d = e + d + 1000 by omega] at this
theorem tupS_shift : ∀ (e : Nat) (ps : List (Bool × List Rc)) (vs : List Value), (∀ ks rows v, (∃ p ∈ ps, Rc.fz ks rows ∈ p.2) → Rd w U0 v (.sq ks rows) → Rd w U' v (.sq ks rows)) → All2 (PRel w U0 ob0 ρ0) vs (tupS e ps) → All2 (PRel w U' ob' ρ') vs (tupS (e + d) ps)
  | e, [], vs, _, h => by
    rw [All2.nil_right h]; exact All2.nil
  | e, (g, cs) :: r, vs, hz, h => by
    obtain ⟨v, vs', rfl, h1, h2⟩ := h.cons_right
    simp only [tupS]
    rw [nxt_shift]
    refine All2.cons ?_ (tupS_shift (nxt e cs) r vs' (fun ks rows v ⟨p, hp, hm⟩ => hz ks rows v ⟨p, by simp [hp], hm⟩) h2)
    have hz' : ∀ ks rows v, Rc.fz ks rows ∈ cs → Rd w U0 v (.sq ks rows) → Rd w U' v (.sq ks rows) := fun ks rows v hm => hz ks rows v ⟨(g, cs), by simp, hm⟩
    cases g with
    | true =>
      obtain ⟨us, rfl, h'⟩ := PRel.agg_iff.1 h1
      exact PRel.agg_iff.2 ⟨us, rfl, scsOf_shift d hid e cs us hz' h'⟩
    | false =>
      obtain ⟨s, hs, h'⟩ := h1.one_inv
      have h3 : All2 (SRel w U0 ob0 ρ0) [v] (scsOf e cs) := by rw [hs]; exact All2.nil.cons h'
      have h4 := scsOf_shift d hid e cs [v] hz' h3
      obtain ⟨s', hs'⟩ : ∃ s', scsOf (e + d) cs = [s'] := by
        have := h4.1
        match hq : scsOf (e + d) cs, this with
        | [s'], _ => exact ⟨s', rfl⟩
      rw [hs'] at h4 ⊢
      exact h4.head
theorem RsV_shift (r : Rs) (v : Value) (hz : ∀ ks rows v, r.flat = false → Rd w U0 v (.sq ks rows) → Rd w U' v (.sq ks rows)) (h : VRel w U0 ob0 ρ0 v (r.V 0)) : VRel w U' ob' ρ' v (r.V d) := by
  cases r with
  | one c =>
    have hz' : ∀ ks rows v, Rc.fz ks rows ∈ [c] → Rd w U0 v (.sq ks rows) → Rd w U' v (.sq ks rows) := fun ks rows v hm => hz ks rows v (by simp at hm; subst hm; rfl)
    have key : ∀ e, ∃ s, scsOf e [c] = [s] := by intro e; cases c <;> exact ⟨_, rfl⟩
    obtain ⟨s, hs⟩ := key 0
    obtain ⟨s', hs'⟩ := key d
    simp only [Rs.V, hs] at h
    simp only [Rs.V, hs']
    have h3 : All2 (SRel w U0 ob0 ρ0) [v] (scsOf 0 [c]) := by rw [hs]; exact All2.nil.cons h
    have h4 := scsOf_shift d hid 0 [c] [v] hz' h3
    rw [Nat.zero_add, hs'] at h4
    exact h4.head
  | agg cs =>
    obtain ⟨vs, rfl, h⟩ := h
    have h4 := scsOf_shift d hid 0 cs vs (fun ks rows v hm => hz ks rows v (by
      simp only [Rs.flat]; rw [List.all_eq_false]; exact ⟨_, hm, by simp [Rc.flat]⟩)) h
    rw [Nat.zero_add] at h4
    exact ⟨vs, rfl, h4⟩
  | tup ps =>
    obtain ⟨vs, rfl, h⟩ := h
    have h4 := tupS_shift d hid 0 ps vs (fun ks rows v ⟨p, hp, hm⟩ => hz ks rows v (by
      simp only [Rs.flat]; rw [List.all_eq_false]; exact ⟨p, hp, by simp only [Bool.not_eq_true]; rw [List.all_eq_false]; exact ⟨_, hm, by simp [Rc.flat]⟩⟩)) h
    rw [Nat.zero_add] at h4
    exact ⟨vs, rfl, h4⟩
end shift

/-- after a call that changes nothing old: its result is the caller's -/
theorem Rel.call (h : Rel x σ ρ a w) {g : Bool} {r : Rs} {v : Value} (hret : Ret (SA (x.U σ.ob ρ) g) w w' v r) (hE : Ext w w' NoM) {d : Nat} (hno : ∀ j, (look (r.O d) j).isSome → look σ.ob j = none) (hgf : g = true ∨ r.flat = true) :
    ∃ ρ', Rel x ⟨σ.sl, r.O d ++ σ.ob⟩ ρ' a w' ∧ VRel w' (x.U (r.O d ++ σ.ob) ρ') (r.O d ++ σ.ob) ρ' v (r.V d) := by
  obtain ⟨ρ0, h0, hv⟩ := hret
  let ρ' : Nat → Value := fun j => if (look (r.O d) j).isSome then ρ0 (j - d) else ρ j
  have hn : ∀ j, look (r.O d) (j + d) = look (r.O 0) j := fun j => Rs.O_shift r d j
  have hge : ∀ j, (look (r.O d) j).isSome → ∃ i, j = i + d ∧ look (r.O 0) i = look (r.O d) j := fun j hj => by
    have := Rs.O_ge r d j hj
    refine ⟨j - d, by omega, ?_⟩
    rw [← hn, Nat.sub_add_cancel this]
  have hρn : ∀ j, (look (r.O 0) j).isSome → ρ' (j + d) = ρ0 j := fun j hj => by
    show (if (look (r.O d) (j + d)).isSome then ρ0 (j + d - d) else ρ (j + d)) = _
    rw [hn, if_pos hj, Nat.add_sub_cancel]
  have hρo : ∀ j, look (r.O d) j = none → ρ' j = ρ j := fun j hj => by
    show (if (look (r.O d) j).isSome then ρ0 (j - d) else ρ j) = _
    rw [hj]; rfl
  have hlo : ∀ j, look (r.O d) j = none → look (r.O d ++ σ.ob) j = look σ.ob j := fun j hj => by rw [look_append, hj]; rfl
  have hln : ∀ j o, look (r.O d) j = some o → look (r.O d ++ σ.ob) j = some o := fun j o hj => by rw [look_append, hj]; rfl
  have holdnone : ∀ j, (look σ.ob j).isSome → look (r.O d) j = none := fun j hj => by
    cases hq : look (r.O d) j with
    | none => rfl
    | some o => have := hno j (by simp [hq]); rw [this] at hj; cases hj
  have hfresh0 : ∀ i oi b, look (r.O 0) i = some oi → blk (ρ0 i) = some b → w.heap.size ≤ b := fun i oi b hi hb => (h0.fresh i oi b hi hb).elim id (fun f => f.1.elim)
  have hownold : ∀ b, b < w.heap.size → Own (r.O d ++ σ.ob) ρ' b → Own σ.ob ρ b := by
    rintro b hb ⟨j, o, hj, hbj⟩
    cases hq : look (r.O d) j with
    | none => rw [hlo j hq] at hj; rw [hρo j hq] at hbj; exact ⟨j, o, hj, hbj⟩
    | some o' =>
      obtain ⟨i, rfl, hi⟩ := hge j (by simp [hq])
      rw [hρn i (by rw [hi, hq]; rfl)] at hbj
      have := hfresh0 i o' b (by rw [hi, hq]) hbj
      omega
  have hownnew : ∀ b, w.heap.size ≤ b → Own (r.O d ++ σ.ob) ρ' b → Own (r.O 0) ρ0 b := by
    rintro b hb ⟨j, o, hj, hbj⟩
    cases hq : look (r.O d) j with
    | none =>
      rw [hlo j hq] at hj; rw [hρo j hq] at hbj
      have := (h.objs j o hj).blk_lt hbj
      omega
    | some o' =>
      obtain ⟨i, rfl, hi⟩ := hge j (by simp [hq])
      rw [hρn i (by rw [hi, hq]; rfl)] at hbj
      exact ⟨i, o', by rw [hi, hq], hbj⟩
  have hU : ∀ b, b < w.heap.size → x.U σ.ob ρ b → x.U (r.O d ++ σ.ob) ρ' b := fun b hb hx => ⟨hx.1, fun ho => hx.2 (hownold b hb ho)⟩
  have hU0 : g = true → ∀ b, Cx.U ⟨SA (x.U σ.ob ρ) g, w, NoM, noF, false⟩ (r.O 0) ρ0 b → x.U (r.O d ++ σ.ob) ρ' b := by
    intro hg b ⟨h1, h2⟩
    by_cases hb : b < w.heap.size
    · rcases h1 with h1 | h1 | h1
      · simp only [SA, hg, if_true] at h1; exact hU b hb h1
      · exact h1.elim
      · exact absurd h1 (by show ¬ w.heap.size ≤ b; omega)
    · have hb' : w.heap.size ≤ b := by omega
      exact ⟨.inr (.inr (Nat.le_trans h.grow.size hb')), fun ho => h2 (hownnew b hb' ho)⟩
  have hUn : ∀ b, x.U σ.ob ρ b → some b ≠ (none : Option Nat) := fun b _ e => by cases e
  have hc : ∀ a u, some a.block ≠ (none : Option Nat) → w.cell? a = some u → w'.cell? a = some u := fun a u _ hu => hE.cell (fun f => f) hu
  have hob : ∀ j, (look σ.ob j).isSome → ∀ o, look σ.ob j = some o → ∃ o', look (r.O d ++ σ.ob) j = some o' ∧ ∀ ty ks rows, o = .row ty ks rows → o' = .row ty ks rows := fun j hj o ho =>
    ⟨o, by rw [hlo j (holdnone j hj), ho], fun _ _ _ e => e⟩
  have hρ : ∀ j, (look σ.ob j).isSome → ρ' j = ρ j := fun j hj => hρo j (holdnone j hj)
  have hon : ∀ j, (look σ.ob j).isSome → IsRow σ.ob j → ∀ b, blk (ρ j) = some b → some b ≠ (none : Option Nat) := fun _ _ _ _ _ e => by cases e
  have hfr : ∀ i o b, look (r.O d ++ σ.ob) i = some o → blk (ρ' i) = some b → x.w0.heap.size ≤ b ∨ x.Mo b := fun i o b hi hb => by
    cases hqi : look (r.O d) i with
    | none => rw [hlo i hqi] at hi; rw [hρo i hqi] at hb; exact h.fresh i o b hi hb
    | some oi' =>
      obtain ⟨i', rfl, hi'⟩ := hge i (by simp [hqi])
      rw [hρn i' (by rw [hi', hqi]; rfl)] at hb
      exact .inl (Nat.le_trans h.grow.size (hfresh0 i' _ b (by rw [hi', hqi]) hb))
  have hX : ∀ b, b < w.heap.size → Xo (x.U σ.ob ρ) σ.ob ρ b → Xo (x.U (r.O d ++ σ.ob) ρ') (r.O d ++ σ.ob) ρ' b ∧ some b ≠ none := fun b _ hb => ⟨x.xo hfr hb, fun e => by cases e⟩
  refine ⟨ρ', ⟨fun t V hV => ?_, fun j o hj => ?_, fun i j oi oj b hi hj hbi hbj => ?_, fun i o b hi hb => ?_, h.grow.trans hE (fun _ f => f.elim), h.defers, fun j v hv => ?_⟩, ?_⟩
  rotate_left 4
  · obtain ⟨f1, f2, f3⟩ := h.fix j v hv
    have := holdnone j f2
    refine ⟨f1, ?_, by rw [hρo j this]; exact f3⟩
    dsimp only
    rw [hlo j this]; exact f2
  rotate_left 1
  · have hvv := h.slots t V hV
    exact hvv.step (fun j => (look σ.ob j).isSome) none hU hUn hob hρ hon hc hX (fun j hj => hvv.used hj)
  · cases hq : look (r.O d) j with
    | none =>
      dsimp only at hj
      rw [hlo j hq] at hj
      rw [hρo j hq]
      have hor := h.objs j o hj
      have hB : ∀ b, blk (ρ j) = some b → w'.heap[b]? = w.heap[b]? := fun b hb => hE.block b (hor.blk_lt hb) (fun f => f)
      cases o with
      | row ty ks rows => exact ORel.step_row none hU hUn hc hor hB
      | box ss => exact ORel.step_box (fun j => (look σ.ob j).isSome) none hU hUn hob hρ hon hc hX hor (fun s hs j hj => hor.used ⟨s, hs, hj⟩) hB
    | some o' =>
      dsimp only at hj
      rw [hln j o' hq] at hj; cases hj
      obtain ⟨i, rfl, hi⟩ := hge j (by simp [hq])
      rw [hρn i (by rw [hi, hq]; rfl)]
      rcases Rs.O_row r d _ _ hq with ⟨ty, ks, rows, rfl, hfl⟩ | ⟨bs, rfl, hfl⟩
      · obtain ⟨xs, h1, h2, h3⟩ := h0.objs i _ (by rw [hi, hq])
        refine ⟨xs, h1, h2, h3.mono' fun u _ c hc' hr => ?_⟩
        rcases hgf with hg | hf
        · exact hr.mono (fun b _ => hU0 hg b) fun _ _ _ h => h
        · exact flat_rd hr (flat_mem (hfl hf) h2 c hc')
      · obtain ⟨b, cs, ety, h1, h2, h3⟩ := h0.objs i _ (by rw [hi, hq])
        refine ⟨b, cs, ety, h1, h2, ?_⟩
        refine ⟨by simpa using h3.1, fun k u s hu hs => ?_⟩
        have hk := h3.2 k u s hu hs
        refine ⟨hk.1, ?_⟩
        simp only [List.getElem?_map, Option.map_eq_some_iff] at hs
        obtain ⟨c, hc', rfl⟩ := hs
        have hr := C.toS_inv hk.2
        rcases hgf with hg | hf
        · exact C.toS_rel hr (fun b _ => hU0 hg b)
        · have := List.all_eq_true.1 (hfl hf) c (List.mem_of_getElem? hc')
          cases c with
          | int k n => exact hr.int_inv
          | bool b => exact hr.bool_inv
          | sq ks rows => simp [C.flatB] at this
          | ptr _ => simp [C.flatB] at this
          | fn _ _ => simp [C.flatB] at this
  · dsimp only at hi hj
    cases hqi : look (r.O d) i with
    | none =>
      rw [hlo i hqi] at hi; rw [hρo i hqi] at hbi
      cases hqj : look (r.O d) j with
      | none => rw [hlo j hqj] at hj; rw [hρo j hqj] at hbj; exact h.sep i j oi oj b hi hj hbi hbj
      | some oj' =>
        obtain ⟨j', rfl, hj'⟩ := hge j (by simp [hqj])
        rw [hρn j' (by rw [hj', hqj]; rfl)] at hbj
        have := hfresh0 j' _ b (by rw [hj', hqj]) hbj
        have := (h.objs i oi hi).blk_lt hbi
        omega
    | some oi' =>
      obtain ⟨i', rfl, hi'⟩ := hge i (by simp [hqi])
      rw [hρn i' (by rw [hi', hqi]; rfl)] at hbi
      have := hfresh0 i' _ b (by rw [hi', hqi]) hbi
      cases hqj : look (r.O d) j with
      | none =>
        rw [hlo j hqj] at hj; rw [hρo j hqj] at hbj
        have := (h.objs j oj hj).blk_lt hbj
        omega
      | some oj' =>
        obtain ⟨j', rfl, hj'⟩ := hge j (by simp [hqj])
        rw [hρn j' (by rw [hj', hqj]; rfl)] at hbj
        rw [h0.sep i' j' _ _ b (by rw [hi', hqi]) (by rw [hj', hqj]) hbi hbj]
  · exact hfr i o b hi hb
  · refine RsV_shift (U0 := Cx.U ⟨SA (x.U σ.ob ρ) g, w, NoM, noF, false⟩ (r.O 0) ρ0) (ob0 := r.O 0) (ρ0 := ρ0) d (fun j hj => ?_) r v (fun ks rows u hf hr => ?_) hv
    · obtain ⟨o, ho⟩ := Option.isSome_iff_exists.1 hj
      exact ⟨by rw [hln (j + d) o (by rw [hn, ho])]; rfl, hρn j hj⟩
    · rcases hgf with hg | hf'
      · exact hr.mono (fun b _ => hU0 hg b) fun _ _ _ h => h
      · rw [hf'] at hf; cases hf
end
end Go.Vq
