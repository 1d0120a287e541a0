/- Part F of the small logic: addresses, loads, slices, lengths. No conditions. -/
import Derived.Test.YtcibheinilkcoaaVcE
namespace Go.Vq
open Go.RowKit
section
variable {P : Program} {x : Cx} {σ : St} {ρ : Nat → Value} {a : Act} {w : World} {o : Oper} {ty : List (Nat × Td)} {K : V → Prop}

theorem add_off (b n m : Nat) : (⟨b, n, none⟩ : Addr).add m = ⟨b, n + m, none⟩ := Addr.add_lit b n m

theorem sound_fieldAddr (hty : TyOk P ty) (h : Rel x σ ρ a w) {t : TypeId} {y : Operand} {f : Nat} (ho : o.op = .fieldAddr t y f) (hs : still ty o σ K) : ∃ V, K V ∧ StillOk P x σ ρ a w o V := by
  simp only [still, ho] at hs
  have hy := ev_rel h y
  split at hs
  · rename_i flds ks by' hl
    obtain ⟨i, ds, hi, hu, _, _, _, hsh⟩ := tdB.info (hty.get hl)
    obtain ⟨fs, rfl, hf⟩ := shB.struct hsh
    split at hs
    · rename_i off n g hfl
      obtain ⟨fd, h1, h2, h3, h4, h5⟩ := fldsB.get hf hfl
      obtain ⟨fi, hfi, hfs⟩ : ∃ fi, P.info? fd.type = some fi ∧ fi.size = n := by
        cases hq : P.info? fd.type with
        | none => rw [hq] at h3; cases h3
        | some fi => rw [hq] at h3; simp at h3; exact ⟨fi, rfl, h3⟩
      have hfa : fs[f]? = some fd := by simpa using h1
      obtain ⟨hn, hs⟩ := hs
      have hex : ∀ ad w', a.eval y = .pointer (some ad) → (execOp a.eval o).run P w' = .ok (.value (.pointer (some (ad.add off)))) w' := by
        intro ad w' had
        unfold execOp; rw [ho]
        simp only [had, Sem.run_bind, Instr.fieldAt, run_underlying hu, Result.andThen_ok, hfa, Instr.sureAddr, Sem.run_pure, fieldPlace, run_sizeOf' hfi, hfs, hn, if_false, h2]
      split at hs
      · rename_i id o' he; rw [he] at hy
        obtain ⟨b, e1, e2, e3⟩ := hy
        exact ⟨_, hs, _, ⟨b, e1, rfl, e3⟩, fun w' _ => by rw [hex _ w' e2, add_off]⟩
      · rename_i id j o' he; rw [he] at hy
        obtain ⟨g, n, cap, ty, ks, rows, e1, e2, e3⟩ := hy
        exact ⟨_, hs, _, ⟨g, n, cap, ty, ks, rows, e1, e2, rfl⟩, fun w' _ => by rw [hex _ w' e3, add_off, Nat.add_assoc]⟩
      · rename_i cs he; rw [he] at hy
        obtain ⟨ad, e1, e2, e3⟩ := hy
        refine ⟨_, hs, _, ⟨ad.add off, rfl, fun hne => ?_, fun j c hj => ?_⟩, fun w' _ => hex _ w' e1⟩
        · rw [add_block]; exact e2 (by intro e; subst e; simp at hne)
        · rw [Addr.add_add]; rw [List.getElem?_drop] at hj; exact e3 _ _ hj
      · rename_i id cs he; rw [he] at hy
        obtain ⟨ad, e1, e2, e4, e3⟩ := hy
        refine ⟨_, hs, _, ⟨ad.add off, rfl, fun hne => ?_, e4, fun j c hj => ?_⟩, fun w' _ => hex _ w' e1⟩
        · rw [add_block]; exact e2 (by intro e; subst e; simp at hne)
        · rw [Addr.add_add]; rw [List.getElem?_drop] at hj; exact e3 _ _ hj
      · exact hs.elim
    · exact hs.elim
  · exact hs.elim

theorem Rd.slice_inv {S : Nat → Prop} {v : Value} {ks : List Kd} {rows : List (List C)} (h : Rd w S v (.sq ks rows)) : ∃ b n c, v = .slice b n c ∧ rows.length = n ∧ n ≤ c ∧ (b = none → rows = [] ∧ c = 0) := by
  cases h with
  | nil => exact ⟨none, 0, 0, rfl, rfl, Nat.le_refl _, fun _ => ⟨rfl, rfl⟩⟩
  | sq a n cap ks rows xs hn hc he hS hl hr hd => exact ⟨some a, n, cap, rfl, hn, hc, fun e => by cases e⟩

theorem run_indexAt' {t e : TypeId} {i : TypeInfo} (hu : P.underlying t = some (.slice e)) (hi : P.info? e = some i) {ad : Addr} {len cap : Nat} {k : IntKind} {n : Int} (h0 : 0 ≤ n) (h1 : n < len) (w : World) :
    (Instr.indexAt t (.slice (some ad) len cap) (.int k n)).run P w = .ok (.pointer (some (ad.add (n.toNat * i.size)))) w := by
  simp [Instr.indexAt, asIntOf, run_underlying hu, h0, h1, run_sizeOf' hi]

theorem sound_indexAddr (hty : TyOk P ty) (h : Rel x σ ρ a w) {t : TypeId} {y z : Operand} (ho : o.op = .indexAddr t y z) (hs : still ty o σ K) : ∃ V, K V ∧ StillOk P x σ ρ a w o V := by
  simp only [still, ho] at hs
  have hy := ev_rel h y
  have hz := ev_rel h z
  split at hs
  · rename_i e ks by' κ n hl he; rw [he] at hz
    obtain ⟨i, ds, hi, hu, _, _, _, hsh⟩ := tdB.info (hty.get hl)
    obtain rfl := shB.slice hsh
    have ez := hz.one_int
    split at hs
    · rename_i d hd
      obtain ⟨ie, de, hie, hue, hsz, _, _, _⟩ := tdB.info (hty.get hd)
      have hex : ∀ ad len cap w', a.eval y = .slice (some ad) len cap → 0 ≤ n → n < len → (execOp a.eval o).run P w' = .ok (.value (.pointer (some (ad.add (n.toNat * d.ks.length))))) w' := by
        intro ad len cap w' had h0 h1
        unfold execOp; rw [ho]
        simp only [had, ez, Sem.run_bind, run_indexAt' hu hie h0 h1, Result.andThen_ok, hsz, Sem.run_pure]
      split at hs
      · rename_i ks rows hye; rw [hye] at hy
        obtain ⟨hks, h0, h1, hs⟩ := hs
        obtain ⟨b, m, c, hv, hm, hc, hb⟩ := Rd.slice_inv hy
        have hi' : n.toNat < rows.length := by omega
        cases b with
        | none => rw [(hb rfl).1] at h1; simp at h1; omega
        | some ad =>
          have hy' : Rd w (x.U σ.ob ρ) (.slice (some ad) m c) (.sq ks rows) := by rw [← hv]; exact hy
          have hrow := List.getElem?_eq_getElem hi'
          obtain ⟨r1, r2, r3⟩ := hy'.row hrow
          refine ⟨_, hs.get r1 hrow, _, ⟨ad.add (n.toNat * ks.length), rfl, fun hne => by rw [add_block]; exact r2 hne, r3⟩, fun w' _ => ?_⟩
          rw [hex ad m c w' hv h0 (by omega), hks]
      · rename_i id ks rows hye; rw [hye] at hy
        obtain ⟨hks, h0, h1, hs⟩ := hs
        obtain ⟨hy, hid⟩ := hy
        obtain ⟨b, m, c, hv, hm, hc, hb⟩ := Rd.slice_inv hy
        have hi' : n.toNat < rows.length := by omega
        cases b with
        | none => rw [(hb rfl).1] at h1; simp at h1; omega
        | some ad =>
          have hy' : Rd w (fun b => x.U σ.ob ρ b ∨ blk (ρ id) = some b) (.slice (some ad) m c) (.sq ks rows) := by rw [← hv]; exact hy
          have hrow := List.getElem?_eq_getElem hi'
          obtain ⟨r1, r2, r3⟩ := hy'.row hrow
          refine ⟨_, hs.get r1 hrow, _, ⟨ad.add (n.toNat * ks.length), rfl, fun hne => by rw [add_block]; exact r2 hne, hid, r3⟩, fun w' _ => ?_⟩
          rw [hex ad m c w' hv h0 (by omega), hks]
      · rename_i id hye; rw [hye] at hy
        split at hs
        · rename_i tt ks rows hob
          obtain ⟨hks, h0, h1, hs⟩ := hs
          obtain ⟨hv, _⟩ := hy
          obtain ⟨xs, hw, _, _⟩ := h.objs id _ hob
          rcases hw.2 with ⟨_, hn⟩ | ⟨g, cap, cur, hρ, _, hg, _⟩
          · omega
          · refine ⟨_, hs, _, ⟨g, rows.length, cap, tt, ks, rows, hob, hρ, rfl⟩, fun w' _ => ?_⟩
            rw [hex ⟨g, 0, none⟩ _ _ w' (by rw [hv, hρ]) h0 h1, add_off, hks]
            simp
        · exact hs.elim
      · rename_i ks rows hye; rw [hye] at hy
        obtain ⟨hks, h0, h1, hs⟩ := hs
        obtain ⟨b, m, c, hv, hm, hc, hb⟩ := Rd.slice_inv hy
        have hi' : n.toNat < rows.length := by omega
        cases b with
        | none => rw [(hb rfl).1] at h1; simp at h1; omega
        | some ad =>
          have hy' : Rd w (Xo (x.U σ.ob ρ) σ.ob ρ) (.slice (some ad) m c) (.sq ks rows) := by rw [← hv]; exact hy
          have hrow := List.getElem?_eq_getElem hi'
          obtain ⟨r1, r2, r3⟩ := hy'.row hrow
          refine ⟨_, hs.get r1 hrow, _, ⟨ad.add (n.toNat * ks.length), rfl, fun hne => by rw [add_block]; exact r2 hne, r3⟩, fun w' _ => ?_⟩
          rw [hex ad m c w' hv h0 (by omega), hks]
      · exact hs.elim
    · exact hs.elim
  · exact hs.elim

theorem Rd.ptr_inv {U : Nat → Prop} {ob : List (Nat × Ob)} {u : Value} {cells : List C} (h : Rd w U u (.ptr cells)) : SRel w U ob ρ u (.rp cells) := by
  cases h with
  | ptr a cells xs hS hl hr hd =>
    refine ⟨a, rfl, fun hne => hS (fun e => ?_), fun j c hj => ?_⟩
    · subst e; exact hne (List.eq_nil_of_length_eq_zero hl.symm)
    · have hx : j < xs.length := by rw [hl]; exact (List.getElem?_eq_some_iff.1 hj).1
      exact ⟨xs[j], hr j _ (by simp [hx]), hd j _ c (by simp [hx]) hj⟩
theorem Rd.fn_inv {U : Nat → Prop} {ob : List (Nat × Ob)} {u : Value} {f : Nat} {cs : List C} (h : Rd w U u (.fn f cs)) : SRel w U ob ρ u (.fn f (cs.map fun c => (false, [c]))) := by
  cases h with
  | fn f cs xs hl hd =>
    refine ⟨xs, rfl, by simpa using hl, fun j v p hv hp => ?_⟩
    simp only [List.getElem?_map, Option.map_eq_some_iff] at hp
    obtain ⟨c, hc, rfl⟩ := hp
    exact hd j v c hv hc
theorem C.toS_rel {S U : Nat → Prop} {ob : List (Nat × Ob)} {u : Value} {c : C} (h : Rd w S u c) (hS : ∀ b, b < w.heap.size → S b → U b) : SRel w U ob ρ u c.toS := by
  cases c with
  | int k n => exact h.int_inv
  | bool b => exact h.bool_inv
  | sq ks rows => exact h.mono hS fun _ _ _ h => h
  | ptr cells => exact (h.mono hS fun _ _ _ h => h).ptr_inv
  | fn f cs => exact (h.mono hS fun _ _ _ h => h).fn_inv
theorem C.toW_rel {U : Nat → Prop} {ob : List (Nat × Ob)} {id : Nat} {u : Value} {c : C} (h : Rd w (fun b => U b ∨ blk (ρ id) = some b) u c) (hid : IsRow ob id) : SRel w U ob ρ u (c.toW id) := by
  cases c with
  | int k n => exact h.int_inv
  | bool b => exact h.bool_inv
  | sq ks rows => exact ⟨h, hid⟩
  | ptr _ => trivial
  | fn _ _ => trivial

theorem C.toX_rel {U : Nat → Prop} {ob : List (Nat × Ob)} {u : Value} {c : C} (h : Rd w (Xo U ob ρ) u c) : SRel w U ob ρ u c.toX := by
  cases c with
  | int k n => exact h.int_inv
  | bool b => exact h.bool_inv
  | sq ks rows => exact h
  | ptr _ => trivial
  | fn _ _ => trivial

/-- a load of cells that are there -/
theorem sound_cells (hty : TyOk P ty) {t : TypeId} {p : Operand} (ho : o.op = .load t p) {d : Td} (hl : look ty t = some d) {ad : Addr} (hp : a.eval p = .pointer (some ad)) {vs : List Value} {ss : List Sc}
    (hr : All2 (SRel w (x.U σ.ob ρ) σ.ob ρ) vs ss) (hc : ∀ (j : Nat) v, vs[j]? = some v → w.cell? (ad.add j) = some v) (hs : cut d.sh.agg d.ks.length ss K) : ∃ V, K V ∧ StillOk P x σ ρ a w o V := by
  obtain ⟨i, ds, hi, hu, hsz, _, _, hsh⟩ := tdB.info (hty.get hl)
  have hg := shB.agg hu hsh
  have hex : ∀ v w', (Instr.loadAt t (.pointer (some ad))).run P w' = .ok v w' → (execOp a.eval o).run P w' = .ok (.value v) w' := by
    intro v w' hv
    unfold execOp; rw [ho]
    simp only [hp, Sem.run_bind, hv, Result.andThen_ok, Sem.run_pure]
  rcases cut_sound hr hs with ⟨hga, V, hK, hlen, hV⟩ | ⟨hga, hn, V, v, hK, hv, hV⟩
  · refine ⟨V, hK, _, hV, fun w' hw' => hex _ _ (run_loadAt_agg hi hu (by rw [hg, hga]) (by rw [hlen, hsz]) fun j v hj => (hw' (by unfold loadB; rw [ho])).cell (fun f => f) (hc j v ?_))⟩
    rw [List.getElem?_take] at hj
    split at hj
    · exact hj
    · cases hj
  · refine ⟨V, hK, v, hV, fun w' hw' => hex _ _ (run_loadAt_one hu (by rw [hg, hga]) ((hw' (by unfold loadB; rw [ho])).cell (fun f => f) ?_))⟩
    have := hc 0 v hv
    rwa [Addr.add_zero'] at this

theorem cells_of {S : Nat → Prop} {ad : Addr} {cs : List C} (h : ∀ (j : Nat) c, cs[j]? = some c → ∃ u, w.cell? (ad.add j) = some u ∧ Rd w S u c) :
    ∃ vs : List Value, All2 (Rd w S) vs cs ∧ ∀ (j : Nat) v, vs[j]? = some v → w.cell? (ad.add j) = some v := by
  induction cs generalizing ad with
  | nil => exact ⟨[], All2.nil, fun j v h => by simp at h⟩
  | cons c cs ih =>
    obtain ⟨u, hu, hr⟩ := h 0 c rfl
    obtain ⟨vs, h1, h2⟩ := ih (ad := ad.add 1) (fun j c hj => by
      rw [Addr.add_add, Nat.add_comm]
      exact h (j + 1) c (by simpa using hj))
    refine ⟨u :: vs, h1.cons hr, fun j v hj => ?_⟩
    cases j with
    | zero => simp at hj; subst hj; exact hu
    | succ j =>
      simp at hj
      have := h2 j v hj
      rwa [Addr.add_add, Nat.add_comm] at this

theorem sound_load (hty : TyOk P ty) (h : Rel x σ ρ a w) {t : TypeId} {p : Operand} (ho : o.op = .load t p) (hs : still ty o σ K) : ∃ V, K V ∧ StillOk P x σ ρ a w o V := by
  simp only [still, ho] at hs
  have hp := ev_rel h p
  split at hs
  · rename_i d hl
    split at hs
    · rename_i id off he; rw [he] at hp
      obtain ⟨b, e1, e2, e3⟩ := hp
      split at hs
      · rename_i ss hob
        obtain ⟨b', cs, ty', hb, hg, hr⟩ := h.objs id _ hob
        rw [e1] at hb
        simp only [Value.pointer.injEq, Option.some.injEq, Addr.mk.injEq, and_true] at hb
        subst hb
        refine sound_cells hty ho hl e2 ((hr.mono fun _ _ h => h.2).drop off) (fun j v hj => ?_) hs
        rw [List.getElem?_drop] at hj
        rw [add_off]
        simp [World.cell?, hg, hj]
      · exact hs.elim
    · rename_i cs he; rw [he] at hp
      obtain ⟨ad, e1, e2, e3⟩ := hp
      obtain ⟨vs, h1, h2⟩ := cells_of e3
      refine sound_cells hty ho hl e1 (ss := cs.map C.toS) ⟨by simp [h1.1], fun j u s hu hs' => ?_⟩ h2 hs
      simp only [List.getElem?_map, Option.map_eq_some_iff] at hs'
      obtain ⟨c, hc, rfl⟩ := hs'
      exact C.toS_rel (h1.2 j u c hu hc) fun _ _ h => h
    · rename_i id cs he; rw [he] at hp
      obtain ⟨ad, e1, e2, e4, e3⟩ := hp
      obtain ⟨vs, h1, h2⟩ := cells_of e3
      refine sound_cells hty ho hl e1 (ss := cs.map (C.toW id)) ⟨by simp [h1.1], fun j u s hu hs' => ?_⟩ h2 hs
      simp only [List.getElem?_map, Option.map_eq_some_iff] at hs'
      obtain ⟨c, hc, rfl⟩ := hs'
      exact C.toW_rel (h1.2 j u c hu hc) e4
    · rename_i id i off he; rw [he] at hp
      obtain ⟨g, n, cap, ty', ks, rows, e1, e2, e3⟩ := hp
      split at hs
      · rename_i ty2 ks2 rows2 hob
        rw [e1] at hob
        simp only [Option.some.injEq, Ob.row.injEq] at hob
        obtain ⟨rfl, rfl, rfl⟩ := hob
        obtain ⟨hi, hs⟩ := hs
        obtain ⟨xs, hw, hks, hx⟩ := h.objs id _ e1
        have hrow := List.getElem?_eq_getElem hi
        have hs := hs.get (hks _ (List.getElem_mem hi)) hrow
        have hm := kd_len hks
        rcases hw.2 with ⟨hz, hn⟩ | ⟨g', cap', cur, hρ, _, hg, hn, _, hcs, htake⟩
        · omega
        · rw [hρ] at e2
          simp only [Value.slice.injEq, Option.some.injEq, Addr.mk.injEq, and_true] at e2
          obtain ⟨rfl, _, _⟩ := e2
          have hrl : rows[i].length = ks.length := hm _ (List.getElem_mem hi)
          obtain ⟨vs, h1, h2⟩ := cells_of (w := w) (S := x.U σ.ob ρ) (ad := ⟨g', i * ks.length + off, none⟩) (cs := rows[i].drop off) (fun j c hj => by
            rw [List.getElem?_drop] at hj
            have hjl : off + j < ks.length := by rw [← hrl]; exact (List.getElem?_eq_some_iff.1 hj).1
            have hf := flatten_get hm hrow hjl
            rw [hj] at hf
            obtain ⟨u, hu, hr⟩ := hx.get hf
            refine ⟨u, ?_, hr⟩
            rw [add_off]
            rw [← htake, List.getElem?_take] at hu
            split at hu
            · simpa [World.cell?, hg, Nat.add_assoc] using hu
            · cases hu)
          refine sound_cells hty ho hl e3 (ss := (rows[i].drop off).map (C.toW id)) ⟨by simp [h1.1], fun j u s hu hs' => ?_⟩ h2 hs
          simp only [List.getElem?_map, Option.map_eq_some_iff] at hs'
          obtain ⟨c, hc, rfl⟩ := hs'
          exact C.toW_rel ((h1.2 j u c hu hc).mono (fun _ _ h => .inl h) fun _ _ _ h => h) ⟨_, _, _, e1⟩
      · exact hs.elim
    · rename_i cs he; rw [he] at hp
      obtain ⟨ad, e1, e2, e3⟩ := hp
      obtain ⟨vs, h1, h2⟩ := cells_of e3
      refine sound_cells hty ho hl e1 (ss := cs.map C.toX) ⟨by simp [h1.1], fun j u s hu hs' => ?_⟩ h2 hs
      simp only [List.getElem?_map, Option.map_eq_some_iff] at hs'
      obtain ⟨c, hc, rfl⟩ := hs'
      exact C.toX_rel (h1.2 j u c hu hc)
    · exact hs.elim
  · exact hs.elim

theorem sound_extract (h : Rel x σ ρ a w) {y : Operand} {i : Nat} (ho : o.op = .extract y i) (hs : still ty o σ K) : ∃ V, K V ∧ StillOk P x σ ρ a w o V := by
  simp only [still, ho] at hs
  have hy := ev_rel h y
  split at hs
  · rename_i ps he; rw [he] at hy
    obtain ⟨vs, hv, hr⟩ := hy
    have hex : ∀ v w', vs[i]? = some v → (execOp a.eval o).run P w' = .ok (.value v) w' := by
      intro v w' hi
      have hi' : vs.toArray[i]? = some v := by simpa using hi
      unfold execOp; rw [ho]
      simp only [hv, Sem.run_bind, Instr.extract, hi', Sem.run_pure, Result.andThen_ok]
    split at hs
    · rename_i ss hp
      obtain ⟨v, hvi, hvr⟩ := hr.get hp
      exact ⟨_, hs, v, PRel.agg_iff.1 hvr, fun w' _ => hex v w' hvi⟩
    · rename_i s hp
      obtain ⟨v, hvi, hvr⟩ := hr.get hp
      exact ⟨_, hs, v, hvr, fun w' _ => hex v w' hvi⟩
    · exact hs.elim
  · exact hs.elim

theorem lenS_sound (h : Rel x σ ρ a w) {v : Value} {s : Sc} {n : Nat} (hv : SRel w (x.U σ.ob ρ) σ.ob ρ v s) (hn : lenS σ.ob s = some n) : ∃ b c, v = .slice b n c := by
  cases s with
  | ro ks rows =>
    simp only [lenS, Option.some.injEq] at hn; subst hn
    obtain ⟨b, m, c, h1, h2, _⟩ := Rd.slice_inv hv
    exact ⟨b, c, by rw [h1, h2]⟩
  | vw id ks rows =>
    simp only [lenS, Option.some.injEq] at hn; subst hn
    obtain ⟨b, m, c, h1, h2, _⟩ := Rd.slice_inv hv.1
    exact ⟨b, c, by rw [h1, h2]⟩
  | nil => simp only [lenS, Option.some.injEq] at hn; subst hn; exact ⟨_, _, hv⟩
  | root id =>
    simp only [lenS] at hn
    split at hn
    · rename_i ty ks rows hob
      simp only [Option.some.injEq] at hn; subst hn
      obtain ⟨xs, hw, _, _⟩ := h.objs id _ hob
      rcases hw.2 with ⟨hz, hn⟩ | ⟨g, cap, cur, hρ, _⟩
      · exact ⟨none, 0, by rw [hv.1, hz, hn]⟩
      · exact ⟨_, _, by rw [hv.1, hρ]⟩
    · cases hn
  | xr ks rows =>
    simp only [lenS, Option.some.injEq] at hn; subst hn
    obtain ⟨b, m, c, h1, h2, _⟩ := Rd.slice_inv hv
    exact ⟨b, c, by rw [h1, h2]⟩
  | _ => simp [lenS] at hn

theorem exec_builtin {b : Builtin} {args : List Operand} {ts : List TypeId} (ho : o.op = .call ⟨.builtin b, ⟨args⟩, ⟨ts⟩⟩) (w' : World) : ∃ cs, (execOp a.eval o).run P w' = (builtin b ts.toArray o.type cs (args.map a.eval).toArray).run P w' := by
  refine ⟨(Array.mk args).map fun | .const _ => true | _ => false, ?_⟩
  have e : (Array.mk args).map a.eval = (args.map a.eval).toArray := by simp
  rw [← e]
  unfold execOp; rw [ho]
  simp only [resolve, Sem.run_bind, Sem.run_pure, Result.andThen_ok, invoke]
  rfl
theorem sound_call (hty : TyOk P ty) (h : Rel x σ ρ a w) {c : Call} (ho : o.op = .call c) (hs : still ty o σ K) : ∃ V, K V ∧ StillOk P x σ ρ a w o V := by
  simp only [still, ho] at hs
  obtain ⟨c, args, ts⟩ := c
  obtain ⟨args⟩ := args
  obtain ⟨ts⟩ := ts
  simp only [stillCall] at hs
  split at hs
  · rename_i y t
    have hy := ev_rel h y
    split at hs
    · rename_i e ks by' s hl he; rw [he] at hy
      obtain ⟨i, ds, hi, hu, _, _, _, hsh⟩ := tdB.info (hty.get hl)
      obtain rfl := shB.slice hsh
      split at hs
      · rename_i n hn
        obtain ⟨b, c, hv⟩ := lenS_sound h hy hn
        refine ⟨_, hs, .int .i64 n, rfl, fun w' _ => ?_⟩
        obtain ⟨cs, ex⟩ := exec_builtin (P := P) (a := a) ho w'
        rw [ex]
        simp only [List.map_cons, List.map_nil, hv, Sem.run_bind, Sem.run_pure, Result.andThen_ok, builtin, Builtin.len_, List.getElem?_toArray, List.getElem?_cons_zero, run_underlying hu, goInt]
      · exact hs.elim
    · exact hs.elim
  · rename_i y z
    have hy := ev_rel h y
    have hz := ev_rel h z
    split at hs
    · rename_i k p k' q h1 h2; rw [h1] at hy; rw [h2] at hz
      refine ⟨_, hs, _, rfl, fun w' _ => ?_⟩
      obtain ⟨cs, ex⟩ := exec_builtin (P := P) (a := a) ho w'
      rw [ex]
      simp only [List.map_cons, List.map_nil, hy.one_int, hz.one_int, Sem.run_bind, Sem.run_pure, Result.andThen_ok, builtin, Builtin.min_, List.foldlM_cons, List.foldlM_nil, Builtin.min2]
    · exact hs.elim
  · rename_i y z
    have hy := ev_rel h y
    have hz := ev_rel h z
    split at hs
    · rename_i k p k' q h1 h2; rw [h1] at hy; rw [h2] at hz
      refine ⟨_, hs, _, rfl, fun w' _ => ?_⟩
      obtain ⟨cs, ex⟩ := exec_builtin (P := P) (a := a) ho w'
      rw [ex]
      simp only [List.map_cons, List.map_nil, hy.one_int, hz.one_int, Sem.run_bind, Sem.run_pure, Result.andThen_ok, builtin, Builtin.max_, List.foldlM_cons, List.foldlM_nil, Builtin.max2]
    · exact hs.elim
  · exact hs.elim
end
end Go.Vq
