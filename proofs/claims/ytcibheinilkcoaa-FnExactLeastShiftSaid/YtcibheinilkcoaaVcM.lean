/- Part M of the small logic: slices of slices, struct literals; all operations that leave the world alone. No conditions. -/
import Derived.Test.YtcibheinilkcoaaVcL
namespace Go.Vq
open Go.RowKit
section
variable {P : Program} {x : Cx} {σ : St} {ρ : Nat → Value} {a : Act} {w w' : World} {o : Oper} {ty : List (Nat × Td)}

theorem flatten_drop {rows : List (List C)} {m l : Nat} (he : ∀ r ∈ rows, r.length = m) : (rows.drop l).flatten = rows.flatten.drop (l * m) := by
  induction rows generalizing l with
  | nil => simp
  | cons r rs ih =>
    cases l with
    | zero => simp
    | succ l =>
      have hr : r.length = m := he r (by simp)
      simp only [List.drop_succ_cons, List.flatten_cons]
      rw [ih (fun r hr => he r (by simp [hr])), show (l + 1) * m = r.length + l * m by rw [Nat.add_mul, hr]; omega, List.drop_length_add_append]
theorem flatten_take {rows : List (List C)} {m l : Nat} (he : ∀ r ∈ rows, r.length = m) : (rows.take l).flatten = rows.flatten.take (l * m) := by
  induction rows generalizing l with
  | nil => simp
  | cons r rs ih =>
    cases l with
    | zero => simp
    | succ l =>
      have hr : r.length = m := he r (by simp)
      simp only [List.take_succ_cons, List.flatten_cons]
      rw [ih (fun r hr => he r (by simp [hr])), show (l + 1) * m = r.length + l * m by rw [Nat.add_mul, hr]; omega, List.take_length_add_append]

/-- a part of a slice that reads -/
theorem Rd.sub {S : Nat → Prop} {b : Option Addr} {n c : Nat} {ks : List Kd} {rows : List (List C)} (h : Rd w S (.slice b n c) (.sq ks rows)) {l k : Nat} (h1 : l ≤ k) (h2 : k ≤ rows.length) :
    Rd w S (sliced b l k c ks.length) (.sq ks ((rows.take k).drop l)) := by
  cases h with
  | nil => 
    have hk : k = 0 := by simpa using h2
    subst hk
    have hl : l = 0 := by omega
    subst hl
    exact .nil ks
  | sq ad n cap ks rows xs hn hc he hS hl hr hd =>
    have hm := kd_len he
    have hks : ∀ r ∈ (rows.take k).drop l, r.map C.kd = ks := fun r hr => he r (List.mem_of_mem_take (List.mem_of_mem_drop hr))
    have hrl : ((rows.take k).drop l).length = k - l := by simp; omega
    unfold sliced
    by_cases hcl : c = l
    · subst hcl
      have hk : k = c := by omega
      subst hk
      have he2 : (rows.take k).drop k = [] := List.eq_nil_of_length_eq_zero (by rw [hrl]; omega)
      rw [if_pos rfl, he2]
      refine .sq ad _ _ ks [] [] (by simp) (by omega) (fun r hr => absurd hr (by simp)) (fun h => absurd rfl h) rfl (fun j v hv => by simp at hv) (fun j v c hv => by simp at hv)
    · rw [if_neg hcl]
      have hfl : ((rows.take k).drop l).flatten = (rows.flatten.take (k * ks.length)).drop (l * ks.length) := by
        rw [flatten_drop (m := ks.length) (fun r hr => hm r (List.mem_of_mem_take hr)), flatten_take hm]
      refine .sq (ad.add (l * ks.length)) _ _ ks _ ((xs.take (k * ks.length)).drop (l * ks.length)) hrl (by omega) hks (fun hne => ?_) (by rw [hfl]; simp [hl]) (fun j v hv => ?_) (fun j v c hv hcc => ?_)
      · rw [add_block]
        exact hS (by intro e; subst e; simp at hne)
      · rw [Addr.add_add]
        rw [List.getElem?_drop, List.getElem?_take] at hv
        split at hv
        · exact hr _ v hv
        · cases hv
      · rw [hfl] at hcc
        rw [List.getElem?_drop, List.getElem?_take] at hv hcc
        split at hv
        · rename_i hlt; rw [if_pos hlt] at hcc; exact hd _ v c hv hcc
        · cases hv

theorem run_slice_opt {t e : TypeId} {i : TypeInfo} (ht : P.underlying t = some (.slice e)) (hi : P.info? e = some i) {b : Option Addr} {n c : Nat} {lo hi' : Option Value} {l k : Int}
    (hlo : lo = none ∧ l = 0 ∨ ∃ κ, lo = some (.int κ l)) (hhi : hi' = none ∧ k = n ∨ ∃ κ, hi' = some (.int κ k)) (h0 : 0 ≤ l) (h1 : l ≤ k) (h2 : k ≤ n) (hc : n ≤ c) (w : World) :
    (Instr.sliceAt t (.slice b n c) lo hi' none).run P w = .ok (sliced b l.toNat k.toNat c i.size) w := by
  have hte : P.underlying t = some (.slice (P.elem t)) := by simp [Program.elem, ht]
  have hel : P.elem t = e := by simp [Program.elem, ht]
  rw [run_sliceAt_slice w t _ _ _ _ hte]
  rcases hlo with ⟨rfl, rfl⟩ | ⟨κ, rfl⟩ <;> rcases hhi with ⟨rfl, rfl⟩ | ⟨κ', rfl⟩
  · rw [run_slice_all w t b n c hte, hel, run_sizeOf' hi, Result.andThen_ok]; rfl
  · rw [run_slice_h w t b n c hte κ' k (by omega) (by omega), hel, run_sizeOf' hi, Result.andThen_ok]; rfl
  · rw [run_slice_l w t b n c hte κ l h0 h1, hel, run_sizeOf' hi, Result.andThen_ok]; rfl
  · rw [run_slice_lh w t b n c hte κ κ' l k h0 h1 (by omega), hel, run_sizeOf' hi, Result.andThen_ok]

theorem sound_slice {K : V → Prop} (hty : TyOk P ty) (h : Rel x σ ρ a w) {t : TypeId} {y : Operand} {lo hi mx : Option Operand} (ho : o.op = .slice t y lo hi mx) (hs : still ty o σ K) : ∃ V, K V ∧ StillOk P x σ ρ a w o V := by
  simp only [still, ho] at hs
  have hy := ev_rel h y
  split at hs
  · rename_i e ks1 by1 hl
    obtain ⟨i1, d1, hi1, hu, _, _, _, hsh⟩ := tdB.info (hty.get hl)
    obtain rfl := shB.slice hsh
    split at hs
    · rename_i td hle
      obtain ⟨ie, de, hie, hue, hsz, _⟩ := tdB.info (hty.get hle)
      have go : ∀ {b : Option Addr} {n c : Nat} {rows : List (List C)} {K' : List (List C) → Prop}, a.eval y = .slice b n c → rows.length = n → n ≤ c →
          (match (match lo with | none => V.one (.int .i64 0) | some l => ev σ l), (match hi with | none => V.one (.int .i64 rows.length) | some h => ev σ h) with
          | .one (.int _ l), .one (.int _ h) => 0 ≤ l ∧ l ≤ h ∧ h ≤ rows.length ∧ K' ((rows.take h.toNat).drop l.toNat)
          | _, _ => False) → ∃ l k : Nat, l ≤ k ∧ k ≤ rows.length ∧ K' ((rows.take k).drop l) ∧ ∀ w', (execOp a.eval o).run P w' = .ok (.value (sliced b l k c ie.size)) w' := by
        intro b n c rows K' hv hn hc hm
        split at hm
        · rename_i κ l κ' k hlo hhi
          obtain ⟨h0, h1, h2, hm⟩ := hm
          have hlo' : lo.map a.eval = none ∧ l = 0 ∨ ∃ κ, lo.map a.eval = some (.int κ l) := by
            cases lo with
            | none => simp at hlo; exact .inl ⟨rfl, hlo.2.symm⟩
            | some lo => right; refine ⟨κ, ?_⟩; have := ev_rel h lo; simp only at hlo; rw [hlo] at this; simp [this.one_int]
          have hhi' : hi.map a.eval = none ∧ k = n ∨ ∃ κ, hi.map a.eval = some (.int κ k) := by
            cases hi with
            | none => simp at hhi; exact .inl ⟨rfl, by rw [← hhi.2, hn]⟩
            | some hi => right; refine ⟨κ', ?_⟩; have := ev_rel h hi; simp only at hhi; rw [hhi] at this; simp [this.one_int]
          refine ⟨l.toNat, k.toNat, by omega, by omega, hm, fun w' => ?_⟩
          unfold execOp; rw [ho]
          simp only [hv, Option.map_none, Sem.run_bind, run_slice_opt hu hie hlo' hhi' h0 h1 (by omega) hc w', Result.andThen_ok, Sem.run_pure]
        · exact hm.elim
      split at hs
      · rename_i ks rows he; rw [he] at hy
        obtain ⟨hks, hs⟩ := hs
        obtain ⟨b, n, c, hv, hn, hc, _⟩ := Rd.slice_inv hy
        obtain ⟨l, k, h1, h2, hK, hex⟩ := go (rows := rows) (K' := fun r => K (.one (.ro ks r))) hv hn hc hs
        have hy' : Rd w (x.U σ.ob ρ) (.slice b n c) (.sq ks rows) := by rw [← hv]; exact hy
        exact ⟨_, hK, _, hy'.sub h1 h2, fun w' _ => by rw [hex, hsz, hks]⟩
      · rename_i id ks rows he; rw [he] at hy
        obtain ⟨hks, hs⟩ := hs
        obtain ⟨b, n, c, hv, hn, hc, _⟩ := Rd.slice_inv hy.1
        obtain ⟨l, k, h1, h2, hK, hex⟩ := go (rows := rows) (K' := fun r => K (.one (.vw id ks r))) hv hn hc hs
        have hy' : Rd w (fun b => x.U σ.ob ρ b ∨ blk (ρ id) = some b) (.slice b n c) (.sq ks rows) := by rw [← hv]; exact hy.1
        exact ⟨_, hK, _, ⟨hy'.sub h1 h2, hy.2⟩, fun w' _ => by rw [hex, hsz, hks]⟩
      · rename_i he; rw [he] at hy
        obtain ⟨l, k, h1, h2, hK, hex⟩ := go (b := none) (n := 0) (c := 0) (rows := []) (K' := fun _ => K (.one .nil)) hy rfl (Nat.le_refl _) hs
        refine ⟨_, hK, .slice none 0 0, rfl, fun w' _ => ?_⟩
        rw [hex]
        have hk : k = 0 := by simpa using h2
        subst hk
        have hl : l = 0 := by omega
        subst hl
        rfl
      · rename_i id he; rw [he] at hy
        split at hs
        · rename_i tt ks rows hob
          obtain ⟨hks, hs⟩ := hs
          obtain ⟨xs, hw, hkk, hx⟩ := h.objs id _ hob
          rcases hs with hs | hs
          rotate_left
          · unfold frontP at hs
            split at hs
            · rename_i hh
              have hhr := ev_rel h hh
              split at hs
              · rename_i κ n hev
                obtain ⟨n0, n1, n2, hK⟩ := hs
                rw [hev] at hhr
                rcases hw.2 with ⟨_, hn⟩ | ⟨g, cap, cur, hρ, _, hg, hn, _, hcs, htake⟩
                · omega
                · refine ⟨_, hK, .slice (some ⟨g, 0, none⟩) n.toNat cap, ⟨g, rows.length, cap, tt, ks, rows, hob, hρ, by omega, rfl⟩, fun w' _ => ?_⟩
                  unfold execOp; rw [ho]
                  have hv : a.eval y = .slice (some ⟨g, 0, none⟩) rows.length cap := by rw [hy.1, hρ]
                  have hr := run_slice_opt (lo := none) (hi' := some (.int κ n)) (l := 0) (k := n) hu hie (b := some ⟨g, 0, none⟩) (n := rows.length) (c := cap) (.inl ⟨rfl, rfl⟩) (.inr ⟨κ, rfl⟩) (by omega) (by omega) (by omega) (by omega) w'
                  simp only [hv, hhr.one_int, Option.map_none, Option.map_some, Sem.run_bind, hr, Result.andThen_ok, Sem.run_pure]
                  simp [sliced, Addr.add_lit]
              · exact hs.elim
            · exact hs.elim
          have hrd : Rd w (fun b => x.U σ.ob ρ b ∨ blk (ρ id) = some b) (ρ id) (.sq ks rows) := by
            rcases hw.2 with ⟨hz, hn⟩ | ⟨g, cap, cur, hρ, _, hg, hn, _, hcs, htake⟩
            · rw [hz, List.eq_nil_of_length_eq_zero hn]; exact .nil ks
            · rw [hρ]
              exact .sq ⟨g, 0, none⟩ _ cap ks rows xs rfl hn hkk (fun _ => .inr rfl) hx.1 (fun j u hu => hw.cells (by rw [hρ]; rfl) j u hu) (fun j u c hu hc => (hx.2 j u c hu hc).mono (fun _ _ h => .inl h) fun _ _ _ h => h)
          obtain ⟨b, n, c, hv, hn, hc, _⟩ := Rd.slice_inv hrd
          obtain ⟨l, k, h1, h2, hK, hex⟩ := go (rows := rows) (K' := fun r => K (.one (.vw id ks r))) (by rw [hy.1, hv]) hn hc hs
          have hrd' : Rd w (fun b => x.U σ.ob ρ b ∨ blk (ρ id) = some b) (.slice b n c) (.sq ks rows) := by rw [← hv]; exact hrd
          exact ⟨_, hK, _, ⟨hrd'.sub h1 h2, _, _, _, hob⟩, fun w' _ => by rw [hex, hsz, hks]⟩
        · exact hs.elim
      · exact hs.elim
    · exact hs.elim
  · exact hs.elim

theorem fillS_sound (hρ : ∀ j o, look σ.ob j = some o → (ρ j).oneCell' = true) {U : Nat → Prop} {flds : List (Nat × Nat × Bool)} {place : Nat → Option (Nat × Nat)} (hp : ∀ (i o n : Nat) (g : Bool), flds[i]? = some (o, n, g) → place i = some (o, n)) :
    ∀ (parts : List (Nat × Value)) (Vs : List (Nat × V)) (cells : Array Value) (ss : List Sc) (K : List Sc → Prop), All2 (fun p q => p.1 = q.1 ∧ VRel w U σ.ob ρ p.2 q.2) parts Vs → All2 (SRel w U σ.ob ρ) cells.toList ss → fillS flds ss Vs K →
    ∃ cells' ss', Instr.fill place cells parts = some cells' ∧ K ss' ∧ All2 (SRel w U σ.ob ρ) cells'.toList ss'
  | [], [], cells, ss, K, _, hc, h => ⟨cells, ss, rfl, h, hc⟩
  | (i, v) :: parts, (j, V) :: Vs, cells, ss, K, hv, hc, h => by
    obtain ⟨h1, hV⟩ := hv.head
    simp only at h1 hV; subst h1
    simp only [fillS] at h
    have hsz : cells.size = ss.length := by have := hc.1; simpa using this
    split at h
    · exact h.elim
    · rename_i off n g hf
      have hpl := hp i off n g hf
      split at h
      · rename_i s
        obtain ⟨hk, rfl, hlt, h⟩ := h
        have hone := SRel.oneCell hV hk hρ
        have hcells : v.cells = #[v] := by have := cells_one hone; exact Array.ext' this
        have ih := fillS_sound hρ hp parts Vs (cells.setIfInBounds off v) (ss.set off s) K hv.tail (by rw [Array.toList_setIfInBounds]; exact hc.set off hV) h
        obtain ⟨cells', ss', e1, e2, e3⟩ := ih
        refine ⟨cells', ss', ?_, e2, e3⟩
        simp only [Instr.fill, hpl, hcells]
        rw [if_neg (by simp; omega), ← e1]
        simp
      · rename_i us
        obtain ⟨hul, hfit, h⟩ := h
        obtain ⟨vs, rfl, hus⟩ := hV
        have hvl : vs.length = n := by rw [hus.1, hul]
        have hfs := Go.Great.foldl_set off vs 0 cells
        have hnew : All2 (SRel w U σ.ob ρ) ((vs.zipIdx 0).foldl (fun cs (y : Value × Nat) => cs.setIfInBounds (off + y.2) y.1) cells).toList (ss.take off ++ us ++ ss.drop (off + n)) := by
          have e : ((vs.zipIdx 0).foldl (fun cs (y : Value × Nat) => cs.setIfInBounds (off + y.2) y.1) cells).toList = cells.toList.take off ++ vs ++ cells.toList.drop (off + n) := by
            apply List.ext_getElem?
            intro k
            rw [Array.getElem?_toList, hfs.2 k]
            simp only [Nat.add_zero, List.getElem?_append, List.length_append, List.length_take, List.getElem?_take, List.getElem?_drop, Array.length_toList, Array.getElem?_toList]
            have hmin : min off cells.size = off := by omega
            rw [hmin]
            by_cases h3 : k < off
            · have h4 : k < off + vs.length := by omega
              have h5 : ¬ off ≤ k := by omega
              simp [h3, h4, h5]
            · by_cases h4 : k < off + vs.length
              · have h5 : off ≤ k ∧ k < off + vs.length ∧ k < cells.size := by omega
                rw [if_pos h5, if_pos h4, if_neg h3]
              · have h5 : ¬ (off ≤ k ∧ k < off + vs.length ∧ k < cells.size) := by omega
                have h6 : off + n + (k - (off + vs.length)) = k := by omega
                rw [if_neg h5, if_neg h4, h6]
          rw [e]
          exact ((hc.take off).append hus).append (hc.drop (off + n))
        obtain ⟨cells', ss', e1, e2, e3⟩ := fillS_sound hρ hp parts Vs _ _ K hv.tail hnew h
        refine ⟨cells', ss', ?_, e2, e3⟩
        simp only [Instr.fill, hpl, Value.cells]
        have hfit' : off + vs.length ≤ cells.size := by omega
        refine (if_neg (by simp [hvl]; omega)).trans ?_
        rw [← e1]
        congr 1
        rw [← Array.foldl_toList, Array.toList_zipIdx]
      · exact h.elim
  | [], _ :: _, _, _, _, hv, _, _ => by have := hv.1; simp at this
  | _ :: _, [], _, _, _, hv, _, _ => by have := hv.1; simp at this

theorem fldsB.places {P : Program} : ∀ {fs : List Field} {r : List (Nat × Nat × Bool)}, fldsB P fs r = true → fs.mapM (fun f => (P.info? f.type).map fun i => (f.offset, i.size)) = some (r.map fun q => (q.1, q.2.1))
  | [], [], _ => rfl
  | f :: fs, (o, n, g) :: r, h => by
    simp only [fldsB, Bool.and_eq_true, beq_iff_eq] at h
    obtain ⟨⟨⟨⟨h1, h2⟩, _⟩, _⟩, h3⟩ := h
    have ih := fldsB.places h3
    cases hq : P.info? f.type with
    | none => rw [hq] at h2; cases h2
    | some i =>
      rw [hq] at h2; simp at h2
      simp [List.mapM_cons, hq, ih, h1, h2]
  | [], _ :: _, h => by simp [fldsB] at h
  | _ :: _, [], h => by simp [fldsB] at h

theorem sound_build {K : V → Prop} (hty : TyOk P ty) (h : Rel x σ ρ a w) {t : TypeId} {parts : Array (Nat × Operand)} (ho : o.op = .build t parts) (hs : still ty o σ K) : ∃ V, K V ∧ StillOk P x σ ρ a w o V := by
  simp only [still, ho] at hs
  split at hs
  · rename_i flds ks by1 hl
    obtain ⟨i, ds, hi, hu, hsz, _, ⟨z, hz, hzs, _⟩, hsh⟩ := tdB.info (hty.get hl)
    obtain ⟨fs, rfl, hf⟩ := shB.struct hsh
    have hpl := fldsB.places hf
    have hparts : All2 (fun p q => p.1 = q.1 ∧ VRel w (x.U σ.ob ρ) σ.ob ρ p.2 q.2) ((parts.map fun (i, v) => (i, a.eval v)).toList) (parts.toList.map fun p => (p.1, ev σ p.2)) := by
      rw [Array.toList_map]
      refine ⟨by simp, fun j p q hp hq => ?_⟩
      simp only [List.getElem?_map, Option.map_eq_some_iff] at hp hq
      obtain ⟨r, hr, rfl⟩ := hp
      obtain ⟨r', hr', rfl⟩ := hq
      rw [hr] at hr'; cases hr'
      exact ⟨rfl, ev_rel h r.2⟩
    obtain ⟨cells', ss', e1, e2, e3⟩ := fillS_sound h.one (place := ((flds.map fun q => (q.1, q.2.1)).toArray[·]?)) (fun i o n g hq => by simp [hq]) _ _ z.cells _ _ hparts ((zeros_rel hzs).mono fun _ _ h => h.2) hs
    have hb : P.built t (parts.map fun (i, v) => (i, a.eval v)).toList = some cells' := by
      unfold Program.built
      simp only [hi, hu, hz, hpl]
      exact e1
    refine ⟨_, e2, .agg cells', ⟨cells'.toList, by simp, e3⟩, fun w' _ => ?_⟩
    unfold execOp; rw [ho]
    simp only [Sem.run_bind, run_build w' t _ _ hb, Result.andThen_ok, Sem.run_pure]
  · exact hs.elim

theorem still_sound {K : V → Prop} (hty : TyOk P ty) (h : Rel x σ ρ a w) (hs : still ty o σ K) : ∃ V, K V ∧ StillOk P x σ ρ a w o V := by
  cases ho : o.op with
  | move y => exact sound_move h (.inl ho) (by simpa only [still, ho] using hs)
  | assign y => exact sound_move h (.inr ho) (by simpa only [still, ho] using hs)
  | pick c y z => exact sound_pick h ho hs
  | nilCheck y => exact sound_nilCheck h ho hs
  | unOp op t y =>
    cases op with
    | not => exact sound_not h ho hs
    | neg => exact sound_neg h ho hs
    | _ => simp [still, ho] at hs
  | binOp op t y z t' => exact sound_binOp hty h ho hs
  | convert s t y => exact sound_convert hty h ho hs
  | field t y f => exact sound_field hty h ho hs
  | fieldAddr t y f => exact sound_fieldAddr hty h ho hs
  | indexAddr t y z => exact sound_indexAddr hty h ho hs
  | load t p => exact sound_load hty h ho hs
  | extract y i => exact sound_extract h ho hs
  | build t parts => exact sound_build hty h ho hs
  | slice t y lo hi mx => exact sound_slice hty h ho hs
  | call c => exact sound_call hty h ho hs
  | _ => simp [still, ho] at hs
end
end Go.Vq
