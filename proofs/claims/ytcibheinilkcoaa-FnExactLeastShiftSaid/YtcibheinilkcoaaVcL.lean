/- Part L of the small logic: append. No conditions. -/
import Derived.Test.YtcibheinilkcoaaVcK
namespace Go.Vq
open Go.RowKit
section
variable {P : Program} {x : Cx} {σ : St} {ρ : Nat → Value} {a : Act} {w w' : World} {o : Oper} {ty : List (Nat × Td)} {K : St → Prop}

/-- what the second argument of an append reads as -/
def SrcRel (w : World) (y : Value) (m : Nat) (news : List Value) : Prop :=
  (m = 0 ∧ news = [] ∧ ∃ c, y = .slice none 0 c) ∨ (∃ ad c, y = .slice (some ad) m c ∧ (∀ (j : Nat) u, news[j]? = some u → w.cell? (ad.add j) = some u) ∧ ∀ u ∈ news, u.oneCell' = true)

theorem run_append_any {t t' tt e e' : TypeId} {i : TypeInfo} {z : Value} (ht : P.underlying t = some (.slice e)) (ht' : P.underlying t' = some (.slice e')) (hi : P.info? e = some i) (hz : i.zero = some z) (hzs : z.cells.size = i.size)
    {v : Value} {n : Nat} {xs : List Value} (hown : w.ownsRow 0 e i.size v n xs) {y : Value} {m : Nat} {news : List Value} (hy : SrcRel w y m news) (hl : news.length = m * i.size) (hbp : 0 < i.bytes) (hb : (n + m) * i.bytes ≤ 140737488355328) :
    ∃ v' w' B, (Builtin.append_ #[t, t'] tt #[v, y]).run P w = .ok v' w' ∧ Ext w w' (fun b => some b = B) ∧ (∀ g, B = some g → blk v = some g) ∧ (∀ b, blk v' = some b → w.heap.size ≤ b ∨ blk v = some b) ∧ w'.ownsRow 0 e i.size v' (n + m) (xs ++ news) := by
  have hmax : n + m ≤ maxLen := by
    have : (n + m) * 1 ≤ (n + m) * i.bytes := Nat.mul_le_mul_left _ hbp
    unfold maxLen; omega
  have nothing : ∀ base sLen sCap, v = .slice base sLen sCap → sLen ≤ sCap → m = 0 → ∃ v' w' B, (Builtin.append_ #[t, t'] tt #[v, y]).run P w = .ok v' w' ∧ Ext w w' (fun b => some b = B) ∧ (∀ g, B = some g → blk v = some g) ∧ (∀ b, blk v' = some b → w.heap.size ≤ b ∨ blk v = some b) ∧ w'.ownsRow 0 e i.size v' (n + m) (xs ++ news) := by
    intro base sLen sCap hv hle hm
    subst hm
    have hn : news = [] := List.eq_nil_of_length_eq_zero (by simpa using hl)
    subst hn
    have hsrc : Src P i.size t' y 0 [] w := by
      rcases hy with ⟨_, _, c, rfl⟩ | ⟨ad, c, rfl, h1, h2⟩
      · exact Src.ofNil w ht' c
      · exact Src.ofSlice w ht' ad 0 c [] (by simp) h1 h2
    refine ⟨v, w, none, ?_, Ext.refl _ _, fun _ e => (by cases e), fun b hb => .inr hb, by simpa using hown⟩
    rw [hv]; exact run_append_nothing w t t' tt e i ht hi base sLen sCap hle y hsrc
  have grow : ∀ base sLen sCap olds, v = .slice base sLen sCap → (Builtin.firstCells i.size sLen (.slice base sLen sCap)).run P w.drew = .ok (List.toArray olds) w.drew → n = sLen → xs = olds → sCap < sLen + m → m ≠ 0 →
      ∃ v' w' B, (Builtin.append_ #[t, t'] tt #[v, y]).run P w = .ok v' w' ∧ Ext w w' (fun b => some b = B) ∧ (∀ g, B = some g → blk v = some g) ∧ (∀ b, blk v' = some b → w.heap.size ≤ b ∨ blk v = some b) ∧ w'.ownsRow 0 e i.size v' (n + m) (xs ++ news) := by
    intro base sLen sCap olds hv hold hn hxs hg hm0
    subst hn; subst hxs
    have hsrc : Src P i.size t' y m news w := by
      rcases hy with ⟨h0, _⟩ | ⟨ad, c, rfl, h1, h2⟩
      · exact absurd h0 hm0
      · exact Src.ofSlice w ht' ad m c news hl h1 h2
    have h63 : ((n + m : Nat) : Int) ≤ 9223372036854775807 := by unfold maxLen at hmax; omega
    have hrun := run_append_grow_src w t t' tt e i z ht hi hz base n sCap xs hold y m news hsrc hg h63 (growslice_fits (by omega) hb)
    have hge := grownCap_ge w (n + m) sCap e
    have hcm := grownCap_le_maxLen w (n + m) sCap e hmax
    have hlen : (xs ++ news).length = (n + m) * i.size := by rw [List.length_append, hown.1, hl, Nat.add_mul]
    refine ⟨_, _, none, by rw [hv]; exact hrun, Ext.trans (M := fun b => some b = none) (M' := NoM) (Ext.drew (Ext.refl w _)) (Ext.alloc w.drew NoM _ e) (fun _ f => f.elim), fun _ e => (by cases e), fun b hb => (by cases hb; exact .inl (Nat.le_refl _)), hlen, .inr ⟨w.heap.size, _, _, rfl, Nat.zero_le _, heap_new w.drew _, hge, hcm, ?_, ?_⟩⟩
    · simp only [Array.size_append, List.size_toArray, size_zeroCells, hzs, hlen, ← Nat.add_mul]
      congr 1
      omega
    · rw [Array.toList_append, List.toList_toArray, ← hlen]
      exact List.take_left
  rcases hown.2 with ⟨rfl, rfl⟩ | ⟨g, cap, cur, rfl, hbg, hg, hnc, hcm, hcs, htake⟩
  · have hx : xs = [] := List.eq_nil_of_length_eq_zero (by simpa using hown.1)
    subst hx
    by_cases hm : m = 0
    · exact nothing none 0 0 rfl (Nat.le_refl _) hm
    · exact grow none 0 0 [] rfl (run_firstCells_none w.drew i.size 0 0 0) rfl rfl (by omega) hm
  · by_cases hm : m = 0
    · exact nothing _ _ _ rfl hnc hm
    · by_cases hroom : n + m ≤ cap
      · rcases hy with ⟨h0, _⟩ | ⟨ad, c, rfl, h1, h2⟩
        · exact absurd h0 hm
        · have hfit : n * i.size + news.length ≤ cur.size := by rw [hl, hcs, ← Nat.add_mul]; exact Nat.mul_le_mul_right _ hroom
          have hlen : (xs ++ news).length = (n + m) * i.size := by rw [List.length_append, hown.1, hl, Nat.add_mul]
          have hr : (Builtin.append_ #[t, t'] tt #[.slice (some ⟨g, 0, none⟩) n cap, .slice (some ad) m c]).run P w = .ok (.slice (some ⟨g, 0, none⟩) (n + m) cap) (w.setRow g (cur.toList.take (n * i.size) ++ news ++ cur.toList.drop (n * i.size + news.length)).toArray) := by
            have hf := run_firstCells_some (P := P) w i.size m ad m c news hl h1
            have hst := run_storeCells_at P g (n * i.size) e news 0 cur w hg (by simpa using hfit) h2
            simp only [Nat.add_zero] at hst
            simp [Builtin.append_, run_underlying ht, run_underlying ht', sizeOf, typeInfo, hi, Builtin.lenOf, hroom, hf, Addr.add_lit, hst]
          refine ⟨_, _, some g, hr, Ext.setRow w _ g _ _ e hg rfl, fun g' e => (by cases e; rfl), fun b hb => .inr hb, hlen, .inr ⟨g, cap, _, rfl, hbg, setRow_heap w g cur _ e _ hg, hroom, hcm, ?_, ?_⟩⟩
          · simp only [List.size_toArray, List.length_append, List.length_take, List.length_drop, Array.length_toList]
            omega
          · rw [List.toList_toArray, htake, ← hlen]
            exact List.take_left
      · have holds : ∀ (j : Nat) u, xs[j]? = some u → w.drew.cell? ((⟨g, 0, none⟩ : Addr).add j) = some u := fun j u hu => by simpa using hown.cells (g := g) rfl j u hu
        exact grow (some ⟨g, 0, none⟩) n cap xs rfl (run_firstCells_some w.drew i.size n ⟨g, 0, none⟩ n cap xs hown.1 holds) rfl rfl (by omega) hm

theorem src_rd {S : Nat → Prop} {y : Value} {ks : List Kd} {rows : List (List C)} (h : Rd w S y (.sq ks rows)) : ∃ news, SrcRel w y rows.length news ∧ (∀ r ∈ rows, r.map C.kd = ks) ∧ All2 (Rd w S) news rows.flatten := by
  cases h with
  | nil => exact ⟨[], .inl ⟨rfl, rfl, 0, rfl⟩, (fun r hr => absurd hr (by simp)), All2.nil⟩
  | sq ad n cap ks rows xs hn hc he hS hl hr hd =>
    have ha : All2 (Rd w S) xs rows.flatten := ⟨hl, hd⟩
    refine ⟨xs, .inr ⟨ad, cap, by rw [hn], hr, fun u hu => ?_⟩, he, ha⟩
    obtain ⟨j, hj⟩ := List.getElem?_of_mem hu
    obtain ⟨c, hc⟩ : ∃ c, rows.flatten[j]? = some c := ⟨_, List.getElem?_eq_getElem (by rw [← hl]; exact (List.getElem?_eq_some_iff.1 hj).1)⟩
    exact (hd j u c hj hc).oneCell
theorem flat_rd {S S' : Nat → Prop} {u : Value} {c : C} (h : Rd w S u c) (hf : c.kd.flat = true) : Rd w S' u c := by
  cases c with
  | int k n => rw [h.int_inv]; exact .int _ _
  | bool b => rw [h.bool_inv]; exact .bool _
  | sq ks rows => simp [C.kd, Kd.flat] at hf
  | ptr _ => simp [C.kd, Kd.flat] at hf
  | fn _ _ => simp [C.kd, Kd.flat] at hf
theorem flat_mem {ks : List Kd} {rows : List (List C)} (hf : ks.all Kd.flat = true) (he : ∀ r ∈ rows, r.map C.kd = ks) : ∀ c ∈ rows.flatten, c.kd.flat = true := by
  intro c hc
  obtain ⟨r, hr, hcr⟩ := List.mem_flatten.1 hc
  have := he r hr
  rw [List.all_eq_true] at hf
  exact hf _ (by rw [← this]; exact List.mem_map_of_mem hcr)
theorem src_sound (h : Rel x σ ρ a w) {y : Value} {s : Sc} {K : List Kd → List (List C) → Prop} (hy : SRel w (x.U σ.ob ρ) σ.ob ρ y s) (hs : srcOf σ.ob s K) :
    ∃ ks rows news, K ks rows ∧ SrcRel w y rows.length news ∧ (∀ r ∈ rows, r.map C.kd = ks) ∧ All2 (Rd w (x.U σ.ob ρ)) news rows.flatten := by
  cases s with
  | ro ks rows =>
    obtain ⟨news, h1, h2, h3⟩ := src_rd hy
    exact ⟨ks, rows, news, hs, h1, h2, h3⟩
  | vw id ks rows =>
    obtain ⟨news, h1, h2, h3⟩ := src_rd hy.1
    obtain ⟨hf, hs⟩ := hs
    exact ⟨ks, rows, news, hs, h1, h2, h3.mono' fun u _ c hc hr => flat_rd hr (flat_mem hf h2 c hc)⟩
  | root id =>
    simp only [srcOf] at hs
    split at hs
    · rename_i tt ks rows hob
      obtain ⟨xs, hw, hks, hx⟩ := h.objs id _ hob
      refine ⟨ks, rows, xs, hs, ?_, hks, hx⟩
      rw [hy.1]
      rcases hw.2 with ⟨hz, hn⟩ | ⟨g, cap, cur, hρ, _, hg, hn, _, hcs, htake⟩
      · exact .inl ⟨hn, List.eq_nil_of_length_eq_zero (by rw [hw.1, hn, Nat.zero_mul]), 0, hz⟩
      · refine .inr ⟨⟨g, 0, none⟩, cap, hρ, fun j u hu => ?_, fun u hu => ?_⟩
        · exact hw.cells (by rw [hρ]; rfl) j u hu
        · obtain ⟨j, hj⟩ := List.getElem?_of_mem hu
          obtain ⟨c, hc⟩ : ∃ c, rows.flatten[j]? = some c := ⟨_, List.getElem?_eq_getElem (by rw [← hx.1]; exact (List.getElem?_eq_some_iff.1 hj).1)⟩
          exact (hx.2 j u c hj hc).oneCell
    · exact hs.elim
  | _ => exact hs.elim

theorem flatten_takeN {rows : List (List C)} {m n : Nat} (he : ∀ r ∈ rows, r.length = m) : (rows.take n).flatten = rows.flatten.take (n * m) := by
  induction rows generalizing n with
  | nil => simp
  | cons r rs ih =>
    cases n with
    | zero => simp
    | succ n =>
      have hr := he r (by simp)
      rw [List.take_succ_cons, List.flatten_cons, List.flatten_cons, ih (fun r hr => he r (by simp [hr])), List.take_append, hr, Nat.succ_mul, Nat.add_sub_cancel]
      congr 1
      exact (List.take_of_length_le (by rw [hr]; omega)).symm
theorem ownsRow_front {e : TypeId} {sz g N cap n : Nat} {xs : List Value} (h : w.ownsRow 0 e sz (.slice (some ⟨g, 0, none⟩) N cap) N xs) (hn : n ≤ N) : w.ownsRow 0 e sz (.slice (some ⟨g, 0, none⟩) n cap) n (xs.take (n * sz)) := by
  refine ⟨by rw [List.length_take, h.1]; exact Nat.min_eq_left (Nat.mul_le_mul_right _ hn), ?_⟩
  rcases h.2 with ⟨e0, _⟩ | ⟨g', cap', cur, e0, hb, hg, hnc, hcm, hcs, ht⟩
  · cases e0
  · cases e0
    refine .inr ⟨g, cap, cur, rfl, hb, hg, by omega, hcm, hcs, ?_⟩
    rw [← ht, List.take_take, Nat.min_eq_left (Nat.mul_le_mul_right _ hn)]
theorem sound_append (hty : TyOk P ty) (h : Rel x σ ρ a w) {c : Call} {d : Nat} (ho : o.op = .call c) (hdst : o.dst = some d) (hd : d < a.tmps.size) (hs : eff ty o σ K) : EffOk P x a w o K := by
  simp only [eff, ho, hdst] at hs
  obtain ⟨c, args, ts⟩ := c
  obtain ⟨args⟩ := args
  obtain ⟨ts⟩ := ts
  dsimp only at hs
  split at hs
  · rename_i s y t t'
    have hchg : chgO o = true := by simp [chgO, ho]
    have hsr := ev_rel h s
    have hyr := ev_rel h y
    split at hs
    · rename_i e ks1 by1 e' ks2 by2 hl hl'
      obtain ⟨i1, d1, hi1, hu, _, _, _, hsh⟩ := tdB.info (hty.get hl)
      obtain rfl := shB.slice hsh
      obtain ⟨i2, d2, hi2, hu', _, _, _, hsh'⟩ := tdB.info (hty.get hl')
      obtain rfl := shB.slice hsh'
      have main : ∀ (td : Td) (rows' : List (List C)) (news : List Value) (ks' : List Kd), look ty e = some td → effAppend td e d σ (ev σ s) ks' rows' K → SrcRel w (a.eval y) rows'.length news → (∀ r ∈ rows', r.map C.kd = ks') → All2 (Rd w (x.U σ.ob ρ)) news rows'.flatten → EffOk P x a w o K := by
        intro td rows' news ks' hle hs hsrc hks' hn
        obtain ⟨ie, de, hie, hue, hsz, hby, ⟨zv, hzv, hzs, _⟩, _⟩ := tdB.info (hty.get hle)
        have hzl : zv.cells.size = ie.size := by have := (zeros_rd (w := w) (S := fun _ => True) hzs).1; rw [hsz]; simpa using this
        obtain ⟨rfl, hkp, hbp, hs⟩ := hs
        have hnl : news.length = rows'.length * ie.size := by rw [hn.1, flatten_len (kd_len hks'), hsz]
        have hex : ∀ v' w', (Builtin.append_ #[t, t'] o.type #[a.eval s, a.eval y]).run P w = .ok v' w' → (execOp a.eval o).run P w = .ok (.value v') w' := by
          intro v' w' hr
          obtain ⟨cs, ex⟩ := exec_builtin (P := P) (a := a) ho w
          rw [ex]
          simp only [List.map_cons, List.map_nil, builtin, Sem.run_bind, hr, Result.andThen_ok, Sem.run_pure]
        split at hs
        · rename_i heq; rw [heq] at hsr
          obtain ⟨hno, hb, hs⟩ := hs
          have hown : w.ownsRow 0 e ie.size (a.eval s) 0 [] := by rw [show a.eval s = .slice none 0 0 from hsr]; exact World.ownsRow_nil w 0 e ie.size
          obtain ⟨v', w', B, hr, hE, hB, hnew, hown'⟩ := run_append_any (tt := o.type) hu hu' hie hzv hzl hown hsrc hnl (by rw [hby]; exact hbp) (by rw [hby, Nat.zero_add]; exact hb)
          have hBn : B = none := by
            cases B with
            | none => rfl
            | some g => have := hB g rfl; rw [show a.eval s = .slice none 0 0 from hsr] at this; cases this
          subst hBn
          have hE' : Ext w w' NoM := hE.mono fun b hb => by cases hb
          have hnew' : ∀ b, blk v' = some b → w.heap.size ≤ b := fun b hb => (hnew b hb).elim id fun h2 => by rw [show a.eval s = .slice none 0 0 from hsr] at h2; cases h2
          have hU := Rel.U_step (x := x) (σ := σ) (ρ := ρ) (w := w) (ob' := (d, Ob.row e td.ks rows') :: σ.ob) (id := d) (v' := v') (fun j hj hs => by rwa [look_cons, if_neg (Ne.symm hj)] at hs) (fun b hb => .inl (hnew' b hb))
          have hrel := Rel.new (o' := .row e td.ks rows') (v' := v') h hno hE' hnew' ⟨news, by rw [← hsz]; simpa using hown', hks', hn.mono fun u c hr => hr.mono hU fun ad u' _ hu => hE'.cell (fun f => f) hu⟩
          refine ⟨_, upd ρ d v', w', hs, (fun e => by rw [hchg] at e; cases e), .inl ⟨v', hex v' w' hr, ?_⟩⟩
          rw [hdst]
          exact hrel.put (d := some d) (by simp [dstOk, hd]) (V := .one (.root d)) ⟨by simp [upd], by simp [look_cons]⟩
        · rename_i id heq; rw [heq] at hsr
          split at hs
          · rename_i e2 ks2 rows hob
            obtain ⟨hid5, rfl, rfl, hb, hs⟩ := hs
            have hF : x.F id = none := by
              cases hq : x.F id with
              | none => rfl
              | some v => have := (h.fix id v hq).1; omega
            obtain ⟨xs, hown, hks, hx⟩ := h.objs id _ hob
            have hsome : (look σ.ob id).isSome := by simp [hob]
            have hown1 : w.ownsRow 0 e2 ie.size (a.eval s) rows.length xs := by rw [hsr.1, hsz]; exact hown
            obtain ⟨v', w', B, hr, hE, hB, hnew, hown'⟩ := run_append_any (tt := o.type) hu hu' hie hzv hzl hown1 hsrc hnl (by rw [hby]; exact hbp) (by rw [hby]; exact hb)
            rw [hsr.1] at hB hnew
            have hU := Rel.U_step (x := x) (σ := σ) (ρ := ρ) (w := w) (ob' := (id, Ob.row e2 td.ks (rows ++ rows')) :: mapV (Ob.kill true id) σ.ob) (id := id) (v' := v')
              (fun j hj hs => by rw [look_cons, if_neg (Ne.symm hj), look_mapV] at hs; simpa using hs) (fun b hb => (hnew b hb).imp (fun h => h) fun h => ⟨h, hsome⟩)
            have st : ∀ u c, Rd w (x.U σ.ob ρ) u c → Rd w' (x.U ((id, Ob.row e2 td.ks (rows ++ rows')) :: mapV (Ob.kill true id) σ.ob) (upd ρ id v')) u c :=
              fun u c hr => hr.mono hU fun ad u' hU' hu' => hE.cell (fun e => hU'.2 ⟨id, _, hob, hB _ e.symm⟩) hu'
            have hrel := Rel.change h id true (.row e2 td.ks (rows ++ rows')) v' B hE (fun g hg => ⟨hB g hg, hsome⟩) (fun e => by cases e) (fun b hb => (hnew b hb).imp (fun h => h) fun h => ⟨h, hsome⟩)
              ⟨xs ++ news, by rw [← hsz]; simpa using hown', (fun r hr => (List.mem_append.1 hr).elim (hks r) (hks' r)), by rw [List.flatten_append]; exact (hx.mono st).append (hn.mono st)⟩ (fun _ => hF)
            refine ⟨_, upd ρ id v', w', hs, (fun e => by rw [hchg] at e; cases e), .inl ⟨v', hex v' w' hr, ?_⟩⟩
            rw [hdst]
            exact hrel.put (d := some d) (by simp [dstOk, hd]) (V := .one (.root id)) ⟨by simp [upd], by simp [look_cons]⟩
          · exact hs.elim
        · rename_i id n heq; rw [heq] at hsr
          split at hs
          · rename_i e2 ks2 rows hob
            obtain ⟨hid5, rfl, rfl, hb, hs⟩ := hs
            have hF : x.F id = none := by
              cases hq : x.F id with
              | none => rfl
              | some v => have := (h.fix id v hq).1; omega
            obtain ⟨xs, hown, hks, hx⟩ := h.objs id _ hob
            have hsome : (look σ.ob id).isSome := by simp [hob]
            obtain ⟨g0, m0, cap0, ty0, ks0, rows0, hob0, hρ0, hn0, hv0⟩ := hsr
            rw [hob] at hob0; cases hob0
            rw [hρ0] at hown
            have hm0 : m0 = rows.length := by
              rcases hown.2 with ⟨e0, _⟩ | ⟨g', cap', cur, e0, _⟩
              · cases e0
              · cases e0; rfl
            subst hm0
            have hblk : blk (ρ id) = some g0 := by rw [hρ0]; rfl
            have hown1 : w.ownsRow 0 e2 ie.size (a.eval s) n (xs.take (n * ie.size)) := by rw [hv0, hsz]; exact ownsRow_front hown hn0
            have hxt : All2 (Rd w (x.U σ.ob ρ)) (xs.take (n * ie.size)) (rows.take n).flatten := by rw [flatten_takeN (m := ie.size) (fun r hr => by rw [hsz, ← hks r hr]; simp)]; exact hx.take _
            obtain ⟨v', w', B, hr, hE, hB, hnew, hown'⟩ := run_append_any (tt := o.type) hu hu' hie hzv hzl hown1 hsrc hnl (by rw [hby]; exact hbp) (by rw [hby]; exact hb)
            rw [hv0] at hB hnew
            replace hB : ∀ g, B = some g → blk (ρ id) = some g := fun g hg => by rw [hblk]; exact hB g hg
            replace hnew : ∀ b, blk v' = some b → w.heap.size ≤ b ∨ blk (ρ id) = some b := fun b hb => (hnew b hb).imp (fun h => h) fun h => by rw [hblk]; exact h
            have hU := Rel.U_step (x := x) (σ := σ) (ρ := ρ) (w := w) (ob' := (id, Ob.row e2 td.ks (rows.take n ++ rows')) :: mapV (Ob.kill true id) σ.ob) (id := id) (v' := v')
              (fun j hj hs => by rw [look_cons, if_neg (Ne.symm hj), look_mapV] at hs; simpa using hs) (fun b hb => (hnew b hb).imp (fun h => h) fun h => ⟨h, hsome⟩)
            have st : ∀ u c, Rd w (x.U σ.ob ρ) u c → Rd w' (x.U ((id, Ob.row e2 td.ks (rows.take n ++ rows')) :: mapV (Ob.kill true id) σ.ob) (upd ρ id v')) u c :=
              fun u c hr => hr.mono hU fun ad u' hU' hu' => hE.cell (fun e => hU'.2 ⟨id, _, hob, hB _ e.symm⟩) hu'
            have hl : (rows.take n).length = n := by rw [List.length_take]; omega
            have hrel := Rel.change h id true (.row e2 td.ks (rows.take n ++ rows')) v' B hE (fun g hg => ⟨hB g hg, hsome⟩) (fun e => by cases e) (fun b hb => (hnew b hb).imp (fun h => h) fun h => ⟨h, hsome⟩)
              ⟨xs.take (n * ie.size) ++ news, by rw [← hsz, List.length_append, hl]; exact hown', (fun r hr => (List.mem_append.1 hr).elim (fun hr => hks r (List.mem_of_mem_take hr)) (hks' r)), by rw [List.flatten_append]; exact (hxt.mono st).append (hn.mono st)⟩ (fun _ => hF)
            refine ⟨_, upd ρ id v', w', hs, (fun e => by rw [hchg] at e; cases e), .inl ⟨v', hex v' w' hr, ?_⟩⟩
            rw [hdst]
            exact hrel.put (d := some d) (by simp [dstOk, hd]) (V := .one (.root id)) ⟨by simp [upd], by simp [look_cons]⟩
          · exact hs.elim
        · exact hs.elim
      split at hs
      · rename_i td hle hye; rw [hye] at hyr
        exact main td [] [] td.ks hle hs (.inl ⟨rfl, rfl, 0, hyr⟩) (fun r hr => absurd hr (by simp)) All2.nil
      · rename_i td ys hne hle hye
        rw [hye] at hyr
        obtain ⟨ks', rows', news, hs, h1, h2, h3⟩ := src_sound h hyr hs
        exact main td rows' news ks' hle hs h1 h2 h3
      · exact hs.elim
    · exact hs.elim
  · exact hs.elim
end
end Go.Vq
