/- Part J of the small logic: stores. No conditions. -/
import Derived.Test.YtcibheinilkcoaaVcH
namespace Go.Vq
open Go.RowKit
section
variable {P : Program} {x : Cx} {σ : St} {ρ : Nat → Value} {a : Act} {w w' : World} {o : Oper} {ty : List (Nat × Td)} {K : St → Prop}

theorem Rel.setBox_srel (h : Rel x σ ρ a w) {id : Nat} {ss ss' : List Sc} (hid : look σ.ob id = some (.box ss)) {g : Nat} (hg : blk (ρ id) = some g) (hE : Ext w w' (fun b => some b = some g))
    {v : Value} {s : Sc} (hs : SRel w (x.U σ.ob ρ) σ.ob ρ v s) : SRel w' (x.U ((id, .box ss') :: σ.ob) ρ) ((id, .box ss') :: σ.ob) ρ v s := by
  have hlook : ∀ j, j ≠ id → look ((id, Ob.box ss') :: σ.ob) j = look σ.ob j := fun j hj => by rw [look_cons, if_neg (Ne.symm hj)]
  have hlid : look ((id, Ob.box ss') :: σ.ob) id = some (.box ss') := by simp [look_cons]
  have hsome : ∀ j, (look ((id, Ob.box ss') :: σ.ob) j).isSome ↔ (look σ.ob j).isSome := fun j => by
    by_cases hj : j = id
    · subst hj; simp [hlid, hid]
    · rw [hlook j hj]
  have hown : ∀ b, Own ((id, Ob.box ss') :: σ.ob) ρ b → Own σ.ob ρ b := fun b => by
    rintro ⟨j, o, hj, hb⟩
    obtain ⟨o', ho'⟩ := Option.isSome_iff_exists.1 ((hsome j).1 (by simp [hj]))
    exact ⟨j, o', ho', hb⟩
  refine hs.step (fun _ => True) (some g) (fun b _ hb => ⟨hb.1, fun ho => hb.2 (hown b ho)⟩) (fun b hb e => by cases e; exact hb.2 ⟨id, _, hid, hg⟩) (fun j _ o ho => ?_) (fun _ _ => rfl) (fun j _ ⟨ty, ks, rows, hj⟩ b hb e => ?_)
    (fun a u hb hu => hE.cell hb hu) (fun b _ hb => ⟨x.xo (fun i o b hi hb => by obtain ⟨o1, h1⟩ := Option.isSome_iff_exists.1 ((hsome i).1 (by simp [hi])); exact h.fresh i o1 b h1 hb) hb, fun e => by cases e; exact hb.2 ⟨id, _, hid, hg⟩⟩) (fun _ _ => trivial)
  · by_cases hj : j = id
    · subst hj; rw [hid] at ho; cases ho; exact ⟨_, hlid, fun _ _ _ e => by cases e⟩
    · exact ⟨o, by rw [hlook j hj, ho], fun _ _ _ e => e⟩
  · cases e
    have := h.sep j id _ _ g hj hid hb hg
    subst this; rw [hid] at hj; cases hj

theorem run_storeAt' {t : TypeId} {i : TypeInfo} (hi : P.info? t = some i) {g off : Nat} {ety : TypeId} {cur : Array Value} (hg : w.heap[g]? = some (.cells cur ety (0, 0))) {v : Value} (hsz : v.cells.toList.length = i.size)
    (hfit : off + v.cells.toList.length ≤ cur.size) (h1 : ∀ u ∈ v.cells.toList, u.oneCell' = true) :
    (Instr.storeAt t (.pointer (some ⟨g, off, none⟩)) v).run P w = .ok () (w.setRow g (cur.toList.take off ++ v.cells.toList ++ cur.toList.drop (off + v.cells.toList.length)).toArray) := by
  have hst := run_storeCells_at P g off ety v.cells.toList 0 cur w hg (by simpa using hfit) h1
  simp only [Nat.add_zero] at hst
  have hsz' : ¬ v.cells.size ≠ i.size := by simpa using hsz
  simp only [Instr.storeAt, Instr.sureAddr, Sem.run_bind, Sem.run_pure, Result.andThen_ok, storeVar, run_sizeOf' hi, hsz', if_false, hst]

theorem flatten_set {rows : List (List C)} {m i off : Nat} {new : List C} (he : ∀ r ∈ rows, r.length = m) (hi : i < rows.length) (hfit : off + new.length ≤ m) (hrl : rows[i].length = m) :
    (rows.set i (rows[i].take off ++ new ++ rows[i].drop (off + new.length))).flatten = rows.flatten.take (i * m + off) ++ new ++ rows.flatten.drop (i * m + off + new.length) := by
  induction rows generalizing i with
  | nil => simp at hi
  | cons r rs ih =>
    have hr : r.length = m := he r (by simp)
    cases i with
    | zero =>
      simp only [List.set_cons_zero, List.getElem_cons_zero, List.flatten_cons, Nat.zero_mul, Nat.zero_add]
      rw [List.take_append_of_le_length (by omega), List.drop_append_of_le_length (by omega)]
      simp [List.append_assoc]
    | succ i =>
      simp only [List.set_cons_succ, List.getElem_cons_succ, List.flatten_cons]
      have := ih (i := i) (fun r hr => he r (by simp [hr])) (by simpa using hi) (by simpa using hrl)
      rw [this]
      have e1 : (i + 1) * m + off = r.length + (i * m + off) := by rw [Nat.add_mul, hr]; omega
      have e2 : (i + 1) * m + off + new.length = r.length + (i * m + off + new.length) := by rw [Nat.add_mul, hr]; omega
      rw [e2, e1, List.take_length_add_append, List.drop_length_add_append]
      simp [List.append_assoc]
theorem take_patch {cur vs : List Value} {n o m : Nat} (h1 : o + m ≤ n) (h2 : n ≤ cur.length) (hv : vs.length = m) :
    (cur.take o ++ vs ++ cur.drop (o + m)).take n = (cur.take n).take o ++ vs ++ (cur.take n).drop (o + m) := by
  apply List.ext_getElem?
  intro j
  simp only [List.getElem?_take, List.getElem?_append, List.length_append, List.length_take, List.getElem?_drop]
  have hmin : min o cur.length = o := by omega
  have hmin2 : min o (min n cur.length) = o := by omega
  simp only [hmin, hmin2, hv]
  by_cases h3 : j < n
  · simp only [h3, if_true]
    by_cases h4 : j < o
    · have : j < o + m := by omega
      simp [h4, this]
    · by_cases h5 : j < o + m
      · simp [h4, h5]
      · have : o + m + (j - (o + m)) < n := by omega
        simp [h5, this]
  · have h4 : ¬ j < o := by omega
    have h5 : ¬ j < o + m := by omega
    have h6 : ¬ o + m + (j - (o + m)) < n := by omega
    simp [h3, h5, h6]
theorem All2.len {α β : Type} {R : α → β → Prop} {l : List α} {m : List β} (h : All2 R l m) : l.length = m.length := h.1

theorem sound_store (hty : TyOk P ty) (h : Rel x σ ρ a w) {t : TypeId} {p v : Operand} (ho : o.op = .store t p v) (hdst : o.dst = none) (hs : eff ty o σ K) : EffOk P x a w o K := by
  simp only [eff, ho, hdst] at hs
  have hp := ev_rel h p
  have hv := ev_rel h v
  split at hs
  · rename_i td ss hl hss
    obtain ⟨i, ds, hi, hu, hsz, _, _, _⟩ := tdB.info (hty.get hl)
    split at hs
    · rename_i id off he; rw [he] at hp
      obtain ⟨b, e1, e2, e3⟩ := hp
      split at hs
      · rename_i old hob
        obtain ⟨hlen, hfit, hkn, hs⟩ := hs
        obtain ⟨b', cs, ety, hb, hg, hr⟩ := h.objs id _ hob
        rw [e1] at hb
        simp only [Value.pointer.injEq, Option.some.injEq, Addr.mk.injEq, and_true] at hb
        subst hb
        have hcr := cells_rel hv hss hkn h.one
        have hvl : (a.eval v).cells.toList.length = ss.length := hcr.1
        have hrun := run_storeAt' (P := P) (w := w) hi (off := off) hg (v := a.eval v) (by rw [hvl, hlen, hsz]) (by rw [hvl]; simpa [hr.1] using hfit) (fun u hu => by
          obtain ⟨j, hj⟩ := List.getElem?_of_mem hu
          obtain ⟨y, hy⟩ : ∃ y, ss[j]? = some y := ⟨_, List.getElem?_eq_getElem (by rw [← hvl]; exact (List.getElem?_eq_some_iff.1 hj).1)⟩
          exact (hcr.2 j u y hj hy).1)
        rw [hvl] at hrun
        have hE : Ext w (w.setRow b ((List.toArray cs).toList.take off ++ (a.eval v).cells.toList ++ (List.toArray cs).toList.drop (off + ss.length)).toArray) (fun b' => some b' = some b) := Ext.setRow w _ b _ _ ety hg rfl
        have hblk : blk (ρ id) = some b := by rw [e1]; rfl
        refine ⟨_, ρ, w.setRow b ((List.toArray cs).toList.take off ++ (a.eval v).cells.toList ++ (List.toArray cs).toList.drop (off + ss.length)).toArray, hs, (fun e => by simp [chgO, ho] at e), .inr ⟨?_, ?_⟩⟩
        · unfold execOp; rw [ho]
          simp only [e2, Sem.run_bind, hrun, Result.andThen_ok, Sem.run_pure]
        · rw [hdst]
          refine Rel.setBox h hob hblk hE ⟨b, _, ety, e1, setRow_heap w b _ _ ety _ hg, ?_⟩
          have st : ∀ u s, (u.oneCell' = true ∧ SRel w (x.U σ.ob ρ) σ.ob ρ u s) → (u.oneCell' = true ∧ SRel _ (x.U ((id, .box (old.take off ++ ss ++ old.drop (off + ss.length))) :: σ.ob) ρ) ((id, .box (old.take off ++ ss ++ old.drop (off + ss.length))) :: σ.ob) ρ u s) :=
            fun u s hus => ⟨hus.1, Rel.setBox_srel h hob hblk hE hus.2⟩
          have hr' := hr.mono st
          exact ((hr'.take off).append (hcr.mono st)).append (hr'.drop (off + ss.length))
      · exact hs.elim
    · rename_i id i' off he; rw [he] at hp
      obtain ⟨g, n, cap, ty', ks', rows', e1, e2, e3⟩ := hp
      split at hs
      · rename_i ety ks rows hob
        rw [e1] at hob
        simp only [Option.some.injEq, Ob.row.injEq] at hob
        obtain ⟨rfl, rfl, rfl⟩ := hob
        obtain ⟨hil, hs⟩ := hs
        obtain ⟨new, hnk, hs, hnr⟩ := rowOf_sound hs hv h.one
        have hrow := List.getElem?_eq_getElem hil
        obtain ⟨xs, hw, hks, hx⟩ := h.objs id _ e1
        obtain ⟨hfit, hk2, hs⟩ := hs.get (hks _ (List.getElem_mem hil)) hrow
        have hm := kd_len hks
        have hrl : rows'[i'].length = ks'.length := hm _ (List.getElem_mem hil)
        rcases hw.2 with ⟨hz, hn⟩ | ⟨g', cap', cur, hρ, hbase, hg, hn, hcm, hcs, htake⟩
        · omega
        · rw [hρ] at e2
          simp only [Value.slice.injEq, Option.some.injEq, Addr.mk.injEq, and_true] at e2
          obtain ⟨rfl, _, _⟩ := e2
          have hvl : (a.eval v).cells.toList.length = new.length := hnr.1
          have hnl : new.length = td.ks.length := by rw [← hnk]; simp
          have hm1 : (i' + 1) * ks'.length ≤ rows'.length * ks'.length := Nat.mul_le_mul_right _ hil
          have hm2 : rows'.length * ks'.length ≤ cap' * ks'.length := Nat.mul_le_mul_right _ hn
          rw [Nat.add_mul, Nat.one_mul] at hm1
          have hfit' : i' * ks'.length + off + new.length ≤ cur.size := by omega
          have hrun := run_storeAt' (P := P) (w := w) hi (off := i' * ks'.length + off) hg (v := a.eval v) (by rw [hvl, hnl, hsz]) (by rw [hvl]; exact hfit') (fun u hu => by
            obtain ⟨j, hj⟩ := List.getElem?_of_mem hu
            obtain ⟨y, hy⟩ : ∃ y, new[j]? = some y := ⟨_, List.getElem?_eq_getElem (by rw [← hvl]; exact (List.getElem?_eq_some_iff.1 hj).1)⟩
            exact (hnr.2 j u y hj hy).1)
          rw [hvl] at hrun
          have hE : Ext w (w.setRow g' (cur.toList.take (i' * ks'.length + off) ++ (a.eval v).cells.toList ++ cur.toList.drop (i' * ks'.length + off + new.length)).toArray) (fun b' => some b' = some g') := Ext.setRow w _ g' _ _ ty' hg rfl
          have hblk : blk (ρ id) = some g' := by rw [hρ]; rfl
          have hsome : (look σ.ob id).isSome := by simp [e1]
          refine ⟨_, upd ρ id (ρ id), w.setRow g' (cur.toList.take (i' * ks'.length + off) ++ (a.eval v).cells.toList ++ cur.toList.drop (i' * ks'.length + off + new.length)).toArray, hs, (fun e => by simp [chgO, ho] at e), .inr ⟨?_, ?_⟩⟩
          · unfold execOp; rw [ho]
            simp only [e3, Sem.run_bind, hrun, Result.andThen_ok, Sem.run_pure]
          · rw [hdst]
            refine Rel.change h id false _ (ρ id) (some g') hE (fun _ e => by cases e; exact ⟨hblk, hsome⟩) (fun _ => ⟨rfl, ty', ks', rows', _, e1, rfl⟩) (fun b hb => .inr ⟨hb, hsome⟩) ?_ (fun e => by cases e)
            have hUs := Rel.U_step (x := x) (σ := σ) (ρ := ρ) (w := w) (ob' := (id, Ob.row ty' ks' (rows'.set i' (rows'[i'].take off ++ new ++ rows'[i'].drop (off + new.length)))) :: mapV (Ob.kill false id) σ.ob) (id := id) (v' := ρ id)
              (fun j hj hs => by rw [look_cons, if_neg (Ne.symm hj), look_mapV] at hs; simpa using hs) (fun b hb => .inr ⟨hb, hsome⟩)
            have st : ∀ u c, Rd w (x.U σ.ob ρ) u c → Rd (w.setRow g' (cur.toList.take (i' * ks'.length + off) ++ (a.eval v).cells.toList ++ cur.toList.drop (i' * ks'.length + off + new.length)).toArray)
                (x.U ((id, Ob.row ty' ks' (rows'.set i' (rows'[i'].take off ++ new ++ rows'[i'].drop (off + new.length)))) :: mapV (Ob.kill false id) σ.ob) (upd ρ id (ρ id))) u c :=
              fun u c hr => hr.mono hUs fun ad u' hU hu' => hE.cell (fun e => by
                simp only [Option.some.injEq] at e
                exact hU.2 ⟨id, _, e1, by rw [hblk, e]⟩) hu'
            have hxl : xs.length = rows'.length * ks'.length := by rw [hx.1, flatten_len hm]
            have hnewrow : (rows'[i'].take off ++ new ++ rows'[i'].drop (off + new.length)).length = ks'.length := by rw [← hk2]; simp
            have hflat : (rows'.set i' (rows'[i'].take off ++ new ++ rows'[i'].drop (off + new.length))).flatten = rows'.flatten.take (i' * ks'.length + off) ++ new ++ rows'.flatten.drop (i' * ks'.length + off + new.length) :=
              flatten_set hm hil (by rw [hrl] at hfit; exact hfit) hrl
            refine ⟨xs.take (i' * ks'.length + off) ++ (a.eval v).cells.toList ++ xs.drop (i' * ks'.length + off + new.length), ⟨?_, .inr ⟨g', cap', _, by rw [hρ]; simp, Nat.zero_le _, setRow_heap w g' _ _ ty' _ hg, ?_, hcm, ?_, ?_⟩⟩, ?_, ?_⟩
            · simp only [List.length_append, List.length_take, List.length_drop, List.length_set, hxl, hvl]; omega
            · simpa using hn
            · simp only [List.size_toArray, List.length_append, List.length_take, List.length_drop, Array.length_toList, hvl]; omega
            · simp only [List.length_set]
              rw [← htake]
              have hcl : cur.toList.length = cap' * ks'.length := by simpa using hcs
              exact take_patch (by omega) (by omega) hvl
            · intro r hr
              rcases List.mem_or_eq_of_mem_set hr with hr | rfl
              · exact hks r hr
              · exact hk2
            · rw [hflat]
              exact (((hx.mono st).take _).append ((hnr.mono fun _ _ h => h.2).mono st)).append ((hx.mono st).drop _)
      · exact hs.elim
    · exact hs.elim
  · exact hs.elim
end
end Go.Vq
