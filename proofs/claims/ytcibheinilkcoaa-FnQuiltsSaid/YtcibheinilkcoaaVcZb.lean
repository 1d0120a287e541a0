/- Part Zb of the small logic: a contract of a law's function gives the law's row. No conditions. -/
import Derived.Test.YtcibheinilkcoaaVcZa
import Derived.WalkKit
import Derived.ProofKit
import Derived.Handed
import Derived.ChangeCalls
import Derived.ChangeAgain
namespace Go.Vq
open Go.ChangeShapes Go.WideShapes Go.ChangeAt Go.RowKit
section
variable {H : Type} {enc : TypeId × Value → H} {P : Program} {w w' : World}
theorem Ext.sameAt (h : Ext w w' NoM) {p : MemPlace} (hp : p.block < w.heap.size) : w.sameAt w' p := by
  have hb := h.block p.block hp (fun f => f)
  cases p with
  | cell b off => exact World.cell?_of_block hb
  | map b => exact hb
theorem args_stay {T : TypeId → Prop} (K : Kids P T) (hsz : ∀ {t e : TypeId}, T t → P.underlying t = some (.slice e) → 0 < P.cellsOf e) (h : Ext w w' NoM) {sp : Nat → Bool} :
    ∀ {ts : List TypeId} {vs : List Value} {ds : List (DataW H)} {ps : List MemPlace}, (∀ t ∈ ts, T t) → DataW.TrodAll enc P w 0 (fun _ => true) true ts vs ds ps → (∀ p ∈ ps, sp p.block = true) → DataW.TrodAll enc P w' 0 sp true ts vs ds ps
  | [], [], [], _, _, hx, _ => hx
  | t :: ts, v :: vs, d :: ds, ps, hT, ⟨p, q, ⟨n, h1⟩, h2, e⟩, hs => by
    subst e
    refine ⟨p, q, ⟨n, ?_⟩, args_stay K hsz h (fun t ht => hT t (List.mem_cons_of_mem _ ht)) h2 (fun x hx => hs x (List.mem_append_right _ hx)), rfl⟩
    exact DataW.trod_stays K hsz (fun e => by cases e) (hT t (List.mem_cons_self ..)) h1 (fun x hx => h.sameAt (DataW.trod_lt _ _ _ _ h1 x hx)) (fun x hx => hs x (List.mem_append_left _ hx))
  | [], _ :: _, _, _, _, hx, _ => hx.elim
  | [], [], _ :: _, _, _, hx, _ => hx.elim
  | _ :: _, [], _, _, _, hx, _ => hx.elim
  | _ :: _, _ :: _, [], _, _, hx, _ => hx.elim
end

/-- what a law's contract is to say -/
def LawFn (P : Program) (f : Nat) (kss : List (Bool × List Kd)) : Prop :=
  ∀ caps : List (Bool × List C), caps.map (fun p => (p.1, p.2.map C.kd)) = kss → (∀ p ∈ caps, ∀ c ∈ p.2, Ok c) → FnC P f caps (.one (.bool true))

theorem law_lift {C : Checked} {os : Os} {H : Type} {enc : TypeId × Value → H} {f : FuncId} {fn : Func} {s : ChangeSpec} {tb : TypeId} (n : Nat) (kss : List (Bool × List Kd))
    (own : ownKnob C.prog.godebug = none) (started : os.Started) (noInit : C.prog.inits.idxOf? f = none) (hfn : C.prog.funcs[f]? = some fn)
    (witness : ∃ (w : World) (tape : Tape) (i : Input), w.os = os ∧ (w.forCall tape i).Shaped C.prog ∧ i.vars = [] ∧ Input.okWide C.prog (w.forCall tape i) .any w.heap.size f i ∧
      s.pre6 enc C.prog fn [] false (w.forCall tape i).memory i.args ∧ (({} : Assume)).holds C.prog (lone (Frame.enter C.prog f i.args .normal) [] (w.forCall tape i)))
    (hvars : s.vars = []) (hres : fn.resultTypes = #[tb]) (hb : C.prog.underlying tb = some .bool)
    (hspec : ∀ ds : List (DataW H), ds.length = fn.params.size → s.fn H (ds ++ []) = { results := [.lit (.bool true)], args := ds })
    (hk : fn.params.toList.map (fun t => (aggB C.prog t, kindsOf C.prog n t)) = kss.map (fun p => (p.1, some p.2)))
    (hlaid : laidOutB C.prog = true) (hmaps : mapsRowed C.prog = true)
    (hfull : ((List.range C.prog.types.size).all fun t => match C.prog.underlying t with | some (.slice e) => decide (0 < C.prog.cellsOf e) | _ => true) = true)
    (hparams : fn.params.toList.all (fun t => decide (t < C.prog.types.size)) = true)
    (law : LawFn C.prog f kss) :
    ReturnsInHanded {} C os f .any (s.pre6 enc C.prog fn [] false) (s.post enc C.prog fn false true false false) := by
  refine returnsInHanded_of_change own started noInit hfn witness ?_
  intro W base args ds gs before hval0 hW _ _
  have hval : ∀ (j : Nat) t v, fn.params.toList[j]? = some t → args.toList[j]? = some v → Value.okWide C.prog W .any 0 t v := by
    intro j t v ht hv
    exact Value.okWide_any_base (hval0 j t v (by simpa using ht) (by simpa using hv))
  have hW' := hW
  obtain ⟨p, q, hA, hV, rfl, hfz, hnd⟩ := hW
  rw [hvars] at hV
  obtain ⟨rfl, rfl⟩ := trodVars_none hV
  obtain ⟨caps, hc1, hc2, hc3⟩ := caps_open n hA hval hk
  obtain ⟨_, hF⟩ := law caps hc2 hc3
  have hcall := hF Any args.toList W hc1
  rw [Array.toArray_toList] at hcall
  refine hcall.mono fun e W' ⟨v, he, ⟨ρ, hrel, hv⟩, hx⟩ => ?_
  have hv : v = .bool true := hv
  subst hv; subst he
  have hg := hx.grown
  have hlen : ds.length = fn.params.size := by have := (trodAll_length hA).2; simpa using this
  have hsp := hspec ds hlen
  refine ⟨_, rfl, post_of_same (pa := p) (pv := []) (by simpa using hW') (fun _ _ _ => ?_) (fun sp hs => ?_) (fun sp hs => ?_) rfl (hg.frame _) hg.2.1 (ok_one hres rfl (okWide_bool_mk hb _))⟩
  · rw [hsp, hres]
    exact trodAll_cons_mk (shut_bool hb _) trodAll_mk0
  · rw [hsp]
    refine args_stay (kids_rows hlaid hmaps) (fun {t e} ht hu => slices_full_of C.prog hfull t e ht hu) hx (fun t ht => ?_) hA (fun x hx => hs x (by simpa using hx))
    exact of_decide_eq_true (List.all_eq_true.1 hparams t ht)
  · rw [hvars, hsp]
    exact rfl
end Go.Vq
