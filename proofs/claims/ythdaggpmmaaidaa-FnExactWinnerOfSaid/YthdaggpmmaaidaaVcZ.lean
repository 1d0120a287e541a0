/- Part Z of the small logic: the choices of a run, one lemma each. No conditions. -/
import Derived.Test.YthdaggpmmaaidaaVcY
namespace Go.Vq
open Go.RowKit
section
variable {P : Program} {ty : List (Nat × Td)} {kp : List Nat} {sl sl1 sl2 : List (Nat × V)} {ob : List (Nat × Ob)} {k : Kont} {m m1 m2 : M} {b : Bool}
theorem z_run (h : run P ty kp 100000 m sl ob) : Mok P ty kp m sl ob := run_ok _ h
theorem z_t (h : Mok P ty kp m1 sl1 ob) : SB P ty kp true m1 m2 sl1 sl2 ob := ⟨fun _ => h, fun e => by cases e⟩
theorem z_f (h : Mok P ty kp m2 sl2 ob) : SB P ty kp false m1 m2 sl1 sl2 ob := ⟨(fun e => by cases e), fun _ => h⟩
theorem z_b (h1 : b = true → Mok P ty kp m1 sl1 ob) (h2 : b = false → Mok P ty kp m2 sl2 ob) : SB P ty kp b m1 m2 sl1 sl2 ob := ⟨h1, h2⟩
theorem z_r {p : Prop} (h : Mok P ty kp m sl ob) (hp : p) : SR P ty kp p m sl ob := ⟨hp, h⟩
theorem z_w {p : Prop} {ks : List Kd} {rows : List (List C)} {i : Nat} {f : List C → M} (h : allShape ks fun row => rows[i]? = some row → Mok P ty kp (f row) sl ob) (hp : p) : SW P ty kp p ks rows i f sl ob := ⟨hp, h⟩
/-- a row of a list of things -/
theorem z_wm {p : Prop} {ks : List Kd} {α : Type} {l : List α} {e : α → List C} {i : Nat} {f : List C → M} (h : ∀ x, l[i]? = some x → Mok P ty kp (f (e x)) sl ob) (hp : p) : SW P ty kp p ks (l.map e) i f sl ob := by
  refine ⟨hp, ?_⟩
  have : ∀ row, (l.map e)[i]? = some row → Mok P ty kp (f row) sl ob := by
    intro row hr
    rw [List.getElem?_map] at hr
    cases hx : l[i]? with
    | none => rw [hx] at hr; cases hr
    | some x => rw [hx] at hr; cases hr; exact h x hx
  exact allShape_all fun r _ => this r
theorem z_k {f : Nat} {cs : List (Bool × List C)} {r : Rs} {g : Rs → M} (hc : FnC P f cs r) (h : Mok P ty kp (g r) sl ob) : SK P ty kp f cs g sl ob := ⟨r, hc, h⟩
theorem z_l {c : Code} {α : Type} (x0 : α) (m : α → Nat) (f : α → St) (h0 : St.le ⟨sl, ob⟩ (f x0)) (h : ∀ y, Mok P ty kp (.code c (.lp (fun σ => ∃ z, m z < m y ∧ σ.le (f z)) k)) (f y).sl (f y).ob) : SL P ty kp c k sl ob := ⟨g_loop x0 m f h0 h⟩
theorem z_n {α : Type} {p : α → Prop} {f : α → St} (z : α) (h : p z) (hs : St.le ⟨sl, ob⟩ (f z)) : SN (fun σ => ∃ z, p z ∧ σ.le (f z)) sl ob := ⟨z, h, hs⟩
theorem z_e {ts : List RV} {r : Rs} {Vs : List V} (hv : rvs ⟨sl, ob⟩ ts = some Vs) (h : fin ob Vs r) : SF P ty kp ts r .ret sl ob := ⟨k_done_r hv h⟩
theorem z_e' {ts : List RV} {r : Rs} {Vs : List V} (hv : rvs ⟨sl, ob⟩ ts = some Vs) (h : fin ob Vs r) : SF P ty kp ts r .normal sl ob := ⟨k_done_n hv h⟩
end
/-- a whole function -/
theorem fn_z {P : Program} {ty : List (Nat × Td)} (kp : List Nat) {f : Nat} {fn : Func} {c : Code} {ts : List RV} {cs : List (Bool × List C)} {r : Rs} (hm : P.follows .mixedOrders = true) (hty : TyOk P ty)
    (hf : P.funcs[f]? = some fn) (hcal : callable P f = true) (hb : fn.body = some c) (hok : okB fn.ntmps c = true) (hrv : ts.all (RV.okB ty) = true) (hres : fn.results = (ts.map RV.res).toArray) (hl : ts.length = 1 ∨ ts.length = 2 ∨ ts.length = 3) (hn : cs.length ≤ fn.ntmps)
    {sl : List (Nat × V)} (hsl : entry 0 cs = sl) (h : Mok P ty kp (.code c (.done ts r)) sl []) : FnC P f cs r := ⟨hcal, fn_go kp hm hty hf hb hok hrv hres hl hn hsl h⟩
end Go.Vq
