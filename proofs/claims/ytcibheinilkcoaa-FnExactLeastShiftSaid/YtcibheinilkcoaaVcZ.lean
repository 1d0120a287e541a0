/- Part Z of the small logic: the choices of a run, one lemma each. No conditions. -/
import Derived.Test.YtcibheinilkcoaaVcY
namespace Go.Vq
open Go.RowKit
section
variable {P : Program} {wv : Bool} {ty : List (Nat × Td)} {kp : List Nat} {sl sl1 sl2 : List (Nat × V)} {ob : List (Nat × Ob)} {k : Kont} {m m1 m2 : M} {b : Bool}
theorem z_run (h : run P wv ty kp 100000 m sl ob) : Mok P wv ty kp m sl ob := run_ok _ h
theorem z_t (h : Mok P wv ty kp m1 sl1 ob) : SB P wv ty kp true m1 m2 sl1 sl2 ob := ⟨fun _ => h, fun e => by cases e⟩
theorem z_f (h : Mok P wv ty kp m2 sl2 ob) : SB P wv ty kp false m1 m2 sl1 sl2 ob := ⟨(fun e => by cases e), fun _ => h⟩
theorem z_b (h1 : b = true → Mok P wv ty kp m1 sl1 ob) (h2 : b = false → Mok P wv ty kp m2 sl2 ob) : SB P wv ty kp b m1 m2 sl1 sl2 ob := ⟨h1, h2⟩
theorem z_r {p : Prop} (h : Mok P wv ty kp m sl ob) (hp : p) : SR P wv ty kp p m sl ob := ⟨hp, h⟩
theorem z_w {p : Prop} {ks : List Kd} {rows : List (List C)} {i : Nat} {f : List C → M} (h : allShape ks fun row => rows[i]? = some row → Mok P wv ty kp (f row) sl ob) (hp : p) : SW P wv ty kp p ks rows i f sl ob := ⟨hp, h⟩
/-- a row of a list of things -/
theorem z_wm {p : Prop} {ks : List Kd} {α : Type} {l : List α} {e : α → List C} {i : Nat} {f : List C → M} (h : ∀ x, l[i]? = some x → Mok P wv ty kp (f (e x)) sl ob) (hp : p) : SW P wv ty kp p ks (l.map e) i f sl ob := by
  refine ⟨hp, ?_⟩
  have : ∀ row, (l.map e)[i]? = some row → Mok P wv ty kp (f row) sl ob := by
    intro row hr
    rw [List.getElem?_map] at hr
    cases hx : l[i]? with
    | none => rw [hx] at hr; cases hr
    | some x => rw [hx] at hr; cases hr; exact h x hx
  exact allShape_all fun r _ => this r
theorem z_k {f : Nat} {cs : List (Bool × List C)} {r : Rs} {gb : Bool} {g : Bool → Rs → M} {vs : List V} {mm : List Nat → Option (List Mo) → Rs → M} (hc : FnC P f cs r) (h : Mok P wv ty kp (g gb r) sl ob) : SK P wv ty kp f cs gb g vs mm sl ob := ⟨.inl ⟨r, hc, h⟩⟩
/-- a call whose result lies in new memory alone -/
theorem z_kd {f : Nat} {cs : List (Bool × List C)} {r : Rs} {gb : Bool} {g : Bool → Rs → M} {vs : List V} {mm : List Nat → Option (List Mo) → Rs → M} (hc : FnDC P f cs r) (h : Mok P wv ty kp (g true r) sl ob) : SK P wv ty kp f cs gb g vs mm sl ob := ⟨.inr (.inr (.inl ⟨r, hc, h⟩))⟩
/-- a call that may change whole numbers in what it is handed to read -/
theorem z_ku {f : Nat} {cs : List (Bool × List C)} {κ : IntKind} {n : Int} {g : Bool → Rs → M} {vs : List V} {mm : List Nat → Option (List Mo) → Rs → M} (hc : FnUC P f cs κ n) (hf : flatOb ob = true) (h : hvL sl fun sl => Mok P true ty kp (mm [] (some []) (.one (.int κ n))) sl ob) : SK P true ty kp f cs true g vs mm sl ob := ⟨.inr (.inr (.inr ⟨rfl, rfl, hf, κ, n, hc, h⟩))⟩
/-- a store of a whole number into memory that no object stands for -/
theorem z_hs {all rest : List Oper} {o : Oper} {t : TypeId} {p v : Operand} {sh : Sh} {bs : Nat} {κ : IntKind} {n n' : Int} {cs : List C} (ho : o.op = .store t p v) (hd : o.dst = none) (hl : look ty t = some ⟨sh, [.int κ], bs⟩) (hp : ev ⟨sl, ob⟩ p = .one (.rp (.int κ n :: cs))) (hv : ev ⟨sl, ob⟩ v = .one (.int κ n')) (hf : flatOb ob = true)
    (h : hvL sl fun sl => Mok P true ty kp (.ops false all rest k) sl ob) : SX P true ty kp (.op false all rest k o) sl ob := by
  refine ⟨?_⟩
  unfold Mok Do
  simp only [stepK, ho]
  exact .inr ⟨rfl, rfl, hf, hd, t, p, v, sh, bs, κ, n, cs, n', ho, hl, hp, hv, h⟩
/-- a region that draws its order, and makes or changes memory: the state behind it is said -/
theorem z_dp {ops : Array Oper} (ps : List (List Nat)) (hp : ordsOk ops ps = true) (τ : St) (h1 : allP ps fun p => Mok P wv ty kp (.ops false ops.toList (pick ops p) (.lp (fun σ => σ.le τ) k)) sl ob) (h2 : Mok P wv ty kp (.fin .normal k) τ.sl τ.ob) : SD P wv ty kp ops k sl ob := ⟨.inl ⟨τ, ps, hp, allP_get h1, h2⟩⟩
/-- a region that draws its order, whose calls make memory: in one order -/
theorem z_o {ops : Array Oper} (hp : ordOk ops (ordG ops) = true) (h : Mok P wv ty kp (.ops true ops.toList (pick ops (ordG ops)) k) sl ob) : SD P wv ty kp ops k sl ob := ⟨.inr (.inl ⟨_, hp, h⟩)⟩
/-- a region that draws its order, whose calls change nothing: in one order -/
theorem z_x {ops : Array Oper} (hp : ordsX ops [ord1 ops] = true) (h : Mok P wv ty kp (.ops true ops.toList (pick ops (ord1 ops)) k) sl ob) : SD P wv ty kp ops k sl ob := ⟨.inr (.inr (.inl ⟨_, hp, fun p hm => by obtain rfl := List.mem_singleton.1 hm; exact h⟩))⟩
/-- a region that draws its order, whose calls change nothing: the state behind it is said -/
theorem z_xd {ops : Array Oper} (ps : List (List Nat)) (hp : ordsX ops ps = true) (τ : St) (h1 : allP ps fun p => Mok P wv ty kp (.ops true ops.toList (pick ops p) (.lp (fun σ => σ.le τ) k)) sl ob) (h2 : Mok P wv ty kp (.fin .normal k) τ.sl τ.ob) : SD P wv ty kp ops k sl ob := ⟨.inr (.inr (.inr ⟨τ, ps, hp, allP_get h1, h2⟩))⟩
theorem z_sn {τ : St} (h : St.le0 ⟨sl, ob⟩ τ) : SN (fun σ => σ.le τ) sl ob := ⟨[], rfl, h⟩
theorem z_snr {τ : St} (ps : List (Nat × Nat)) (hp : swOk ps = true) (h : St.le0 (St.swaps ps ⟨sl, ob⟩) τ) : SN (fun σ => σ.le τ) sl ob := ⟨ps, hp, h⟩
/-- what is handed over -/
def looks (ob : List (Nat × Ob)) : List Nat → List Mo → Prop
  | [], [] => True
  | i :: is, o :: os => look ob i = some o.ob ∧ looks ob is os
  | _, _ => False
theorem looks_len : ∀ {ids : List Nat} {obs : List Mo}, looks ob ids obs → obs.length = ids.length
  | [], [], _ => rfl
  | i :: is, o :: os, h => by simp [looks_len h.2]
  | [], _ :: _, h => h.elim
  | _ :: _, [], h => h.elim
theorem looks_get : ∀ {ids : List Nat} {obs : List Mo}, looks ob ids obs → ∀ (k i : Nat) (o : Mo), ids[k]? = some i → obs[k]? = some o → look ob i = some o.ob
  | [], _, _, k, i, o, h, _ => by simp at h
  | i' :: is, o' :: os, h, k, i, o, h1, h2 => by
    cases k with
    | zero => simp at h1 h2; subst h1; subst h2; exact h.1
    | succ k => simp at h1 h2; exact looks_get h.2 k i o h1 h2
  | _ :: _, [], h, _, _, _, _, _ => h.elim
theorem mutC {f : Nat} {vs : List V} {mm : List Nat → Option (List Mo) → Rs → M} (ids : List Nat) {as : List (Bool × List Ma)} {obs os : List Mo} {r : Rs} (hc : FnMC P f as obs os r) (hv : vs = as.map (maV fun k => ids.getD k 0)) (hin : maIn ids.length as = true)
    (hob : looks ob ids obs) (hn : nodupB ids = true) (h : Mok P wv ty kp (mm ids (some os) r) sl ob) : MutC P wv ty kp f vs mm sl ob :=
  .inl ⟨ids, as, obs, os, r, hc, hv, hin, ⟨looks_len hob, looks_get hob, nodupB_iff.1 hn⟩, h⟩
theorem hovC {f : Nat} {vs : List V} {mm : List Nat → Option (List Mo) → Rs → M} (ids : List Nat) {as : List (Bool × List Ma)} {obs : List Mo} {r : Rs} (hc : FnHC P f as obs r) (hv : vs = as.map (maV fun k => ids.getD k 0)) (hin : maIn ids.length as = true)
    (hob : looks ob ids obs) (hn : nodupB ids = true) (hlo : lowN ids = true) (h : Mok P wv ty kp (mm ids none r) sl ob) : MutC P wv ty kp f vs mm sl ob :=
  .inr ⟨ids, as, obs, r, hc, hv, hin, ⟨looks_len hob, looks_get hob, nodupB_iff.1 hn⟩, hlo, h⟩
/-- a call that is handed objects for good -/
theorem z_h {f : Nat} {cs : List (Bool × List C)} {gb : Bool} {g : Bool → Rs → M} {vs : List V} {mm : List Nat → Option (List Mo) → Rs → M} (ids : List Nat) {as : List (Bool × List Ma)} {obs : List Mo} {r : Rs} (hc : FnHC P f as obs r) (hv : vs = as.map (maV fun k => ids.getD k 0)) (hin : maIn ids.length as = true)
    (hob : looks ob ids obs) (hn : nodupB ids = true) (hlo : lowN ids = true) (h : Mok P wv ty kp (mm ids none r) sl ob) : SK P wv ty kp f cs gb g vs mm sl ob := ⟨.inr (.inl (hovC ids hc hv hin hob hn hlo h))⟩
theorem z_hh {f : Nat} {vs : List V} {mm : List Nat → Option (List Mo) → Rs → M} (ids : List Nat) {as : List (Bool × List Ma)} {obs : List Mo} {r : Rs} (hc : FnHC P f as obs r) (hv : vs = as.map (maV fun k => ids.getD k 0)) (hin : maIn ids.length as = true)
    (hob : looks ob ids obs) (hn : nodupB ids = true) (hlo : lowN ids = true) (h : Mok P wv ty kp (mm ids none r) sl ob) : SM P wv ty kp f vs mm sl ob := ⟨hovC ids hc hv hin hob hn hlo h⟩
/-- a call that changes what it is handed -/
theorem z_m {f : Nat} {cs : List (Bool × List C)} {gb : Bool} {g : Bool → Rs → M} {vs : List V} {mm : List Nat → Option (List Mo) → Rs → M} (ids : List Nat) {as : List (Bool × List Ma)} {obs os : List Mo} {r : Rs} (hc : FnMC P f as obs os r) (hv : vs = as.map (maV fun k => ids.getD k 0)) (hin : maIn ids.length as = true)
    (hob : looks ob ids obs) (hn : nodupB ids = true) (h : Mok P wv ty kp (mm ids (some os) r) sl ob) : SK P wv ty kp f cs gb g vs mm sl ob := ⟨.inr (.inl (mutC ids hc hv hin hob hn h))⟩
theorem z_mm {f : Nat} {vs : List V} {mm : List Nat → Option (List Mo) → Rs → M} (ids : List Nat) {as : List (Bool × List Ma)} {obs os : List Mo} {r : Rs} (hc : FnMC P f as obs os r) (hv : vs = as.map (maV fun k => ids.getD k 0)) (hin : maIn ids.length as = true)
    (hob : looks ob ids obs) (hn : nodupB ids = true) (h : Mok P wv ty kp (mm ids (some os) r) sl ob) : SM P wv ty kp f vs mm sl ob := ⟨mutC ids hc hv hin hob hn h⟩
theorem z_l {c : Code} {α : Type} (x0 : α) (m : α → Nat) (f : α → St) (h0 : St.le0 ⟨sl, ob⟩ (f x0)) (h : ∀ y, Mok P wv ty kp (.code c (.lp (fun σ => ∃ z, m z < m y ∧ σ.le (f z)) k)) (f y).sl (f y).ob) : SL P wv ty kp c k sl ob := ⟨g_loop x0 m f ⟨[], rfl, h0⟩ h⟩
theorem z_n {α : Type} {p : α → Prop} {f : α → St} (z : α) (h : p z) (hs : St.le0 ⟨sl, ob⟩ (f z)) : SN (fun σ => ∃ z, p z ∧ σ.le (f z)) sl ob := ⟨z, h, [], rfl, hs⟩
theorem z_nr {α : Type} {p : α → Prop} {f : α → St} (ps : List (Nat × Nat)) (hp : swOk ps = true) (z : α) (h : p z) (hs : St.le0 (St.swaps ps ⟨sl, ob⟩) (f z)) : SN (fun σ => ∃ z, p z ∧ σ.le (f z)) sl ob := ⟨z, h, ps, hp, hs⟩
theorem z_e {ts : List RV} {r : Rs} {Vs : List V} (hv : rvs ⟨sl, ob⟩ ts = some Vs) (h : fin ob Vs r) : SF P wv ty kp ts r [] .ret sl ob := ⟨k_done_r hv h⟩
theorem z_e' {ts : List RV} {r : Rs} {Vs : List V} (hv : rvs ⟨sl, ob⟩ ts = some Vs) (h : fin ob Vs r) : SF P wv ty kp ts r [] .normal sl ob := ⟨k_done_n hv h⟩
theorem z_em {ts : List RV} {r : Rs} {Vs : List V} {o : Mo} {os : List Mo} (hv : rvs ⟨sl, ob⟩ ts = some Vs) (hl : lowB (ids (resM Vs r)) = true) (h : fin ob Vs r) (ho : finO ob 500000 (o :: os)) : SF P wv ty kp ts r (o :: os) .ret sl ob := ⟨k_done_rm hv h ho hl⟩
theorem z_em' {ts : List RV} {r : Rs} {Vs : List V} {o : Mo} {os : List Mo} (hv : rvs ⟨sl, ob⟩ ts = some Vs) (hl : lowB (ids (resM Vs r)) = true) (h : fin ob Vs r) (ho : finO ob 500000 (o :: os)) : SF P wv ty kp ts r (o :: os) .normal sl ob := ⟨k_done_nm hv h ho hl⟩
end
/-- a whole function -/
theorem fn_z {P : Program} {ty : List (Nat × Td)} (kp : List Nat) {f : Nat} {fn : Func} {c : Code} {ts : List RV} {cs : List (Bool × List C)} {r : Rs} (hm : P.follows .mixedOrders = true) (hty : TyOk P ty)
    (hf : P.funcs[f]? = some fn) (hcal : callable P f = true) (hb : fn.body = some c) (hok : okB ty fn.ntmps c = true) (hrv : ts.all (RV.okB ty) = true) (hres : fn.results = (ts.map RV.res).toArray) (hl : ts.length = 1 ∨ ts.length = 2 ∨ ts.length = 3) (hn : cs.length ≤ fn.ntmps)
    {sl : List (Nat × V)} (hsl : entry 0 cs = sl) (h : Mok P false ty kp (.code c (.done ts r [])) sl []) : FnC P f cs r := ⟨hcal, fn_go kp hm hty hf hb hok hrv hres hl hn hsl h⟩
def likes : List Mo → List Mo → Prop
  | [], [] => True
  | o :: r, o' :: r' => o.like o' ∧ likes r r'
  | _, _ => False
theorem likes_get : ∀ {l m : List Mo}, likes l m → m.length = l.length ∧ ∀ (k : Nat) (o o' : Mo), l[k]? = some o → m[k]? = some o' → o.like o'
  | [], [], _ => ⟨rfl, fun k o o' h => by simp at h⟩
  | o :: r, o' :: r', h => by
    obtain ⟨h1, h2⟩ := likes_get h.2
    refine ⟨by simp [h1], fun k a b ha hb => ?_⟩
    cases k with
    | zero => simp at ha hb; subst ha; subst hb; exact h.1
    | succ k => simp at ha hb; exact h2 k a b ha hb
  | [], _ :: _, h => h.elim
  | _ :: _, [], h => h.elim
theorem lowO {l : List (Nat × Ob)} (h : lowB (l.map (·.1)) = true) : ∀ j, (look l j).isSome → j < 500000 := by
  induction l with
  | nil => intro j h; simp [look] at h
  | cons p r ih =>
    obtain ⟨k, o⟩ := p
    simp only [lowB, List.map_cons, List.all_cons, Bool.and_eq_true] at h
    intro j hj
    simp only [look_cons] at hj
    split at hj
    · rename_i hk; subst hk; exact Nat.le_of_ble_eq_true h.1
    · exact ih h.2 j hj
/-- a whole function that changes what it is handed -/
theorem fn_zm {P : Program} {ty : List (Nat × Td)} (kp : List Nat) {f : Nat} {fn : Func} {c : Code} {ts : List RV} {as : List (Bool × List Ma)} {obs : List Mo} {o : Mo} {os : List Mo} {r : Rs} (hm : P.follows .mixedOrders = true) (hty : TyOk P ty)
    (hf : P.funcs[f]? = some fn) (hcal : callable P f = true) (hb : fn.body = some c) (hok : okB ty fn.ntmps c = true) (hrv : ts.all (RV.okB ty) = true) (hres : fn.results = (ts.map RV.res).toArray) (hl : ts.length = 1 ∨ ts.length = 2 ∨ ts.length = 3) (hn : as.length ≤ fn.ntmps)
    (hlike : likes obs (o :: os)) (hlow : lowB ((r.O 0).map (·.1)) = true)
    {sl : List (Nat × V)} (hsl : entryM 0 as = sl) {ob : List (Nat × Ob)} (hob : numb 500000 obs = ob) (h : Mok P false ty kp (.code c (.done ts r (o :: os))) sl ob) : FnMC P f as obs (o :: os) r := by
  subst hsl; subst hob
  obtain ⟨h1, h2⟩ := likes_get hlike
  refine ⟨hcal, fnm_sound kp hm hty (allC_ok P) hf hb hok hrv hres hl hn h1 (by simp) (lowO hlow) ?_, h1, h2, lowO hlow⟩
  have e : goK P false ty kp (.done ts r (o :: os)) = finK ts r (o :: os) := by funext e σ; simp only [goK]
  have h : At P false ty kp c (.done ts r (o :: os)) ⟨entryM 0 as, numb 500000 obs⟩ := h
  unfold At at h
  rw [e] at h
  exact h
/-- a whole function that is handed objects for good -/
theorem fn_zh {P : Program} {ty : List (Nat × Td)} (kp : List Nat) {f : Nat} {fn : Func} {c : Code} {ts : List RV} {as : List (Bool × List Ma)} {obs : List Mo} {r : Rs} (hm : P.follows .mixedOrders = true) (hty : TyOk P ty)
    (hf : P.funcs[f]? = some fn) (hcal : callable P f = true) (hb : fn.body = some c) (hok : okB ty fn.ntmps c = true) (hrv : ts.all (RV.okB ty) = true) (hres : fn.results = (ts.map RV.res).toArray) (hl : ts.length = 1 ∨ ts.length = 2 ∨ ts.length = 3) (hn : as.length ≤ fn.ntmps)
    {sl : List (Nat × V)} (hsl : entryH 0 as = sl) {ob : List (Nat × Ob)} (hob : numb 400000 obs = ob) (h : Mok P false ty kp (.code c (.done ts r [])) sl ob) : FnHC P f as obs r := by
  subst hsl; subst hob
  refine ⟨hcal, fnh_sound kp hm hty (allC_ok P) hf hb hok hrv hres hl hn ?_⟩
  have e : goK P false ty kp (.done ts r []) = finK ts r [] := by funext e σ; simp only [goK]
  have h : At P false ty kp c (.done ts r []) ⟨entryH 0 as, numb 400000 obs⟩ := h
  unfold At at h
  rw [e] at h
  exact h
/-- a whole function whose result lies in new memory alone: what it is handed is old memory -/
theorem fn_zd {P : Program} {wv : Bool} {ty : List (Nat × Td)} (kp : List Nat) {f : Nat} {fn : Func} {c : Code} {ts : List RV} {cs : List (Bool × List C)} {r : Rs} (hm : P.follows .mixedOrders = true) (hty : TyOk P ty)
    (hf : P.funcs[f]? = some fn) (hcal : callable P f = true) (hb : fn.body = some c) (hok : okB ty fn.ntmps c = true) (hrv : ts.all (RV.okB ty) = true) (hres : fn.results = (ts.map RV.res).toArray) (hl : ts.length = 1 ∨ ts.length = 2 ∨ ts.length = 3) (hn : cs.length ≤ fn.ntmps)
    {sl : List (Nat × V)} (hsl : entryX 0 cs = sl) (h : Mok P wv ty kp (.code c (.done ts r [])) sl []) : FnDC P f cs r := by
  subst hsl
  refine ⟨hcal, fnd_sound (Γ := ⟨P, wv⟩) kp hm hty rfl hf hb hok hrv hres hl hn ?_⟩
  have e : goK P wv ty kp (.done ts r []) = finK ts r [] := by funext e σ; simp only [goK]
  have h : At P wv ty kp c (.done ts r []) ⟨entryX 0 cs, []⟩ := h
  unfold At at h
  rw [e] at h
  exact h
/-- a whole function that may change whole numbers in what it is handed to read -/
theorem fn_zu {P : Program} {ty : List (Nat × Td)} (kp : List Nat) {f : Nat} {fn : Func} {c : Code} {ts : List RV} {cs : List (Bool × List C)} {κ : IntKind} {n : Int} (hm : P.follows .mixedOrders = true) (hty : TyOk P ty)
    (hf : P.funcs[f]? = some fn) (hcal : callable P f = true) (hb : fn.body = some c) (hok : okB ty fn.ntmps c = true) (hrv : ts.all (RV.okB ty) = true) (hres : fn.results = (ts.map RV.res).toArray) (hl : ts.length = 1 ∨ ts.length = 2 ∨ ts.length = 3) (hn : cs.length ≤ fn.ntmps)
    {sl : List (Nat × V)} (hsl : entry 0 cs = sl) (h : Mok P true ty kp (.code c (.done ts (.one (.int κ n)) [])) sl []) : FnUC P f cs κ n := by
  subst hsl
  refine ⟨hcal, fnu_sound kp hm hty hf hb hok hrv hres hl hn ?_⟩
  have e : goK P true ty kp (.done ts (.one (.int κ n)) []) = finK ts (.one (.int κ n)) [] := by funext e σ; simp only [goK]
  have h : At P true ty kp c (.done ts (.one (.int κ n)) []) ⟨entry 0 cs, []⟩ := h
  unfold At at h
  rw [e] at h
  exact h
end Go.Vq
