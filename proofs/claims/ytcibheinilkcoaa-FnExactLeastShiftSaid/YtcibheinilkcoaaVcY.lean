/- Part Y of the small logic: a run up to the next choice. No conditions. -/
import Derived.Test.YtcibheinilkcoaaVcX
namespace Go.Vq
open Go.RowKit

/-- a contract of a function that can be called -/
structure FnC (P : Program) (f : Nat) (cs : List (Bool × List C)) (r : Rs) : Prop where
  cal : callable P f = true
  fn : Fn P f cs r
/-- a contract of a function that can be called, and that changes what it is handed -/
structure FnMC (P : Program) (f : Nat) (as : List (Bool × List Ma)) (obs obs' : List Mo) (r : Rs) : Prop where
  cal : callable P f = true
  fn : FnM P f as obs obs' r
  len : obs'.length = obs.length
  like : ∀ (k : Nat) (o o' : Mo), obs[k]? = some o → obs'[k]? = some o' → o.like o'
  low : ∀ j, (look (r.O 0) j).isSome → j < 500000
/-- a contract of a function that can be called, and that is handed objects for good -/
structure FnHC (P : Program) (f : Nat) (as : List (Bool × List Ma)) (obs : List Mo) (r : Rs) : Prop where
  cal : callable P f = true
  fn : FnH P f as obs r
/-- a contract of a function that can be called, and whose result lies in new memory alone -/
structure FnDC (P : Program) (f : Nat) (cs : List (Bool × List C)) (r : Rs) : Prop where
  cal : callable P f = true
  fn : FnD P f cs r
theorem FnDC.fnC {P : Program} {f : Nat} {cs : List (Bool × List C)} {r : Rs} (h : FnDC P f cs r) : FnC P f cs r := ⟨h.cal, h.fn.fn⟩
/-- a contract of a function that can be called, and that may change whole numbers in what it is handed to read -/
structure FnUC (P : Program) (f : Nat) (cs : List (Bool × List C)) (k : IntKind) (m : Int) : Prop where
  cal : callable P f = true
  fn : FnU P f cs k m
/-- where the walk stands -/
inductive M where
  | code (c : Code) (k : Kont)
  | ops (draw : Bool) (all rest : List Oper) (k : Kont)
  | op (draw : Bool) (all rest : List Oper) (k : Kont) (o : Oper)
  | fin (e : AEx) (k : Kont)
  | val (draw : Bool) (all rest : List Oper) (k : Kont) (d : Nat) (v : V)
  | opt (draw : Bool) (all rest : List Oper) (k : Kont) (d : Nat) (v : Option V)
  | ret (draw pl : Bool) (all rest : List Oper) (k : Kont) (d : Nat) (g : Bool) (r : Rs)
  | chg (draw : Bool) (caps : List (Bool × List C)) (all rest : List Oper) (k : Kont) (d : Nat) (ids : List Nat) (os : Option (List Mo)) (r : Rs)
section
variable (P : Program) (wv : Bool) (ty : List (Nat × Td)) (kp : List Nat)
/-- what stands to be shown there -/
def Mok (m : M) (sl : List (Nat × V)) (ob : List (Nat × Ob)) : Prop := match m with
  | .code c k => At P wv ty kp c k ⟨sl, ob⟩
  | .ops draw all rest k => AtO P wv ty kp draw all rest k ⟨sl, ob⟩
  | .op draw all rest k o => Do P wv ty kp draw all rest k o ⟨sl, ob⟩
  | .fin e k => goK P wv ty kp k e ⟨sl, ob⟩
  | .val draw all rest k d v => AtO P wv ty kp draw all rest k ⟨(d, v) :: sl, ob⟩
  | .opt draw all rest k d v => RowK P wv ty kp draw all rest k d sl ob v
  | .ret draw pl all rest k d g r => (g = true ∨ r.flat = true) ∧ (pl = true → r.plain = true) ∧ allNone ob (r.O d) ∧ AtO P wv ty kp draw all rest k ⟨(d, r.V d) :: sl, r.O d ++ ob⟩
  | .chg draw caps all rest k d ids os r => draw = false ∧ caps = [] ∧ allNone ob (r.O d) ∧ (match os with
    | some os => AtO P wv ty kp false all rest k ⟨(d, r.V d) :: mapV (V.killL ids) sl, zipO ids os ++ (r.O d ++ mapV (Ob.killL ids) ob)⟩
    | none => AtO P wv ty kp false all rest k ⟨(d, r.V d) :: mapV (V.killA ids) sl, r.O d ++ mapV (Ob.killA ids) (dropO ids ob)⟩)

/-! ### the choices -/
/-- no step is known -/
structure SX (m : M) (sl : List (Nat × V)) (ob : List (Nat × Ob)) : Prop where h : Mok P wv ty kp m sl ob
/-- a loop -/
structure SL (c : Code) (k : Kont) (sl : List (Nat × V)) (ob : List (Nat × Ob)) : Prop where h : At P wv ty kp (.loop c) k ⟨sl, ob⟩
def allP {α : Type} : List α → (α → Prop) → Prop
  | [], _ => True
  | x :: r, p => p x ∧ allP r p
theorem allP_get {α : Type} : ∀ {l : List α} {p : α → Prop}, allP l p → ∀ x ∈ l, p x
  | x :: r, p, h, y, hy => by
    rcases List.mem_cons.1 hy with rfl | hy
    · exact h.1
    · exact allP_get h.2 y hy
/-- a region that draws its order, and makes or changes memory -/
structure SD (ops : Array Oper) (k : Kont) (sl : List (Nat × V)) (ob : List (Nat × Ob)) : Prop where
  h : (∃ τ ps, ordsOk ops ps = true ∧ (∀ p ∈ ps, Mok P wv ty kp (.ops false ops.toList (pick ops p) (.lp (fun σ => σ.le τ) k)) sl ob) ∧ Mok P wv ty kp (.fin .normal k) τ.sl τ.ob) ∨ (∃ p, ordOk ops p = true ∧ Mok P wv ty kp (.ops true ops.toList (pick ops p) k) sl ob)
    ∨ (∃ ps, ordsX ops ps = true ∧ ∀ p ∈ ps, Mok P wv ty kp (.ops true ops.toList (pick ops p) k) sl ob) ∨ (∃ τ ps, ordsX ops ps = true ∧ (∀ p ∈ ps, Mok P wv ty kp (.ops true ops.toList (pick ops p) (.lp (fun σ => σ.le τ) k)) sl ob) ∧ Mok P wv ty kp (.fin .normal k) τ.sl τ.ob)
/-- the end -/
structure SF (ts : List RV) (r : Rs) (os : List Mo) (e : AEx) (sl : List (Nat × V)) (ob : List (Nat × Ob)) : Prop where h : goK P wv ty kp (.done ts r os) e ⟨sl, ob⟩
/-- the end of a loop's body -/
structure SN (le : St → Prop) (sl : List (Nat × V)) (ob : List (Nat × Ob)) : Prop where h : le ⟨sl, ob⟩
/-- a bool is looked at -/
structure SB (b : Bool) (m1 m2 : M) (sl1 sl2 : List (Nat × V)) (ob : List (Nat × Ob)) : Prop where
  h1 : b = true → Mok P wv ty kp m1 sl1 ob
  h2 : b = false → Mok P wv ty kp m2 sl2 ob
/-- something is asked -/
structure SR (p : Prop) (m : M) (sl : List (Nat × V)) (ob : List (Nat × Ob)) : Prop where
  hp : p
  h : Mok P wv ty kp m sl ob
/-- a row is read -/
structure SW (p : Prop) (ks : List Kd) (rows : List (List C)) (i : Nat) (m : List C → M) (sl : List (Nat × V)) (ob : List (Nat × Ob)) : Prop where
  hp : p
  h : allShape ks fun row => rows[i]? = some row → Mok P wv ty kp (m row) sl ob
/-- a call that changes what it is handed -/
def MutC (f : Nat) (vs : List V) (m : List Nat → Option (List Mo) → Rs → M) (sl : List (Nat × V)) (ob : List (Nat × Ob)) : Prop :=
  (∃ ids as obs os r, FnMC P f as obs os r ∧ vs = as.map (maV fun k => ids.getD k 0) ∧ maIn ids.length as = true ∧ Hands ⟨sl, ob⟩ ids obs ∧ Mok P wv ty kp (m ids (some os) r) sl ob) ∨
  ∃ ids as obs r, FnHC P f as obs r ∧ vs = as.map (maV fun k => ids.getD k 0) ∧ maIn ids.length as = true ∧ Hands ⟨sl, ob⟩ ids obs ∧ lowN ids = true ∧ Mok P wv ty kp (m ids none r) sl ob
/-- a call -/
structure SK (f : Nat) (cs : List (Bool × List C)) (g : Bool) (m : Bool → Rs → M) (vs : List V) (mm : List Nat → Option (List Mo) → Rs → M) (sl : List (Nat × V)) (ob : List (Nat × Ob)) : Prop where
  h : (∃ r, FnC P f cs r ∧ Mok P wv ty kp (m g r) sl ob) ∨ MutC P wv ty kp f vs mm sl ob ∨ (∃ r, FnDC P f cs r ∧ Mok P wv ty kp (m true r) sl ob) ∨
    (wv = true ∧ g = true ∧ flatOb ob = true ∧ ∃ κ n, FnUC P f cs κ n ∧ hvL sl fun sl => Mok P wv ty kp (mm [] (some []) (.one (.int κ n))) sl ob)
/-- a call that can only be one that changes what it is handed -/
structure SM (f : Nat) (vs : List V) (mm : List Nat → Option (List Mo) → Rs → M) (sl : List (Nat × V)) (ob : List (Nat × Ob)) : Prop where
  h : MutC P wv ty kp f vs mm sl ob

def run : Nat → M → List (Nat × V) → List (Nat × Ob) → Prop
  | 0, m, sl, ob => SX P wv ty kp m sl ob
  | n + 1, m, sl, ob => match m with
    | .code c k => match c with
      | .seq a b => run n (.code a (.seq b k)) sl ob
      | .block id c => run n (.code c (.blk id k)) sl ob
      | .region _ l draw => match draw && effB ty l.toList with
        | true => SD P wv ty kp l k sl ob
        | false => run n (.ops draw l.toList l.toList k) sl ob
      | .skip => run n (.fin .normal k) sl ob
      | .exit i => run n (.fin (.exit i) k) sl ob
      | .ret => run n (.fin .ret k) sl ob
      | .loop c => SL P wv ty kp c k sl ob
      | .cond c y z => match ev ⟨sl, ob⟩ c with
        | .one (.bool b) => SB P wv ty kp b (.code y k) (.code z k) sl sl ob
        | _ => SX P wv ty kp (.code (.cond c y z) k) sl ob
      | c => SX P wv ty kp (.code c k) sl ob
    | .fin e k => match k with
      | .seq d k => match e with
        | .normal => run n (.code d k) sl ob
        | e => run n (.fin e k) sl ob
      | .blk id k => match e with
        | .exit i => match Nat.beq i id with
          | true => run n (.fin .normal k) sl ob
          | false => run n (.fin (.exit i) k) sl ob
        | e => run n (.fin e k) sl ob
      | .lp le k => match e with
        | .normal => SN le sl ob
        | e => run n (.fin e k) sl ob
      | .done ts r os => SF P wv ty kp ts r os e sl ob
    | .ops draw all rest k => match rest with
      | [] => kSl sl kp fun sl => kOb ob [] fun ob => run n (.fin .normal k) sl ob
      | o :: rest => match o.guard with
        | none => run n (.op draw all rest k o) sl ob
        | some (j, want) => match (all[j]?).bind (·.dst), o.dst with
          | some d, some e => match look sl d with
            | some (.one (.bool b)) => match want with
              | true => SB P wv ty kp b (.op draw all rest k o) (.ops draw all rest k) ((d, .one (.bool true)) :: sl) ((e, .one .und) :: (d, .one (.bool false)) :: sl) ob
              | false => SB P wv ty kp b (.ops draw all rest k) (.op draw all rest k o) ((e, .one .und) :: (d, .one (.bool true)) :: sl) ((d, .one (.bool false)) :: sl) ob
            | some (.one .und) => run n (.ops draw all rest k) ((e, .one .und) :: sl) ob
            | _ => SX P wv ty kp (.ops draw all (o :: rest) k) sl ob
          | _, _ => SX P wv ty kp (.ops draw all (o :: rest) k) sl ob
    | .op draw all rest k o => match stillR ty o.op ⟨sl, ob⟩, o.dst with
      | .val v, some d => fV v fun v => run n (.ops draw all rest k) ((d, v) :: sl) ob
      | .req p v, some d => SR P wv ty kp p (.val draw all rest k d v) sl ob
      | .sel b v1 v2, some d => SB P wv ty kp b (.val draw all rest k d v1) (.val draw all rest k d v2) sl sl ob
      | .row p ks rows i g, some d => SW P wv ty kp p ks rows i (fun row => .opt draw all rest k d (g row)) sl ob
      | _, _ => match effR ty o sl ob with
        | .ok sl ob => run n (.ops draw all rest k) sl ob
        | .req p sl ob => SR P wv ty kp p (.ops draw all rest k) sl ob
        | _ => match o.op, o.dst with
          | .call c, some d => match c.callee with
            | .value f => match ev ⟨sl, ob⟩ f with
              | .one (.fn fn caps) => match argsA ob (c.args.toList.map (ev ⟨sl, ob⟩)) with
                | some (ps, g) => fAs (ps ++ caps) fun cs => fB g fun g => fB (draw && plainT ty o.type) fun pl => fVs (c.args.toList.map (ev ⟨sl, ob⟩)) fun vs => SK P wv ty kp fn cs g (fun g r => .ret draw pl all rest k d g r) vs (fun ids os r => .chg draw caps all rest k d ids os r) sl ob
                | none => fVs (c.args.toList.map (ev ⟨sl, ob⟩)) fun vs => SM P wv ty kp fn vs (fun ids os r => .chg draw caps all rest k d ids os r) sl ob
              | _ => SX P wv ty kp (.op draw all rest k o) sl ob
            | _ => SX P wv ty kp (.op draw all rest k o) sl ob
          | _, _ => SX P wv ty kp (.op draw all rest k o) sl ob
    | .val draw all rest k d v => fV v fun v => run n (.ops draw all rest k) ((d, v) :: sl) ob
    | .opt draw all rest k d v => match v with
      | some v => fV v fun v => run n (.ops draw all rest k) ((d, v) :: sl) ob
      | none => SX P wv ty kp (.opt draw all rest k d none) sl ob
    | .ret draw pl all rest k d g r => match (g || r.flat) && (!pl || r.plain) && (r.O d).all (fun p => freeB ob p.1) with
      | true => fV (r.V d) fun v => fOb (r.O d ++ ob) fun ob => run n (.ops draw all rest k) ((d, v) :: sl) ob
      | false => SX P wv ty kp (.ret draw pl all rest k d g r) sl ob
    | .chg draw caps all rest k d ids os r => match draw with
      | true => SX P wv ty kp (.chg true caps all rest k d ids os r) sl ob
      | false => match caps with
        | [] => match (r.O d).all (fun p => freeB ob p.1) with
          | true => match os with
            | some os => fV (r.V d) fun v => fSl (mapV (V.killL ids) sl) fun sl => fOb (zipO ids os ++ (r.O d ++ mapV (Ob.killL ids) ob)) fun ob => run n (.ops false all rest k) ((d, v) :: sl) ob
            | none => fV (r.V d) fun v => fSl (mapV (V.killA ids) sl) fun sl => fOb (r.O d ++ mapV (Ob.killA ids) (dropO ids ob)) fun ob => run n (.ops false all rest k) ((d, v) :: sl) ob
          | false => SX P wv ty kp (.chg false [] all rest k d ids os r) sl ob
        | caps => SX P wv ty kp (.chg false caps all rest k d ids os r) sl ob
end
theorem allNone_of {ob : List (Nat × Ob)} : ∀ {l : List (Nat × Ob)}, l.all (fun p => freeB ob p.1) = true → allNone ob l
  | [], _ => trivial
  | (j, o) :: r, h => by
    simp only [List.all_cons, Bool.and_eq_true] at h
    exact ⟨free_of h.1, allNone_of h.2⟩
section
variable {P : Program} {wv : Bool} {ty : List (Nat × Td)} {kp : List Nat}
theorem do_eff {all rest : List Oper} {k : Kont} {o : Oper} {sl : List (Nat × V)} {ob : List (Nat × Ob)} {draw : Bool} (h : (effR ty o sl ob).holds fun σ => AtO P wv ty kp draw all rest k σ) : Do P wv ty kp draw all rest k o ⟨sl, ob⟩ := by
  have he := effR_ok h
  unfold Do stepK
  split
  · rename_i c hc
    split
    · rename_i f hf
      have : effR ty o sl ob = .bad := by
        unfold effR
        rw [hc]
        cases o.dst with
        | none => rfl
        | some d => simp only [hf]
      rw [this] at h; exact h.elim
    · exact he
    · rename_i h1 h2
      have : effR ty o sl ob = .bad := by
        unfold effR
        rw [hc]
        cases o.dst with
        | none => rfl
        | some d =>
          simp only []
          split
          · rename_i e1 _ _; exact (h2 e1).elim
          · rfl
      rw [this] at h; exact h.elim
  · exact .inl he
  · exact he
  · exact he
  · exact he
  · exact he
  · rename_i hc
    have : effR ty o sl ob = .bad := by
      unfold effR
      rw [hc]
    rw [this] at h; exact h.elim
  · rename_i h1 h2 h3 h4 h5 h6 _
    have : effR ty o sl ob = .bad := by
      unfold effR
      split <;> first | rfl | (rename_i e _; first | exact absurd e (h1 _) | exact absurd e (h2 _ _ _) | exact absurd e (h3 _) | exact absurd e (h4 _ _) | exact absurd e (h5 _ _ _) | exact absurd e (h6 _ _ _))
    rw [this] at h; exact h.elim
theorem run_ok : ∀ (n : Nat) {m : M} {sl : List (Nat × V)} {ob : List (Nat × Ob)}, run P wv ty kp n m sl ob → Mok P wv ty kp m sl ob
  | 0, m, sl, ob, h => h.h
  | n + 1, m, sl, ob, h => by
    cases m with
    | code c k =>
      cases c with
      | seq a b => exact g_seq (run_ok n (m := .code a (.seq b k)) h)
      | block id c => exact g_block (run_ok n (m := .code c (.blk id k)) h)
      | region id l draw =>
        simp only [run] at h
        split at h
        · rename_i hb
          rcases h.h with ⟨τ, ps, hps, h1, h2⟩ | ⟨p, hp, h1⟩ | ⟨ps, hps, h1⟩ | ⟨τ, ps, hps, h1, h2⟩
          · exact g_draw hb τ hps h1 h2
          · exact g_line hb p hp h1
          · exact g_lineX hb hps h1
          · exact g_drawX hb τ hps h1 h2
        · rename_i hb
          have := g_region (id := id) (l := l.toList) (draw := draw) hb (run_ok n (m := .ops draw l.toList l.toList k) h)
          rw [Array.toArray_toList] at this
          exact this
      | skip => exact g_skip (run_ok n (m := .fin .normal k) h)
      | exit i => exact g_exit (run_ok n (m := .fin (.exit i) k) h)
      | ret => exact g_ret (run_ok n (m := .fin .ret k) h)
      | loop c => exact SL.h h
      | cond c y z =>
        simp only [run] at h
        split at h
        · rename_i hc; exact g_cond hc h.h1 h.h2
        · exact h.h
      | _ => exact SX.h h
    | fin e k =>
      cases k with
      | seq d k =>
        cases e with
        | normal => exact k_seq_n (run_ok n (m := .code d k) h)
        | exit i => exact k_seq_x (d := d) (run_ok n (m := .fin (.exit i) k) h)
        | ret => exact k_seq_r (d := d) (run_ok n (m := .fin .ret k) h)
      | blk id k =>
        cases e with
        | normal => exact k_blk_n (id := id) (run_ok n (m := .fin .normal k) h)
        | exit i =>
          simp only [run] at h
          split at h
          · rename_i hi
            have := Nat.eq_of_beq_eq_true hi
            subst this
            exact k_blk_hit (run_ok n (m := .fin .normal k) h)
          · rename_i hi; exact k_blk_miss hi (run_ok n (m := .fin (.exit i) k) h)
        | ret => exact k_blk_r (id := id) (run_ok n (m := .fin .ret k) h)
      | lp le k =>
        cases e with
        | normal => exact k_lp_n (P := P) (wv := wv) (ty := ty) (kp := kp) (k := k) (SN.h h)
        | exit i => exact k_lp_x (le := le) (run_ok n (m := .fin (.exit i) k) h)
        | ret => exact k_lp_r (le := le) (run_ok n (m := .fin .ret k) h)
      | done ts r os => exact SF.h h
    | ops draw all rest k =>
      cases rest with
      | nil =>
        simp only [run, kSl_eq, kOb_eq] at h
        exact o_nil rfl rfl (run_ok n (m := .fin .normal k) h)
      | cons o rest =>
        simp only [run] at h
        split at h
        · rename_i hg; exact o_run hg (run_ok n (m := .op draw all rest k o) h)
        · rename_i j want hg
          split at h
          · rename_i d e hj he
            split at h
            · rename_i b hl
              split at h
              · exact o_gT hg hj he hl ⟨h.h1, h.h2⟩
              · exact o_gF hg hj he hl ⟨h.h2, h.h1⟩
            · rename_i hl
              exact o_g_und hg hj hl he (run_ok n (m := .ops draw all rest k) h)
            · exact h.h
          · exact h.h
    | op draw all rest k o =>
      have hmut : ∀ {c : Call} {d : Nat} {f : Operand} {fn : Nat} {caps : List (Bool × List C)} {vs : List V}, o.op = .call c → o.dst = some d → c.callee = .value f → ev ⟨sl, ob⟩ f = .one (.fn fn caps) → vs = c.args.toList.map (ev ⟨sl, ob⟩) →
          MutC P wv ty kp fn vs (fun ids os r => .chg draw caps all rest k d ids os r) sl ob → Do P wv ty kp draw all rest k o ⟨sl, ob⟩ := by
        rintro c d f fn caps vs ho hd hc hf hvs (⟨ids, as, obs, os, r, hfm, hargs, hin, hh, hm⟩ | ⟨ids, as, obs, r, hfm, hargs, hin, hh, hlo, hm⟩)
        · obtain ⟨hdr, hcaps, hno, hat⟩ := hm
          subst hvs
          unfold Do
          simp only [stepK, ho, hc, callK, hf]
          refine .inr (.inl ⟨hdr, hcaps, d, ids, as, obs, os, r, hd, hfm.cal, hfm.fn, hargs, hin, hh, by rw [hfm.len, hh.len], hfm.like, hfm.low, hno, ?_⟩)
          subst hdr
          exact hat
        · obtain ⟨hdr, hcaps, hno, hat⟩ := hm
          subst hvs
          unfold Do
          simp only [stepK, ho, hc, callK, hf]
          refine .inr (.inr (.inl ⟨hdr, hcaps, d, ids, as, obs, r, hd, hfm.cal, hfm.fn, hargs, hin, hh, hlo, hno, ?_⟩))
          subst hdr
          exact hat
      simp only [run] at h
      split at h
      · rename_i v d hz hd
        simp only [fV_eq] at h
        exact do_still (by rw [hz, hd]; exact run_ok n (m := .ops draw all rest k) h)
      · rename_i p v d hz hd
        exact do_still (by rw [hz, hd]; exact ⟨h.hp, h.h⟩)
      · rename_i b v1 v2 d hz hd
        refine do_still ?_
        rw [hz, hd]
        simp only [Rz.holds]
        split
        · exact h.h1 ‹_›
        · exact h.h2 (by simp_all)
      · rename_i p ks rows i g d hz hd
        exact do_still (by rw [hz, hd]; exact ⟨h.hp, h.h⟩)
      · split at h
        · rename_i sl' ob' he
          exact do_eff (by rw [he]; exact run_ok n (m := .ops draw all rest k) h)
        · rename_i p sl' ob' he
          exact do_eff (by rw [he]; exact ⟨h.hp, h.h⟩)
        · split at h
          · rename_i c d ho hd
            split at h
            · rename_i f hc
              split at h
              · rename_i fn caps hf
                split at h
                · rename_i ps g ha
                  simp only [fAs_eq, fB_eq, fVs_eq] at h
                  rcases h.h with ⟨r, ⟨hcal, hfn⟩, h1, h2, h3, h4⟩ | hm | ⟨r, ⟨hcal, hfn⟩, h1, h2, h3, h4⟩ | ⟨hwv, hg, hfl, κ, m, hfu, hK⟩
                  · unfold Mok Do
                    simp only [stepK, ho, hc, callK, hf, hd]
                    refine .inl ?_
                    simp only [pureK, ha]
                    exact ⟨r, ⟨h1.imp id .inl, h2, h3, h4⟩, hcal, hfn⟩
                  · exact hmut ho hd hc hf rfl hm
                  · unfold Mok Do
                    simp only [stepK, ho, hc, callK, hf, hd]
                    refine .inl ?_
                    simp only [pureK, ha]
                    exact ⟨r, ⟨.inr (.inr hfn), h2, h3, h4⟩, hcal, hfn.fn⟩
                  · obtain ⟨_, hdr, hcaps, _⟩ := hvL_any _ _ hK
                    subst hdr; subst hcaps; subst hwv; subst hg
                    rw [List.append_nil] at hfu
                    unfold Mok Do
                    simp only [stepK, ho, hc, callK, hf, hd]
                    refine .inr (.inr (.inr ⟨rfl, rfl, rfl, hfu.cal, hfl, d, ps, κ, m, rfl, ha, hfu.fn, hvL_mono (fun sl' hm => ?_) _ hK⟩))
                    have hat := hm.2.2.2
                    simp only [killL_nil, killLO_nil] at hat
                    exact hat
                · simp only [fVs_eq] at h
                  exact hmut ho hd hc hf rfl h.h
              · exact h.h
            · exact h.h
          · exact h.h
    | val draw all rest k d v =>
      simp only [run, fV_eq] at h
      exact run_ok n (m := .ops draw all rest k) h
    | opt draw all rest k d v =>
      cases v with
      | some v =>
        simp only [run, fV_eq] at h
        exact run_ok n (m := .ops draw all rest k) h
      | none => exact SX.h h
    | ret draw pl all rest k d g r =>
      simp only [run] at h
      split at h
      · rename_i hb
        simp only [Bool.and_eq_true, Bool.or_eq_true, Bool.not_eq_true'] at hb
        simp only [fV_eq, fOb_eq] at h
        refine ⟨hb.1.1, fun e => ?_, allNone_of hb.2, run_ok n (m := .ops draw all rest k) h⟩
        rcases hb.1.2 with h1 | h1
        · rw [e] at h1; cases h1
        · exact h1
      · exact h.h
    | chg draw caps all rest k d ids os r =>
      cases draw with
      | true => exact SX.h h
      | false =>
        cases caps with
        | cons c cs => exact SX.h h
        | nil =>
          simp only [run] at h
          split at h
          · rename_i hb
            cases os with
            | some os =>
              simp only [fV_eq, fSl_eq, fOb_eq] at h
              exact ⟨rfl, rfl, allNone_of hb, run_ok n (m := .ops false all rest k) h⟩
            | none =>
              simp only [fV_eq, fSl_eq, fOb_eq] at h
              exact ⟨rfl, rfl, allNone_of hb, run_ok n (m := .ops false all rest k) h⟩
          · exact h.h
end
end Go.Vq
