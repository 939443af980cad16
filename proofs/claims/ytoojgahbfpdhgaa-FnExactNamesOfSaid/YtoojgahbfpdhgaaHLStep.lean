/- HL: what code asks for, step by step. -/
import Derived.Test.YtoojgahbfpdhgaaHLVc
set_option linter.unusedSimpArgs false
set_option linter.unusedVariables false
set_option linter.unusedSectionVars false
namespace HL
open Go

def oP {α : Type} (o : Option α) (k : α → Prop) : Prop := match o with
  | some a => k a
  | none => False
theorem oP_some {α : Type} (a : α) (k : α → Prop) : oP (some a) k = k a := propext Iff.rfl
theorem oP_none {α : Type} (k : α → Prop) : oP none k = False := propext Iff.rfl
theorem oP_ite {α : Type} {c : Prop} [Decidable c] (a b : Option α) (k : α → Prop) : oP (if c then a else b) k = ((c → oP a k) ∧ (¬c → oP b k)) := by
  by_cases h : c <;> simp [h]

/-- what is pointed at -/
def aP (o : Option HV) (kp ke : HV → Prop) : Prop := match o with
  | some (.ptr a b c d) => kp (.ptr a b c d)
  | some (.eptr a b c d) => ke (.eptr a b c d)
  | _ => False
def ptrP (o : Option HV) (kp : Nat → Nat → Nat → Nat → Prop) (ke : List HV → Nat → Nat → Nat → Prop) : Prop := match o with
  | some (.ptr a b c d) => kp a b c d
  | some (.eptr a b c d) => ke a b c d
  | _ => False
theorem ptrP_ptr (a b c d kp ke) : ptrP (some (.ptr a b c d)) kp ke = kp a b c d := propext Iff.rfl
theorem ptrP_eptr (a b c d kp ke) : ptrP (some (.eptr a b c d)) kp ke = ke a b c d := propext Iff.rfl
def boolP (o : Option HV) (k : Bool → Prop) (u : Prop) : Prop := match o with
  | some (.bool b) => k b
  | some (.tup []) => u
  | _ => False
theorem boolP_bool (b k u) : boolP (some (.bool b)) k u = k b := propext Iff.rfl
theorem boolP_undef (k u) : boolP (some (.tup [])) k u = u := propext Iff.rfl
def intP (o : Option HV) (k : IntKind → Int → Prop) : Prop := match o with
  | some (.int a b) => k a b
  | _ => False
theorem intP_int (a b k) : intP (some (.int a b)) k = k a b := propext Iff.rfl
def strP (o : Option HV) (k : ByteArray → Prop) : Prop := match o with
  | some (.str a) => k a
  | _ => False
theorem strP_str (a k) : strP (some (.str a)) k = k a := propext Iff.rfl
def fnP (o : Option HV) (k : FuncId → List HV → List HV → Prop) : Prop := match o with
  | some (.fn a b c) => k a b c
  | _ => False
theorem fnP_fn (a b c k) : fnP (some (.fn a b c)) k = k a b c := propext Iff.rfl
def slP (o : Option HV) (kn : Prop) (ks : List HV → Prop) (ko : Nat → Nat → Prop) : Prop := match o with
  | some .nils => kn
  | some (.sl l) => ks l
  | some (.own a b) => ko a b
  | _ => False
theorem slP_nils (kn ks ko) : slP (some .nils) kn ks ko = kn := propext Iff.rfl
theorem slP_sl (l kn ks ko) : slP (some (.sl l)) kn ks ko = ks l := propext Iff.rfl
theorem slP_own (a b kn ks ko) : slP (some (.own a b)) kn ks ko = ko a b := propext Iff.rfl
def arrP (o : Option HO) (k : Nat → List HV → Bool → Prop) : Prop := match o with
  | some (.arr a b c) => k a b c
  | _ => False
theorem arrP_arr (a b c k) : arrP (some (.arr a b c)) k = k a b c := propext Iff.rfl
def tupP (o : Option HV) (k : List HV → Prop) : Prop := match o with
  | some (.tup a) => k a
  | _ => False
theorem tupP_tup (a k) : tupP (some (.tup a)) k = k a := propext Iff.rfl
def aggP (o : Option HV) (k : List HV → Prop) : Prop := match o with
  | some (.agg a) => k a
  | _ => False
theorem aggP_agg (a k) : aggP (some (.agg a)) k = k a := propext Iff.rfl
/-- no tuple -/
def ntP (o : Option HV) (k : HV → Prop) : Prop := match o with
  | some (.tup _) => False
  | some v => k v
  | none => False
theorem beq_tt (t : Bool) : (t == true) = t := by cases t <;> rfl
theorem beq_ff (t : Bool) : (t == false) = !t := by cases t <;> rfl
def bP (b : Bool) (x y : Prop) : Prop := (b = true → x) ∧ (b = false → y)
theorem bP_true (x y) : bP true x y = x := by simp [bP]
theorem bP_false (x y) : bP false x y = y := by simp [bP]
theorem bP_dec (p : Prop) [Decidable p] (x y) : bP (decide p) x y = ((p → x) ∧ (¬p → y)) := by simp [bP]
theorem bP_not (b : Bool) (x y) : bP (!b) x y = bP b y x := by cases b <;> simp [bP]

section
variable {P : Program} {N : Nat} {fz : Bool} {env : Env} {st : St}

theorem w_skip (kn kx kr) : wc P fz N .skip env st kn kx kr = kn env st := propext Iff.rfl
theorem w_reg (ops kn kx kr) : wc P fz N (.reg ops) env st kn kx kr = vcOps P fz ops env st kn := propext Iff.rfl
theorem w_dreg (p kn kx kr) : wc P fz N (.dreg p) env st kn kx kr = dvc P fz p env st kn := propext Iff.rfl
theorem w_seq (a b kn kx kr) : wc P fz N (.seq a b) env st kn kx kr = wc P fz N a env st (fun env' st' => wc P fz N b env' st' kn kx kr) kx kr := propext Iff.rfl
theorem w_block (i c kn kx kr) : wc P fz N (.block i c) env st kn kx kr = wc P fz N c env st kn (fun j env' st' => if j = i then kn env' st' else kx j env' st') kr := propext Iff.rfl
theorem w_loop (c kn kx kr) : wc P fz N (.loop c) env st kn kx kr = Sem P N (.loop c) env st (Qof kn kx kr) := propext Iff.rfl
theorem w_exit (i kn kx kr) : wc P fz N (.exit i) env st kn kx kr = kx i env st := propext Iff.rfl
theorem w_ret (kn kx kr) : wc P fz N .ret env st kn kx kr = kr env st := propext Iff.rfl
theorem w_cond (c a b kn kx kr) : wc P fz N (.cond c a b) env st kn kx kr = boolP (ev env c) (fun t => bP t (wc P fz N a env st kn kx kr) (wc P fz N b env st kn kx kr)) False := by
  simp only [wc, boolP]
  generalize ev env c = o
  cases o with
  | none => rfl
  | some v => cases v with
    | tup l => cases l <;> rfl
    | _ => rfl

theorem v_nil (k) : vcOps P fz [] env st k = k env st := propext Iff.rfl
theorem v_some (d op is k) : vcOps P fz (⟨some d, op, none⟩ :: is) env st k = vcOp P fz env st op (fun h st' => vcOps P fz is ((d, h) :: env) st' k) := propext Iff.rfl
theorem v_none (op is k) : vcOps P fz (⟨none, op, none⟩ :: is) env st k = vcOp P fz env st op (fun _ st' => vcOps P fz is env st' k) := propext Iff.rfl
theorem v_gsome (d op s b is k) : vcOps P fz (⟨some d, op, some (s, b)⟩ :: is) env st k = boolP (lk env s) (fun t => bP (t == b) (vcOp P fz env st op (fun h st' => vcOps P fz is ((d, h) :: env) st' k)) (vcOps P fz is ((d, undefH) :: env) st k)) (vcOps P fz is ((d, undefH) :: env) st k) := by
  simp only [vcOps, boolP, putE]
  generalize lk env s = o
  cases o with
  | none => rfl
  | some v => cases v with
    | tup l => cases l <;> rfl
    | bool t => cases t <;> cases b <;> simp [bP]
    | _ => rfl
theorem v_gnone (op s b is k) : vcOps P fz (⟨none, op, some (s, b)⟩ :: is) env st k = boolP (lk env s) (fun t => bP (t == b) (vcOp P fz env st op (fun _ st' => vcOps P fz is env st' k)) (vcOps P fz is env st k)) (vcOps P fz is env st k) := by
  simp only [vcOps, boolP, putE]
  generalize lk env s = o
  cases o with
  | none => rfl
  | some v => cases v with
    | tup l => cases l <;> rfl
    | bool t => cases t <;> cases b <;> simp [bP]
    | _ => rfl

theorem v_gt (d op s b is k) (h : lk env s = some (.bool b)) : vcOps P fz (⟨some d, op, some (s, b)⟩ :: is) env st k = vcOp P fz env st op (fun h st' => vcOps P fz is ((d, h) :: env) st' k) := by
  rw [v_gsome, h]; cases b <;> simp [boolP, bP]
theorem v_gf (d op s b is k) (h : lk env s = some (.bool (!b))) : vcOps P fz (⟨some d, op, some (s, b)⟩ :: is) env st k = vcOps P fz is ((d, undefH) :: env) st k := by
  rw [v_gsome, h]; cases b <;> simp [boolP, bP]
theorem v_gu (d op s b is k) (h : lk env s = some (.tup [])) : vcOps P fz (⟨some d, op, some (s, b)⟩ :: is) env st k = vcOps P fz is ((d, undefH) :: env) st k := by
  rw [v_gsome, h]; simp [boolP]
theorem o_mov (x k) : vcOp P fz env st (.mov x) k = oP (ev env x) (fun v => k v st) := by
  simp only [vcOp, oP]
  generalize ev env x = o
  cases o <;> rfl
theorem o_pick (c a b k) : vcOp P fz env st (.pick c a b) k = boolP (ev env c) (fun t => oP (ev env a) fun x => oP (ev env b) fun y => k (if t then x else y) st) False := by
  simp only [vcOp, oP, boolP]
  generalize ev env c = o
  generalize ev env a = o1
  generalize ev env b = o2
  cases o with
  | none => cases o1 <;> cases o2 <;> rfl
  | some v => cases v with
    | tup l => cases l <;> cases o1 <;> cases o2 <;> rfl
    | _ => cases o1 <;> cases o2 <;> rfl
theorem o_alloc (z k) : vcOp P fz env st (.alloc z) k = (tup? z = false ∧ k (.ptr st.length 1 0 0) (st ++ [.box z])) := by
  cases z <;> simp [vcOp, tup?]
theorem o_box (x k) : vcOp P fz env st (.box x) k = oP (ev env x) (fun v => tup? v = false ∧ k (.ptr st.length 1 0 0) (st ++ [.box v])) := by
  simp only [vcOp, oP]
  generalize ev env x = o
  cases o with
  | none => rfl
  | some v => cases v <;> simp [tup?]
theorem ex_o {α : Type} {o : Option α} {p : α → Prop} : (∃ y, o = some y ∧ p y) = oP o p := by
  cases o <;> simp [oP]
theorem o_load (ag n a k) : vcOp P fz env st (.load ag n a) k = ptrP (ev env a)
    (fun id m i off => oP ((st[id]?).bind items) fun l => l.length = m ∧ oP (l[i]?) fun x => oP (ld ag off n x) fun h => k (if ag then (cnA fz st h).1 else h) (if ag then (cnA fz st h).2 else st))
    (fun l sz i off => oP (l[i]?) fun x => x.cells.length = sz ∧ oP (ld ag off n x) fun h => k h st) := by
  simp only [vcOp, ptrP, ex_o]
  generalize ev env a = o
  cases o with
  | none => rfl
  | some v => cases v with
    | ptr id m i off =>
      simp only
      generalize (st[id]?).bind items = q
      cases q <;> rfl
    | _ => rfl
theorem nt_iff (v : HV) : (∀ l, v ≠ .tup l) ↔ tup? v = false := by
  cases v <;> simp [tup?]
theorem o_store (n a x k) : vcOp P fz env st (.store n a x) k = ptrP (ev env a) (fun id m i off => oP (ev env x) fun v => oP (st[id]?) fun o => oP o.live fun p => p.2 = true ∧ p.1.length = m ∧ v.cells.length = n ∧ tup? v = false ∧ oP (p.1[i]?) fun y => off + n ≤ y.cells.length ∧ k undefH (st.set id (setItem o i (sto y off v)))) (fun _ _ _ _ => False) := by
  simp only [vcOp, ptrP, ex_o, nt_iff]
  generalize ev env a = o
  generalize ev env x = o1
  cases o with
  | none => cases o1 <;> rfl
  | some v =>
    cases v with
    | ptr id m i off =>
      cases o1 with
      | none => rfl
      | some u =>
        simp only [oP]
        generalize st[id]? = q
        cases q with
        | none => rfl
        | some b =>
          simp only
          generalize b.live = q2
          cases q2 <;> rfl
    | _ => cases o1 <;> rfl
theorem o_nilchk (x k) : vcOp P fz env st (.nilchk x) k = ptrP (ev env x) (fun a b c d => k (.ptr a b c d) st) (fun a b c d => k (.eptr a b c d) st) := by
  simp only [vcOp, ptrP]
  generalize ev env x = o
  cases o with
  | none => rfl
  | some v => cases v <;> rfl
theorem o_faddr (off a k) : vcOp P fz env st (.faddr off a) k = ptrP (ev env a) (fun id n i o => k (.ptr id n i (o + off)) st) (fun l sz i o => k (.eptr l sz i (o + off)) st) := by
  simp only [vcOp, ptrP]
  generalize ev env a = o
  cases o with
  | none => rfl
  | some v => cases v <;> rfl
theorem o_bin (op x y k) : vcOp P fz env st (.bin op x y) k = oP (ev env x) fun a => oP (ev env y) fun b => oP (binF op a b) fun r => k r st := by
  simp only [vcOp, oP]
  generalize ev env x = o
  generalize ev env y = o1
  cases o with
  | none => cases o1 <;> rfl
  | some a => cases o1 with
    | none => rfl
    | some b =>
      simp only
      generalize binF op a b = r
      cases r <;> rfl
theorem o_bbin (op x y k) : vcOp P fz env st (.bbin op x y) k = oP (ev env x) fun a => oP (ev env y) fun b => oP (bbinF op a b) fun r => k r st := by
  simp only [vcOp, oP]
  generalize ev env x = o
  generalize ev env y = o1
  cases o with
  | none => cases o1 <;> rfl
  | some a => cases o1 with
    | none => rfl
    | some b =>
      simp only
      generalize bbinF op a b = r
      cases r <;> rfl
theorem o_pbin (op x y k) : vcOp P fz env st (.pbin op x y) k = oP (ev env x) fun a => oP (ev env y) fun b => oP (pbinF op a b) fun r => k r st := by
  simp only [vcOp, oP]
  generalize ev env x = o
  generalize ev env y = o1
  cases o with
  | none => cases o1 <;> rfl
  | some a => cases o1 with
    | none => rfl
    | some b =>
      simp only
      generalize pbinF op a b = r
      cases r <;> rfl
theorem o_not (x k) : vcOp P fz env st (.not x) k = boolP (ev env x) (fun b => k (.bool (!b)) st) False := by
  simp only [vcOp, boolP]
  generalize ev env x = o
  cases o with
  | none => rfl
  | some v => cases v with
    | tup l => cases l <;> rfl
    | _ => rfl
theorem o_neg (x k) : vcOp P fz env st (.neg x) k = intP (ev env x) fun kd a => k (.int kd (kd.wrap (0 - a))) st := by
  simp only [vcOp, intP]
  generalize ev env x = o
  cases o with
  | none => rfl
  | some v => cases v <;> rfl
theorem o_conv (kd x k) : vcOp P fz env st (.conv kd x) k = intP (ev env x) fun _ a => k (.int kd (kd.wrap a)) st := by
  simp only [vcOp, intP]
  generalize ev env x = o
  cases o with
  | none => rfl
  | some v => cases v <;> rfl
theorem o_mkfn (f a b k) : vcOp P fz env st (.mkfn f a b) k = oP (evs env a) fun fs => oP (evs env b) fun cs => k (.fn f fs cs) st := by
  simp only [vcOp, oP]
  generalize evs env a = o
  generalize evs env b = o1
  cases o <;> cases o1 <;> rfl
theorem o_len (x k) : vcOp P fz env st (.len x) k = slP (ev env x) (k (.int .i64 0) st) (fun l => l.length ≤ lim → k (.int .i64 l.length) st) (fun id n => arrP (st[id]?) fun _ l _ => l.length = n ∧ (n ≤ lim → k (.int .i64 n) st)) := by
  simp only [vcOp, slP, arrP]
  generalize ev env x = o
  cases o with
  | none => rfl
  | some v => cases v with
    | own id n =>
      simp only
      generalize st[id]? = q
      cases q with
      | none => rfl
      | some b => cases b <;> rfl
    | _ => rfl
theorem o_slen (x k) : vcOp P fz env st (.slen x) k = strP (ev env x) fun s => s.size ≤ lim → k (.int .i64 s.size) st := by
  simp only [vcOp, strP]
  generalize ev env x = o
  cases o with
  | none => rfl
  | some v => cases v <;> rfl
theorem o_snil (ne x k) : vcOp P fz env st (.snil ne x) k = slP (ev env x) (∀ b : Bool, k (.bool b) st) (fun l => ∀ b : Bool, (l ≠ [] → b = ne) → k (.bool b) st) (fun id n => arrP (st[id]?) fun _ l _ => l.length = n ∧ ∀ b : Bool, (l ≠ [] → b = ne) → k (.bool b) st) := by
  simp only [vcOp, slP, arrP]
  generalize ev env x = o
  cases o with
  | none => rfl
  | some v => cases v with
    | own id n =>
      simp only
      generalize st[id]? = q
      cases q with
      | none => rfl
      | some b => cases b <;> rfl
    | _ => rfl
def otlP (o : Option HV) (k : Nat → Nat → Nat → Prop) : Prop := match o with
  | some (.otl a b c) => k a b c
  | _ => False
theorem otlP_otl (a b c k) : otlP (some (.otl a b c)) k = k a b c := propext Iff.rfl
theorem o_clr (sz z x k) : vcOp P fz env st (.clr sz z x) k = otlP (ev env x) fun id n i => arrP (st[id]?) fun sz' l m => m = true ∧ sz' = sz ∧ l.length = n ∧ z.cells.length = sz ∧ (∀ l, z ≠ .tup l) ∧ k undefH (st.set id (.arr sz' (l.take i ++ List.replicate (l.length - i) (zfz fz z)) true)) := by
  simp only [vcOp, otlP, arrP]
  generalize ev env x = o
  cases o with
  | none => rfl
  | some v => cases v with
    | otl id n i =>
      simp only
      generalize st[id]? = q
      cases q with
      | none => rfl
      | some b => cases b with
        | arr a l m => cases m <;> simp
        | _ => rfl
    | _ => rfl
theorem o_shft (op x y k) : vcOp P fz env st (.shft op x y) k = oP (ev env x) fun a => oP (ev env y) fun b => oP (shftF op a b) fun r => k r st := by
  simp only [vcOp, oP]
  generalize ev env x = o
  generalize ev env y = o1
  cases o with
  | none => rfl
  | some v => cases o1 with
    | none => rfl
    | some u =>
      simp only
      generalize shftF op v u = q
      cases q <;> rfl
theorem shftF_shl (k k' a b) : shftF .shl (.int k a) (.int k' b) = if 0 ≤ b then some (.int k (shlI k a b)) else none := rfl
theorem shftF_shr (k k' a b) : shftF .shr (.int k a) (.int k' b) = if 0 ≤ b then some (.int k (shrI k a b)) else none := rfl
theorem o_abin (ks ne x y k) : vcOp P fz env st (.abin ks ne x y) k = oP (ev env x) fun a => oP (ev env y) fun b => oP (abinF ks ne a b) fun r => k r st := by
  simp only [vcOp, oP]
  generalize ev env x = o
  generalize ev env y = o1
  cases o with
  | none => rfl
  | some v => cases o1 with
    | none => rfl
    | some u =>
      simp only
      generalize abinF ks ne v u = q
      cases q <;> rfl
theorem abinF_agg (ks ne cs ds) : abinF ks ne (.agg cs) (.agg ds) = (eqL ks cs ds).map fun b => .bool (b != ne) := rfl
theorem eqL_nil : eqL [] [] [] = some true := rfl
theorem eqL_int (ks k a b cs ds) : eqL (0 :: ks) (.int k a :: cs) (.int k b :: ds) = (eqL ks cs ds).map fun y => decide (a = b) && y := by
  simp only [eqL, eqC, if_true]
  cases eqL ks cs ds <;> rfl
theorem eqL_bool (ks a b cs ds) : eqL (1 :: ks) (.bool a :: cs) (.bool b :: ds) = (eqL ks cs ds).map fun y => (a == b) && y := by
  simp only [eqL, eqC, if_true]
  cases eqL ks cs ds <;> rfl
theorem eqL_str (ks a b cs ds) : eqL (2 :: ks) (.str a :: cs) (.str b :: ds) = (eqL ks cs ds).map fun y => decide (a = b) && y := by
  simp only [eqL, eqC, if_true]
  cases eqL ks cs ds <;> rfl
/-- the rest of a slice -/
theorem o_sliceT (sz x lo k) : vcOp P fz env st (.slice sz x (some lo) none none) k = slP (ev env x) (intP (ev env lo) fun _ a => 0 ≤ a ∧ a ≤ 0 ∧ k .nils st) (fun l => intP (ev env lo) fun _ a => 0 ≤ a ∧ a ≤ l.length ∧ (∀ y ∈ l, y.cells.length = sz) ∧ k (.sl (l.drop a.toNat)) st)
    (fun id n => arrP (st[id]?) fun sz' l m => l.length = n ∧ intP (ev env lo) fun _ a => 0 ≤ a ∧ a ≤ l.length ∧ sz' = sz ∧ bP m (k (.otl id n a.toNat) st) (k (.sl (l.drop a.toNat)) st)) := by
  simp only [vcOp, slP, boundOf]
  generalize hx : ev env x = o
  cases o with
  | none => rfl
  | some v => cases v with
    | own id n =>
      simp only [elemsOf]
      generalize hq : st[id]? = q
      cases q with
      | none => rfl
      | some b => cases b with
        | arr a l m =>
          simp only [arrP]
          by_cases hl : l.length = n
          · simp only [hl, if_true, true_and]
            simp only [intP]
            generalize ev env lo = o2
            cases o2 with
            | none => rfl
            | some u => cases u with
              | int kk j =>
                cases m <;> apply propext <;> simp [bP, hl]
                · intro h1 h2 h3
                  rw [List.take_of_length_le (by omega)]
              | _ => rfl
          · simp [hl]
        | _ => rfl
    | sl l =>
      simp only [elemsOf, intP]
      generalize ev env lo = o2
      cases o2 with
      | none => rfl
      | some u => cases u with
        | int kk j =>
          apply propext
          simp
        | _ => rfl
    | nils =>
      simp only [elemsOf, intP]
      generalize ev env lo = o2
      cases o2 with
      | none => rfl
      | some u => cases u with
        | int kk j =>
          apply propext
          simp
        | _ => rfl
    | _ => simp [elemsOf]
/-- the first ones of a slice -/
theorem o_sliceH (sz x hi k) : vcOp P fz env st (.slice sz x none (some hi) none) k = slP (ev env x) (intP (ev env hi) fun _ b => 0 ≤ b ∧ b ≤ 0 ∧ k .nils st) (fun l => intP (ev env hi) fun _ b => 0 ≤ b ∧ b ≤ l.length ∧ (∀ y ∈ l, y.cells.length = sz) ∧ k (.sl (l.take b.toNat)) st)
    (fun id n => arrP (st[id]?) fun sz' l m => l.length = n ∧ intP (ev env hi) fun _ b => 0 ≤ b ∧ b ≤ l.length ∧ bP m (k (.own st.length b.toNat) (st.set id .dead ++ [.arr sz' (l.take b.toNat) true])) (sz' = sz ∧ k (.sl (l.take b.toNat)) st)) := by
  simp only [vcOp, slP, boundOf]
  generalize hx : ev env x = o
  cases o with
  | none => rfl
  | some v => cases v with
    | own id n =>
      simp only [elemsOf]
      generalize hq : st[id]? = q
      cases q with
      | none => rfl
      | some b => cases b with
        | arr a l m =>
          simp only [arrP]
          by_cases hl : l.length = n
          · simp only [hl, if_true, true_and]
            simp only [intP]
            generalize ev env hi = o2
            cases o2 with
            | none => rfl
            | some u => cases u with
              | int kk j =>
                cases m <;> apply propext <;> simp [bP]
              | _ => rfl
          · simp [hl]
        | _ => rfl
    | sl l =>
      simp only [elemsOf, intP]
      generalize ev env hi = o2
      cases o2 with
      | none => rfl
      | some u => cases u with
        | int kk j =>
          apply propext
          simp
        | _ => rfl
    | nils =>
      simp only [elemsOf, intP]
      generalize ev env hi = o2
      cases o2 with
      | none => rfl
      | some u => cases u with
        | int kk j =>
          apply propext
          simp
        | _ => rfl
    | _ => simp [elemsOf]
theorem o_bmark (x k) : vcOp P fz env st (.bmark x) k = slP (ev env x) False (fun _ => False) (fun id n => arrP (st[id]?) fun _ l m => m = true ∧ l.length = n ∧ l ≠ [] ∧ k (.sl l) (st.set id .dead)) := by
  simp only [vcOp, slP, arrP]
  generalize ev env x = o
  cases o with
  | none => rfl
  | some v => cases v with
    | own id n =>
      simp only
      generalize st[id]? = q
      cases q with
      | none => rfl
      | some b => cases b with
        | arr sz l m => cases m <;> simp
        | _ => rfl
    | _ => rfl
theorem o_bstr (x k) : vcOp P fz env st (.bstr x) k = oP (ev env x) fun v => oP (bstrF st v) fun h => k h st := by
  simp only [vcOp, oP]
  generalize ev env x = o
  cases o with
  | none => rfl
  | some v =>
    simp only
    generalize bstrF st v = q
    cases q <;> rfl
theorem bstr_def (st : St) (v : HV) : bstrF st v = (elemsOf st v).bind fun l => (bytesF l).map fun ns => .str (bsOf ns) := by
  unfold bstrF
  cases elemsOf st v <;> rfl
theorem bytesF_nil : bytesF [] = some [] := rfl
theorem bytesF_cons (n : Int) (r : List HV) : bytesF (.int .u8 n :: r) = (bytesF r).map (n :: ·) := rfl
theorem bytesF_rep (a : Int) : ∀ n, bytesF (List.replicate n (.int .u8 a)) = some (List.replicate n a)
  | 0 => rfl
  | n + 1 => by rw [List.replicate_succ, bytesF, bytesF_rep a n]; rfl
theorem bytesF_map (l : List Int) : bytesF (List.map (HV.int .u8) l) = some l := by
  induction l with
  | nil => rfl
  | cons x l ih => simp only [List.map_cons, bytesF_cons, ih, Option.map_some]
theorem o_ext (x i k) : vcOp P fz env st (.ext x i) k = tupP (ev env x) fun l => oP (l[i]?) fun v => k v st := by
  simp only [vcOp, tupP]
  generalize ev env x = o
  cases o with
  | none => rfl
  | some v => cases v with
    | tup l =>
      simp only [oP]
      generalize l[i]? = q
      cases q <;> rfl
    | _ => rfl
theorem o_fld (ag off n x k) : vcOp P fz env st (.fld ag off n x) k = aggP (ev env x) fun cs => oP (ld ag off n (.agg cs)) fun h => k h st := by
  simp only [vcOp, aggP]
  generalize ev env x = o
  cases o with
  | none => rfl
  | some v => cases v with
    | agg l =>
      simp only [oP]
      generalize ld ag off n (.agg l) = q
      cases q <;> rfl
    | _ => rfl
theorem o_iaddr (sz x i k) : vcOp P fz env st (.iaddr sz x i) k = slP (ev env x) False (fun l => intP (ev env i) fun _ j => 0 ≤ j ∧ oP (l[j.toNat]?) fun y => y.cells.length = sz ∧ k (.eptr l sz j.toNat 0) st)
    (fun id n => intP (ev env i) fun _ j => arrP (st[id]?) fun sz' l _ => sz' = sz ∧ l.length = n ∧ 0 ≤ j ∧ j < n ∧ k (.ptr id n j.toNat 0) st) := by
  simp only [vcOp, slP, intP, arrP, ex_o]
  generalize ev env x = o
  generalize ev env i = o1
  cases o with
  | none => rfl
  | some v => cases v with
    | own id n =>
      cases o1 with
      | none => rfl
      | some u => cases u with
        | int a b =>
          simp only
          generalize st[id]? = q
          cases q with
          | none => rfl
          | some b => cases b <;> rfl
        | _ => rfl
    | sl l =>
      cases o1 with
      | none => rfl
      | some u => cases u <;> rfl
    | _ => rfl
theorem o_idx (x i k) : vcOp P fz env st (.idx x i) k = strP (ev env x) fun s => intP (ev env i) fun _ j => 0 ≤ j ∧ oP (s.data[j.toNat]?) fun b => k (.int .u8 b.toNat) st := by
  simp only [vcOp, strP, intP, ex_o]
  generalize ev env x = o
  generalize ev env i = o1
  cases o with
  | none => rfl
  | some v => cases v with
    | str s =>
      cases o1 with
      | none => rfl
      | some u => cases u <;> rfl
    | _ => rfl
theorem o_call (f args k) : vcOp P fz env st (.call f args) k = fnP (ev env f) fun g first caps => oP (evs env args) fun vs => HC P g (first ++ vs ++ caps) st k := by
  simp only [vcOp, fnP, oP]
  generalize ev env f = o
  generalize evs env args = o1
  cases o with
  | none => rfl
  | some v => cases v with
    | fn a b c => cases o1 <;> rfl
    | _ => rfl
theorem o_mkslice (sz bytes z n c k) : vcOp P fz env st (.mkslice sz bytes z n c) k = intP (ev env n) fun _ a => intP (ev env c) fun _ b => a = b ∧ 0 ≤ a ∧ a ≤ 1099511627776 ∧ bytes ≤ 256 ∧ z.cells.length = sz ∧ tup? z = false ∧ k (.own st.length a.toNat) (st ++ [.arr sz (List.replicate a.toNat (zfz fz z)) true]) := by
  simp only [vcOp, intP, nt_iff]
  generalize ev env n = o
  generalize ev env c = o1
  cases o with
  | none => rfl
  | some v => cases v with
    | int a b =>
      cases o1 with
      | none => rfl
      | some u => cases u <;> rfl
    | _ => rfl
theorem o_build (z parts k) : vcOp P fz env st (.build z parts) k = oP (evs env (parts.map (·.2.2))) fun vs => oP (fillC z ((parts.zip (vcOp.cnL' fz st vs).1).map fun p => (p.1.1, p.1.2.1, p.2))) fun cs => (∀ v ∈ (vcOp.cnL' fz st vs).1, tup? v = false) ∧ k (.agg cs) (vcOp.cnL' fz st vs).2 := by
  simp only [vcOp, oP, nt_iff]
  generalize evs env (parts.map (·.2.2)) = o
  cases o with
  | none => rfl
  | some vs =>
    simp only
    generalize fillC z _ = q
    cases q <;> rfl
theorem o_max (x y k) : vcOp P fz env st (.max x y) k = intP (ev env x) fun kd a => intP (ev env y) fun kd' b => kd = kd' ∧ k (.int kd (if a ≤ b then b else a)) st := by
  simp only [vcOp, intP]
  generalize ev env x = o
  generalize ev env y = o1
  cases o with
  | none => rfl
  | some v => cases v with
    | int a b =>
      cases o1 with
      | none => rfl
      | some u => cases u <;> rfl
    | _ => rfl
theorem o_min (x y k) : vcOp P fz env st (.min x y) k = intP (ev env x) fun kd a => intP (ev env y) fun kd' b => kd = kd' ∧ k (.int kd (if a ≤ b then a else b)) st := by
  simp only [vcOp, intP]
  generalize ev env x = o
  generalize ev env y = o1
  cases o with
  | none => rfl
  | some v => cases v with
    | int a b =>
      cases o1 with
      | none => rfl
      | some u => cases u <;> rfl
    | _ => rfl

theorem d_done (k) : dvc P fz .done env st k = k env st := propext Iff.rfl
theorem d_none (k) : dvc P fz .none env st k = True := propext Iff.rfl
theorem d_q (i r k) : dvc P fz (.q i r) env st k = oP (eff fz env st i) fun h => dvc P fz r (putE env i.dst h) st k := by
  simp only [dvc, ex_o]
theorem d_l (i c r m k) : dvc P fz (.l i c r m) env st k = ((vcIns P fz env st i fun h st' => chkAll fz (putE env i.dst h) st' c ∧ dvc P fz r (putE env i.dst h) st' k) ∧ dvc P fz m env st k) := propext Iff.rfl
theorem i_none (d op k) : vcIns P fz env st ⟨d, op, none⟩ k = vcOp P fz env st op k := propext Iff.rfl
theorem i_some (d op s b k) : vcIns P fz env st ⟨d, op, some (s, b)⟩ k = boolP (lk env s) (fun t => bP (t == b) (vcOp P fz env st op k) (k undefH st)) (k undefH st) := by
  simp only [vcIns, boolP]
  generalize lk env s = o
  cases o with
  | none => rfl
  | some v => cases v with
    | tup l => cases l <;> rfl
    | bool t => cases t <;> cases b <;> simp [bP]
    | _ => rfl
theorem e_none (d op) : eff fz env st ⟨d, op, none⟩ = qv fz env st op := rfl
theorem c_nil : chkAll fz env st [] = True := propext Iff.rfl
theorem c_cons (d op g r) : chkAll fz env st (⟨some d, op, g⟩ :: r) = (eff fz env st ⟨some d, op, g⟩ = lk env d ∧ chkAll fz env st r) := propext Iff.rfl
end
theorem y_one {t : Nat} {r : HV} {env : Env} {st : St} : Yield [(t, none)] r env st = oP (lk env t) fun h => (cnR st h).1 = r := by
  simp only [Yield, resE, resV, ex_o]
theorem y_def {rs : List (Nat × Option (Bool × Nat))} {r : HV} {env : Env} {st : St} : Yield rs r env st = oP (resE env st rs) fun h => (cnR st h).1 = r := by
  simp only [Yield, ex_o]
end HL
