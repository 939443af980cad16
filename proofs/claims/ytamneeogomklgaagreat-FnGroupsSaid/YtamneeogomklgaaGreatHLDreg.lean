/- HL: a region whose order is drawn. -/
import Derived.Test.YtamneeogomklgaaGreatHLSound9
import Derived.Orders
set_option linter.unusedSimpArgs false
set_option linter.unusedVariables false
set_option linter.unusedSectionVars false
namespace HL
open Go
/-! ### what is looked at hangs on what is read -/
theorem get_lt {α : Type} {l : List α} {i : Nat} {x : α} (h : l[i]? = some x) : i < l.length := by
  rcases Nat.lt_or_ge i l.length with h' | h'
  · exact h'
  · simp [List.getElem?_eq_none h'] at h
theorem ev_congr {env env' : Env} {x : HArg} (h : ∀ t ∈ x.tmps, lk env t = lk env' t) : ev env x = ev env' x := by
  cases x with
  | t n => exact h n (by simp [HArg.tmps])
  | c v => rfl
theorem evs_congr {env env' : Env} : ∀ {xs : List HArg}, (∀ x ∈ xs, ev env x = ev env' x) → evs env xs = evs env' xs
  | [], _ => rfl
  | x :: xs, h => by simp only [evs, h x (by simp), evs_congr (xs := xs) fun y hy => h y (by simp [hy])]
theorem bound_congr {env env' : Env} {d : Int} {o : Option HArg} (h : ∀ x ∈ optL o, ev env x = ev env' x) : boundOf env d o = boundOf env' d o := by
  cases o with
  | none => rfl
  | some x => simp only [boundOf, h x (by simp [optL])]
theorem vcOp_congr {P : Program} {fz : Bool} {env env' : Env} {st : St} {op : HOp} {k : HV → St → Prop} (h : ∀ x ∈ op.args, ev env x = ev env' x) : vcOp P fz env st op k = vcOp P fz env' st op k := by
  cases op <;> simp only [HOp.args] at h <;> simp only [vcOp]
  case mov x => rw [h x (by simp)]
  case pick c a b => rw [h c (by simp), h a (by simp), h b (by simp)]
  case box x => rw [h x (by simp)]
  case build z parts => rw [evs_congr h]
  case bslice a b c parts => rw [evs_congr h]
  case load a b x => rw [h x (by simp)]
  case store n a x => rw [h x (by simp), h a (by simp)]
  case nilchk x => rw [h x (by simp)]
  case bin op x y => rw [h x (by simp), h y (by simp)]
  case bbin op x y => rw [h x (by simp), h y (by simp)]
  case pbin op x y => rw [h x (by simp), h y (by simp)]
  case not x => rw [h x (by simp)]
  case neg x => rw [h x (by simp)]
  case conv k x => rw [h x (by simp)]
  case mkfn f a b => rw [evs_congr fun x hx => h x (by simp [hx]), evs_congr (xs := b) fun x hx => h x (by simp [hx])]
  case mkslice a b c x y => rw [h x (by simp), h y (by simp)]
  case substr x lo hi =>
    have e1 : ∀ d, boundOf env d lo = boundOf env' d lo := fun d => bound_congr fun x hx => h x (by simp [hx])
    have e2 : ∀ d, boundOf env d hi = boundOf env' d hi := fun d => bound_congr fun x hx => h x (by simp [hx])
    simp only [e1, e2, h x (by simp)]
  case slice sz x lo hi mx =>
    have e1 : ∀ d, boundOf env d lo = boundOf env' d lo := fun d => bound_congr fun x hx => h x (by simp [hx])
    have e2 : ∀ d, boundOf env d hi = boundOf env' d hi := fun d => bound_congr fun x hx => h x (by simp [hx])
    have e3 : ∀ d, boundOf env d mx = boundOf env' d mx := fun d => bound_congr fun x hx => h x (by simp [hx])
    have hx := h x (by simp)
    cases mx with
    | none => simp only [e1, e2, hx]
    | some m => simp only [e1, e2, e3, hx]
  case faddr a x => rw [h x (by simp)]
  case fld a b c x => rw [h x (by simp)]
  case iaddr a x y => rw [h x (by simp), h y (by simp)]
  case idx x y => rw [h x (by simp), h y (by simp)]
  case ext x y => rw [h x (by simp)]
  case len x => rw [h x (by simp)]
  case cap x => rw [h x (by simp)]
  case slen x => rw [h x (by simp)]
  case snil b x => rw [h x (by simp)]
  case shft a x y => rw [h x (by simp), h y (by simp)]
  case abin a b x y => rw [h x (by simp), h y (by simp)]
  case clr a b x => rw [h x (by simp)]
  case bstr x => rw [h x (by simp)]
  case bmark x => rw [h x (by simp)]
  case append a b x y => rw [h x (by simp), h y (by simp)]
  case max x y => rw [h x (by simp), h y (by simp)]
  case min x y => rw [h x (by simp), h y (by simp)]
  case call f args => rw [h f (by simp), evs_congr fun x hx => h x (by simp [hx])]
theorem calm_cnL {st : St} : ∀ {cs : List HV}, (∀ c ∈ cs, own? c = false) → (cnL st cs).2 = st
  | [], _ => rfl
  | c :: cs, h => by
    have h0 : (cn1 st c).2 = st := by
      have := h c (by simp)
      cases c <;> first | rfl | simp [own?] at this
    simp only [cnL, h0]
    exact calm_cnL fun x hx => h x (by simp [hx])
theorem calm_cnA {fz : Bool} {st : St} {h : HV} (hc : calm h = true) : (cnA fz st h).2 = st := by
  unfold cnA
  split
  · unfold calm at hc
    cases h with
    | agg cs => exact calm_cnL fun c hcs => by simpa using List.all_eq_true.1 hc c (by simpa [HV.cells] using hcs)
    | own a b => simp [HV.cells, own?] at hc
    | _ => rfl
  · rfl
theorem qv_vc {P : Program} {fz : Bool} {env : Env} {st : St} {op : HOp} {h : HV} (hq : qv fz env st op = some h) {k : HV → St → Prop} (hk : k h st) : vcOp P (qfz fz op) env st op k := by
  cases op <;> simp only [qv, reduceCtorEq] at hq <;> simp only [vcOp, qfz]
  case build z parts =>
    split at hq
    · rename_i vs hvs
      split at hq
      · rename_i hall
        split at hq
        · rename_i cs hf
          cases hq
          rw [show vcOp.cnL' false st vs = (vs, st) from rfl]
          simp only [hf]
          refine ⟨fun v hv l e => ?_, hk⟩
          have := List.all_eq_true.1 hall v hv
          subst e
          simp [tup?] at this
        · cases hq
      · cases hq
    · cases hq
  case load ag n x =>
    split at hq
    · rename_i id m i off he
      split at hq
      · rename_i l hl
        split at hq
        · rename_i hm
          split at hq
          · rename_i y hy
            split at hq
            · rename_i hh hld
              refine ⟨hm, y, hy, hh, hld, ?_⟩
              cases ag with
              | true =>
                simp only [if_true] at hq ⊢
                split at hq
                · rename_i hc
                  cases hq
                  rw [calm_cnA hc]
                  exact hk
                · cases hq
              | false =>
                simp only [Bool.false_eq_true, if_false] at hq ⊢
                cases hq
                exact hk
            · cases hq
          · cases hq
        · cases hq
      · cases hq
    · rename_i l sz i off he
      split at hq
      · rename_i y hy
        split at hq
        · rename_i hs
          exact ⟨y, hy, hs, h, hq, hk⟩
        · cases hq
      · cases hq
    · cases hq
  case iaddr sz x i =>
    split at hq
    · rename_i l kd j e1 e2
      split at hq
      · rename_i hj
        split at hq
        · rename_i y hy
          split at hq
          · rename_i hs
            cases hq
            exact ⟨hj, y, hy, hs, hk⟩
          · cases hq
        · cases hq
      · cases hq
    · rename_i id n kd j e1 e2
      split at hq
      · rename_i hst
        split at hq
        · rename_i hc
          cases hq
          exact ⟨hc.1, hc.2.1, hc.2.2.1, hc.2.2.2, hk⟩
        · cases hq
      · cases hq
    · cases hq
  all_goals (repeat' split at hq)
  all_goals first
    | cases hq; done
    | (simp_all; done)
    | (cases hq; simp_all; done)
    | (cases hq; refine ⟨by assumption, ?_⟩; rw [if_neg (by assumption)]; exact hk)
section
variable {P : Program} {N : Nat} {fz : Bool}
theorem yielded_bool {ops : Array Oper} {a : Act} {G : Gh} {env : Env} (he : REnv N G a env) {j s : Nat} (hs : (ops[j]?).bind (·.dst) = some s) {t : Bool} (h : lk env s = some (.bool t)) : yielded ops a.tmps j = some t := by
  obtain ⟨v, h1, h2⟩ := he.get s _ h
  cases h2
  simp [yielded, hs, h1]
theorem yielded_undef {ops : Array Oper} {a : Act} {G : Gh} {env : Env} (he : REnv N G a env) {j s : Nat} (hs : (ops[j]?).bind (·.dst) = some s) (h : lk env s = some (.tup [])) : yielded ops a.tmps j = none := by
  obtain ⟨v, h1, h2⟩ := he.get s _ h
  cases h2
  simp [yielded, hs, h1]
theorem R_undef {G : Gh} : R G (.val undef undefH) := .tup (vs := []) .vnil
theorem stripIns_spec {ops : Array Oper} {o : Oper} {i : HIns} (h : stripIns P N ops o = some i) :
    (∀ n, o.dst = some n → n < N) ∧ i.dst = o.dst ∧ stripOp P o = some i.op ∧ ((o.guard = none ∧ i.guard = none) ∨ ∃ j b s, o.guard = some (j, b) ∧ i.guard = some (s, b) ∧ (ops[j]?).bind (·.dst) = some s) := by
  unfold stripIns at h
  split at h
  · cases h
  · rename_i hd
    simp only [Option.bind_eq_bind, Option.bind_eq_some_iff, Option.pure_def] at h
    obtain ⟨op, h1, h⟩ := h
    have hdst : ∀ n, o.dst = some n → n < N := by
      intro n hn
      rw [hn] at hd
      simpa using hd
    cases hg : o.guard with
    | none =>
      rw [hg] at h
      cases h
      exact ⟨hdst, rfl, h1, .inl ⟨rfl, rfl⟩⟩
    | some g =>
      obtain ⟨j, b⟩ := g
      rw [hg] at h
      simp only [Option.bind_eq_some_iff] at h
      obtain ⟨s, h2, h⟩ := h
      cases h
      exact ⟨hdst, rfl, h1, .inr ⟨j, b, s, rfl, rfl, by simpa [Option.bind_eq_some_iff] using h2⟩⟩
end
section
variable {P : Program} {N : Nat} {fz : Bool} {L : DL} {T : List (List Nat)} {ops : Array Oper}
def Still (P : Program) (fz : Bool) (env : Env) (st : St) (i : HIns) (h : HV) : Prop := ∀ k : HV → St → Prop, k h st → vcIns P (qfz fz i.op) env st i k
theorem vcIns_congr {env env' : Env} {st : St} {i : HIns} {k : HV → St → Prop} (h : ∀ t ∈ i.reads, lk env t = lk env' t) : vcIns P fz env st i k = vcIns P fz env' st i k := by
  have ho : vcOp P fz env st i.op k = vcOp P fz env' st i.op k := vcOp_congr fun x hx => ev_congr fun t ht => h t (by simp only [HIns.reads, List.mem_append, List.mem_flatMap]; exact .inl ⟨x, hx, ht⟩)
  unfold vcIns
  split
  · exact ho
  · rename_i s b hg
    rw [h s (by simp [HIns.reads, hg]), ho]
theorem eff_still {env : Env} {st : St} {i : HIns} {h : HV} (he : eff fz env st i = some h) : Still P fz env st i h := by
  intro k hk
  unfold eff at he
  unfold vcIns
  split at he
  · exact qv_vc he hk
  · split at he
    · rename_i t ht
      split at he
      · rename_i e
        subst e
        exact ⟨fun _ => qv_vc he hk, fun e => by cases t <;> cases e⟩
      · rename_i e
        cases he
        exact ⟨fun e' => absurd e' e, fun _ => hk⟩
    · cases he; exact hk
    · cases he
theorem wpOp_sound {Q' : Exit → Act → World → Prop} {i : Nat} {o : Oper} {ins : HIns} {env : Env} {st : St} {k : HV → St → Prop} {G : Gh} {a : Act} {w : World} {K : Act → World → Prop}
    (hi : ops[i]? = some o) (h1 : stripIns P N ops o = some ins) (hv : vcIns P fz env st ins k) (hr : Rel P G st w) (he : REnv N G a env)
    (hn : ∀ v w', After P G w k v w' → K (a.put ins.dst v) w') : wpOp P ops Q' i K a w := by
  obtain ⟨hd, hdst, hop, hg⟩ := stripIns_spec h1
  rw [hdst] at hn
  unfold wpOp
  rw [hi]
  simp only
  unfold vcIns at hv
  have skip : k undefH st → K (a.put o.dst undef) w := fun hk => hn _ _ ⟨undefH, G, st, hk, hr, R_undef, Step.refl _ _⟩
  rcases hg with ⟨g1, g2⟩ | ⟨j, b, s, g1, g2, g3⟩
  · rw [g2] at hv
    rw [if_pos (by simp [Region.wanted, g1])]
    exact .inl (vcOp_sound hop hv hr he hn)
  · rw [g2] at hv
    simp only at hv
    split at hv
    · rename_i t ht
      have hy := yielded_bool (ops := ops) he g3 ht
      by_cases e : t = b
      · rw [if_pos (by simp [Region.wanted, g1, hy, e])]
        exact .inl (vcOp_sound hop (hv.1 e) hr he hn)
      · rw [if_neg (by simp [Region.wanted, g1, hy, e])]
        exact skip (hv.2 (by cases t <;> cases b <;> simp_all))
    · rename_i ht
      have hy := yielded_undef (ops := ops) he g3 ht
      rw [if_neg (by simp [Region.wanted, g1, hy])]
      exact skip hv
    · exact hv.elim
/-! ### what waits for what -/
theorem okDL_at (h : okDL L T = true) {i : Nat} {x : HIns × List Nat} (hx : L[i]? = some x) :
    (∀ d ∈ x.2, d < i) ∧ (∀ j ∈ T.getD i [], j ∈ x.2 ∨ ∃ d ∈ x.2, j ∈ T.getD d []) ∧ ∀ d, x.1.dst = some d → ∀ j y, L[j]? = some y → y.1.dst = some d → j = i := by
  have hi := get_lt hx
  have := List.all_eq_true.1 h i (List.mem_range.2 hi)
  rw [hx] at this
  simp only [Bool.and_eq_true, List.all_eq_true, decide_eq_true_eq] at this
  obtain ⟨⟨h1, h2⟩, h3⟩ := this
  refine ⟨h1, fun j hj => ?_, fun d hd j y hy hdy => ?_⟩
  · have := h2 j hj
    simpa using this
  · rw [hd] at h3
    simp only [List.all_eq_true] at h3
    have := h3 j (List.mem_range.2 (get_lt hy))
    rw [hy] at this
    simp only [Bool.and_eq_true] at this
    simpa [hdy] using this.1
theorem T_sub (h : okDL L T = true) {S : Nat → Prop} (hS : ∀ i x, S i → L[i]? = some x → ∀ d ∈ x.2, S d) : ∀ (i : Nat) (x : HIns × List Nat), L[i]? = some x → (∀ d ∈ x.2, S d) → ∀ j ∈ T.getD i [], S j := by
  intro i
  induction i using Nat.strongRecOn with
  | ind i ih =>
    intro x hx hd j hj
    obtain ⟨h1, h2, _⟩ := okDL_at h hx
    rcases h2 j hj with h' | ⟨d, hd', hj'⟩
    · exact hd j h'
    · have hlt := h1 d hd'
      have hlt' := get_lt hx
      have hy : L[d]? = some L[d] := List.getElem?_eq_getElem (by omega)
      exact ih d hlt L[d] hy (hS d L[d] (hd d hd') hy) j hj'
theorem T_lt (h : okDL L T = true) {i : Nat} {x : HIns × List Nat} (hx : L[i]? = some x) : ∀ j ∈ T.getD i [], j < i := by
  obtain ⟨h1, _⟩ := okDL_at h hx
  refine T_sub h (S := fun j => j < i) (fun j y hj hy d hd => ?_) i x hx h1
  have := (okDL_at h hy).1 d hd
  omega
theorem loudI_of (h : okDL L T = true) {i j : Nat} {x y : HIns × List Nat} (hx : L[i]? = some x) (hy : L[j]? = some y) {d : Nat} (hd : x.1.dst = some d) (hr : d ∈ y.1.reads) (hn : i ∉ T.getD j []) : loudI L T i = true := by
  unfold loudI
  rw [hx]
  simp only [hd, Bool.or_eq_true, List.any_eq_true]
  refine .inr ⟨j, List.mem_range.2 (get_lt hy), ?_⟩
  rw [hy]
  simp only [Bool.and_eq_true, Bool.not_eq_true', List.contains_iff_mem]
  refine ⟨hr, ?_⟩
  simpa using hn
structure Reg (P : Program) (N : Nat) (ops : Array Oper) (L : DL) : Prop where
  len : L.length = ops.size
  get : ∀ (i : Nat) (o : Oper), ops[i]? = some o → ∃ x, L[i]? = some x ∧ stripIns P N ops o = some x.1 ∧ x.2 = (o.after.toList.filter (Region.binds .any)).map Edge.on
structure Inv (P : Program) (N : Nat) (fz : Bool) (L : DL) (T : List (List Nat)) (C : List Nat) (ls : Array Bool) (env : Env) (st : St) (G : Gh) (a : Act) (w : World) : Prop where
  size : ls.size = L.length
  sub : ∀ i, ls[i]? = some true → i ∈ C
  clR : ∀ (i : Nat) (x : HIns × List Nat), ls[i]? = some true → L[i]? = some x → ∀ d ∈ x.2, ls[d]? = some true
  clC : ∀ (i : Nat) (x : HIns × List Nat), i ∈ C → L[i]? = some x → ∀ d ∈ x.2, d ∈ C
  bnd : ∀ i ∈ C, i < L.length
  loud : ∀ i ∈ C, loudI L T i = true → ls[i]? = some true
  pend : ∀ (i : Nat) (x : HIns × List Nat), i ∈ C → ls[i]? ≠ some true → L[i]? = some x → ∃ h, Still P fz env st x.1 h ∧ ∀ d, x.1.dst = some d → lk env d = some h
  rel : Rel P G st w
  asz : a.tmps.size = N
  dfr : a.defers = []
  get : ∀ t h, lk env t = some h → (∀ (i : Nat) (x : HIns × List Nat), i ∈ C → ls[i]? ≠ some true → L[i]? = some x → x.1.dst ≠ some t) → ∃ v, a.tmps[t]? = some v ∧ R G (.val v h)
def envR (L : DL) (C : List Nat) (ls : Array Bool) (env : Env) : Env :=
  env.filter fun p => !(C.any fun i => ls[i]? != some true && ((L[i]?).bind (·.1.dst)) == some p.1)
theorem lk_filter {f : Nat × HV → Bool} (hf : ∀ t h h', f (t, h) = f (t, h')) : ∀ {env : Env} {t : Nat} {h : HV}, (lk (env.filter f) t = some h → lk env t = some h ∧ f (t, h) = true) ∧ (f (t, h) = true → lk (env.filter f) t = lk env t)
  | [], t, h => ⟨fun e => by simp [lk] at e, fun _ => rfl⟩
  | (m, v) :: r, t, h => by
    obtain ⟨i1, i2⟩ := lk_filter hf (env := r) (t := t) (h := h)
    by_cases e : m = t
    · subst e
      rw [List.filter_cons]
      by_cases hfv : f (m, v) = true
      · rw [if_pos hfv]
        simp only [lk, if_true]
        exact ⟨fun hh => by cases hh; exact ⟨rfl, hfv⟩, by simp⟩
      · rw [if_neg hfv]
        refine ⟨fun hh => ?_, fun hh => ?_⟩
        · have := (i1 hh).2
          rw [hf m h v] at this
          exact absurd this hfv
        · rw [hf m h v] at hh
          exact absurd hh hfv
    · rw [List.filter_cons]
      split
      · simp only [lk, if_neg e]; exact ⟨i1, i2⟩
      · simp only [lk, if_neg e]; exact ⟨i1, i2⟩
theorem envR_f {C : List Nat} {ls : Array Bool} {t : Nat} : (!(C.any fun i => ls[i]? != some true && ((L[i]?).bind (·.1.dst)) == some t)) = true ↔ ∀ i x, i ∈ C → ls[i]? ≠ some true → L[i]? = some x → x.1.dst ≠ some t := by
  simp only [Bool.not_eq_true', List.any_eq_false, Bool.and_eq_true, bne_iff_ne, beq_iff_eq, not_and]
  constructor
  · intro h i x hi hl hx hd
    exact h i hi hl (by simp [hx, hd])
  · intro h i hi hl hb
    simp only [Option.bind_eq_some_iff] at hb
    obtain ⟨x, hx, hd⟩ := hb
    exact h i x hi hl hx hd
theorem Inv.env {C : List Nat} {ls : Array Bool} {env : Env} {st : St} {G : Gh} {a : Act} {w : World} (h : Inv P N fz L T C ls env st G a w) : REnv N G a (envR L C ls env) :=
  ⟨h.asz, h.dfr, fun t x hx => by
    obtain ⟨h1, h2⟩ := (lk_filter (fun _ _ _ => rfl) (env := env) (t := t) (h := x)).1 hx
    exact h.get t x h1 (envR_f.1 h2)⟩
theorem Inv.reads {C : List Nat} {ls : Array Bool} {env : Env} {st : St} {G : Gh} {a : Act} {w : World} (hok : okDL L T = true) (h : Inv P N fz L T C ls env st G a w) {i : Nat} {x : HIns × List Nat} (hx : L[i]? = some x)
    (hd : ∀ d ∈ x.2, ls[d]? = some true) : ∀ t ∈ x.1.reads, lk env t = lk (envR L C ls env) t := by
  intro t ht
  refine ((lk_filter (fun _ _ _ => rfl) (env := env) (t := t) (h := .nilp)).2 (envR_f.2 fun j y hj hl hy hdy => ?_)).symm
  by_cases hT : j ∈ T.getD i []
  · exact hl (T_sub hok (S := fun j => ls[j]? = some true) (fun i x hi hx => h.clR i x hi hx) i x hx hd j hT)
  · exact hl (h.loud j hj (loudI_of hok hy hx hdy ht hT))
theorem set_true {ls : Array Bool} {i j : Nat} (hi : i < ls.size) : (ls.setIfInBounds i true)[j]? = some true ↔ j = i ∨ ls[j]? = some true := by
  rw [Array.getElem?_setIfInBounds]
  by_cases e : i = j
  · subst e; simp [hi]
  · rw [if_neg e]
    constructor
    · exact .inr
    · rintro (h | h)
      · exact absurd h.symm e
      · exact h
theorem lk_put_ne {env : Env} {d : Option Nat} {h : HV} {t : Nat} (hd : d ≠ some t) : lk (putE env d h) t = lk env t := by
  cases d with
  | none => rfl
  | some m => simp only [putE, lk]; rw [if_neg (by rintro rfl; exact hd rfl)]
theorem put_get {a : Act} {d : Option Nat} {v : Value} {t : Nat} (hd : d ≠ some t) : (a.put d v).tmps[t]? = a.tmps[t]? := by
  cases d with
  | none => rfl
  | some m =>
    simp only [Act.put]
    rw [Array.getElem?_setIfInBounds, if_neg (by rintro rfl; exact hd rfl)]
theorem Inv.look {C : List Nat} {ls : Array Bool} {env : Env} {st : St} {G : Gh} {a : Act} {w : World} (hok : okDL L T = true) (h : Inv P N fz L T C ls env st G a w) {i : Nat} {x : HIns × List Nat} (hx : L[i]? = some x)
    (hi : i ∉ C) (hq : loudI L T i = false) (hd : ∀ d ∈ x.2, d ∈ C) {v : HV} (hv : eff fz env st x.1 = some v) : Inv P N fz L T (i :: C) ls (putE env x.1.dst v) st G a w := by
  have hnl : ls[i]? ≠ some true := fun e => hi (h.sub i e)
  have keep : ∀ j y, L[j]? = some y → (j = i ∨ j ∈ C) → ∀ t ∈ y.1.reads, lk (putE env x.1.dst v) t = lk env t := by
    intro j y hy hj t ht
    refine lk_put_ne fun e => ?_
    have hTj : i ∈ T.getD j [] := by
      refine Classical.byContradiction fun hT => ?_
      have := loudI_of hok hx hy e ht hT
      rw [hq] at this
      cases this
    rcases hj with rfl | hj
    · have := T_lt hok hy _ hTj; omega
    · exact hi (T_sub hok (S := fun j => j ∈ C) (fun i x hi hx => h.clC i x hi hx) j y hy (h.clC j y hj hy) i hTj)
  refine ⟨h.size, fun j hj => List.mem_cons_of_mem _ (h.sub j hj), h.clR, ?_, ?_, ?_, ?_, h.rel, h.asz, h.dfr, ?_⟩
  · intro j y hj hy d hd'
    rcases List.mem_cons.1 hj with rfl | hj
    · rw [hx] at hy; cases hy; exact List.mem_cons_of_mem _ (hd d hd')
    · exact List.mem_cons_of_mem _ (h.clC j y hj hy d hd')
  · intro j hj
    rcases List.mem_cons.1 hj with rfl | hj
    · exact get_lt hx
    · exact h.bnd j hj
  · intro j hj hl
    rcases List.mem_cons.1 hj with rfl | hj
    · rw [hq] at hl; cases hl
    · exact h.loud j hj hl
  · intro j y hj hl hy
    rcases List.mem_cons.1 hj with rfl | hj
    · rw [hx] at hy
      cases hy
      refine ⟨v, fun k hk => ?_, fun d hd' => ?_⟩
      · rw [vcIns_congr (env' := env) (keep _ _ hx (.inl rfl))]
        exact eff_still hv k hk
      · simp [hd', putE, lk]
    · obtain ⟨u, h1, h2⟩ := h.pend j y hj hl hy
      refine ⟨u, fun k hk => ?_, fun d hd' => ?_⟩
      · rw [vcIns_congr (env' := env) (keep _ _ hy (.inr hj))]
        exact h1 k hk
      · rw [lk_put_ne]
        · exact h2 d hd'
        · intro e
          have := (okDL_at hok hy).2.2 d hd' i x hx e
          subst this
          exact hi hj
  · intro t u hu hn
    have hne : x.1.dst ≠ some t := hn i x (by simp) hnl hx
    rw [lk_put_ne hne] at hu
    exact h.get t u hu fun j y hj hl hy => hn j y (List.mem_cons_of_mem _ hj) hl hy
theorem Inv.did {C : List Nat} {ls : Array Bool} {env : Env} {st : St} {G G' : Gh} {a : Act} {w w' : World} (hok : okDL L T = true) (h : Inv P N fz L T C ls env st G a w) {i : Nat} {x : HIns × List Nat} (hx : L[i]? = some x)
    (hi : i ∈ C) (hd : ∀ d ∈ x.2, ls[d]? = some true) {v : HV} {u : Value} (hv : ∀ d, x.1.dst = some d → lk env d = some v) (hr : Rel P G' st w') (hR : R G' (.val u v)) (hs : Step G w G' w') (hN : ∀ d, x.1.dst = some d → d < N) :
    Inv P N fz L T C (ls.setIfInBounds i true) env st G' (a.put x.1.dst u) w' := by
  have hsz : i < ls.size := by rw [h.size]; exact get_lt hx
  refine ⟨by simpa using h.size, ?_, ?_, h.clC, h.bnd, ?_, ?_, hr, ?_, ?_, ?_⟩
  · intro j hj
    rcases (set_true hsz).1 hj with rfl | hj
    · exact hi
    · exact h.sub j hj
  · intro j y hj hy d hd'
    rcases (set_true hsz).1 hj with rfl | hj
    · rw [hx] at hy; cases hy; exact (set_true hsz).2 (.inr (hd d hd'))
    · exact (set_true hsz).2 (.inr (h.clR j y hj hy d hd'))
  · intro j hj hl
    exact (set_true hsz).2 (.inr (h.loud j hj hl))
  · intro j y hj hl hy
    exact h.pend j y hj (fun e => hl ((set_true hsz).2 (.inr e))) hy
  · rw [← h.asz]
    cases x.1.dst <;> simp [Act.put]
  · rw [← h.dfr]
    cases x.1.dst <;> rfl
  · intro t b hb hn
    by_cases e : x.1.dst = some t
    · have := hv t e
      rw [hb] at this
      cases this
      refine ⟨u, ?_, hR⟩
      rw [e]
      simp only [Act.put]
      rw [Array.getElem?_setIfInBounds, if_pos rfl, if_pos (by rw [h.asz]; exact hN t e)]
    · rw [put_get e]
      obtain ⟨c, c1, c2⟩ := h.get t b hb fun j y hj hl hy => by
        by_cases ej : j = i
        · subst ej; rw [hx] at hy; cases hy; exact e
        · refine hn j y hj (fun e' => ?_) hy
          rcases (set_true hsz).1 e' with e' | e'
          · exact ej e'
          · exact hl e'
      exact ⟨c, c1, c2.mono hs⟩
theorem insAt_eq {i : Nat} {x : HIns × List Nat} (hx : L[i]? = some x) : insAt L i = x.1 := by simp [insAt, hx]
theorem chkAll_mem {env : Env} {st : St} : ∀ {l : List HIns}, chkAll fz env st l → ∀ i ∈ l, match i.dst with
    | some d => eff fz env st i = lk env d
    | none => ∃ h, eff fz env st i = some h
  | x :: l, h, i, hi => by
    rcases List.mem_cons.1 hi with rfl | hi
    · exact h.1
    · exact chkAll_mem h.2 i hi
theorem Inv.shout {C : List Nat} {ls : Array Bool} {env : Env} {st st' : St} {G G' : Gh} {a : Act} {w w' : World} (hok : okDL L T = true) (h : Inv P N fz L T C ls env st G a w) {i : Nat} {x : HIns × List Nat} (hx : L[i]? = some x)
    (hi : i ∉ C) (hd : ∀ d ∈ x.2, ls[d]? = some true) {v : HV} {u : Value} (hc : chkAll fz (putE env x.1.dst v) st' (chkOf L T C i)) (hr : Rel P G' st' w') (hR : R G' (.val u v)) (hs : Step G w G' w') (hN : ∀ d, x.1.dst = some d → d < N) :
    Inv P N fz L T (i :: C) (ls.setIfInBounds i true) (putE env x.1.dst v) st' G' (a.put x.1.dst u) w' := by
  have hsz : i < ls.size := by rw [h.size]; exact get_lt hx
  refine ⟨by simpa using h.size, ?_, ?_, ?_, ?_, ?_, ?_, hr, ?_, ?_, ?_⟩
  · intro j hj
    rcases (set_true hsz).1 hj with rfl | hj
    · simp
    · exact List.mem_cons_of_mem _ (h.sub j hj)
  · intro j y hj hy d hd'
    rcases (set_true hsz).1 hj with rfl | hj
    · rw [hx] at hy; cases hy; exact (set_true hsz).2 (.inr (hd d hd'))
    · exact (set_true hsz).2 (.inr (h.clR j y hj hy d hd'))
  · intro j y hj hy d hd'
    rcases List.mem_cons.1 hj with rfl | hj
    · rw [hx] at hy; cases hy; exact List.mem_cons_of_mem _ (h.sub d (hd d hd'))
    · exact List.mem_cons_of_mem _ (h.clC j y hj hy d hd')
  · intro j hj
    rcases List.mem_cons.1 hj with rfl | hj
    · exact get_lt hx
    · exact h.bnd j hj
  · intro j hj hl
    rcases List.mem_cons.1 hj with rfl | hj
    · exact (set_true hsz).2 (.inl rfl)
    · exact (set_true hsz).2 (.inr (h.loud j hj hl))
  · intro j y hj hl hy
    have hji : j ≠ i := fun e => hl ((set_true hsz).2 (.inl e))
    have hl' : ls[j]? ≠ some true := fun e => hl ((set_true hsz).2 (.inr e))
    have hj' : j ∈ C := by
      rcases List.mem_cons.1 hj with e | hj
      · exact absurd e hji
      · exact hj
    have hq : loudI L T j = false := by
      cases hh : loudI L T j with
      | false => rfl
      | true => exact absurd (h.loud j hj' hh) hl'
    have hT : j ∉ T.getD i [] := fun hT => hl' (T_sub hok (S := fun j => ls[j]? = some true) (fun i x hi hx => h.clR i x hi hx) i x hx hd j hT)
    have hm : y.1 ∈ chkOf L T C i := by
      unfold chkOf
      refine List.mem_map.2 ⟨j, List.mem_filter.2 ⟨hj', ?_⟩, insAt_eq hy⟩
      simp only [hq, Bool.not_false, Bool.true_and, Bool.not_eq_true', List.contains_eq_mem, decide_eq_false_iff_not]
      exact hT
    have := chkAll_mem hc _ hm
    obtain ⟨b, _, hb⟩ := h.pend j y hj' hl' hy
    split at this
    · rename_i d hdd
      have hb' := hb d hdd
      have hne : x.1.dst ≠ some d := fun e => hji ((okDL_at hok hx).2.2 d e j y hy hdd)
      rw [lk_put_ne hne, hb'] at this
      refine ⟨b, eff_still this, fun d' hd' => ?_⟩
      rw [hdd] at hd'
      cases hd'
      rw [lk_put_ne hne, hb']
    · rename_i hdd
      obtain ⟨b', hb'⟩ := this
      exact ⟨b', eff_still hb', fun d' hd' => by rw [hdd] at hd'; cases hd'⟩
  · rw [← h.asz]
    cases x.1.dst <;> simp [Act.put]
  · rw [← h.dfr]
    cases x.1.dst <;> rfl
  · intro t b hb hn
    by_cases e : x.1.dst = some t
    · rw [e] at hb
      simp [putE, lk] at hb
      subst hb
      refine ⟨u, ?_, hR⟩
      rw [e]
      simp only [Act.put]
      rw [Array.getElem?_setIfInBounds, if_pos rfl, if_pos (by rw [h.asz]; exact hN t e)]
    · rw [put_get e]
      rw [lk_put_ne e] at hb
      obtain ⟨c, c1, c2⟩ := h.get t b hb fun j y hj hl hy => hn j y (List.mem_cons_of_mem _ hj) (fun e' => by
          rcases (set_true hsz).1 e' with e' | e'
          · subst e'; exact absurd hj hi
          · exact hl e') hy
      exact ⟨c, c1, c2.mono hs⟩
theorem readyD_mem {C : List Nat} {i : Nat} : i ∈ readyD L C ↔ ∃ x, L[i]? = some x ∧ i ∉ C ∧ ∀ d ∈ x.2, d ∈ C := by
  unfold readyD
  rw [List.mem_filter, List.mem_range]
  constructor
  · rintro ⟨h1, h2⟩
    rw [List.getElem?_eq_getElem h1] at h2 ⊢
    exact ⟨_, rfl, by simpa using h2⟩
  · rintro ⟨x, h1, h2, h3⟩
    rw [h1]
    exact ⟨get_lt h1, by simpa using ⟨h2, h3⟩⟩
theorem normalize (hok : okDL L T = true) {ls : Array Bool} {st : St} {G : Gh} {a : Act} {w : World} {Q : Env → St → Prop} : ∀ (m : Nat) (C : List Nat) (p : DPlan) (env : Env),
    mkplan L T m C = some p → dvc P fz p env st Q → Inv P N fz L T C ls env st G a w →
    ∃ C' env', Inv P N fz L T C' ls env' st G a w ∧
      (((List.range L.length).all C'.contains = true ∧ Q env' st) ∨ ((List.range L.length).all C'.contains = false ∧ (∀ i ∈ readyD L C', loudI L T i = true) ∧ ∃ m' p', altsOf L T C' (fun i => mkplan L T m' (i :: C')) (readyD L C') = some p' ∧ dvc P fz p' env' st Q)) := by
  intro m
  induction m with
  | zero =>
    intro C p env hm hd hI
    unfold mkplan at hm
    split at hm
    · rename_i hall
      cases hm
      exact ⟨C, env, hI, .inl ⟨hall, hd⟩⟩
    · cases hm
  | succ m ih =>
    intro C p env hm hd hI
    unfold mkplan at hm
    split at hm
    · rename_i hall
      cases hm
      exact ⟨C, env, hI, .inl ⟨hall, hd⟩⟩
    · rename_i hall
      split at hm
      · rename_i i hf
        simp only [Option.map_eq_some_iff] at hm
        obtain ⟨q, hq, rfl⟩ := hm
        obtain ⟨v, hv, hd⟩ := hd
        have hmem := List.mem_of_find?_eq_some hf
        have hloud := List.find?_some hf
        obtain ⟨x, hx, h1, h2⟩ := readyD_mem.1 hmem
        rw [insAt_eq hx] at hv hd
        exact ih _ q _ hq hd (hI.look hok hx h1 (by simpa using hloud) h2 hv)
      · rename_i hf
        refine ⟨C, env, hI, .inr ⟨by simpa using hall, fun i hi => ?_, m, p, hm, hd⟩⟩
        have := List.find?_eq_none.1 hf i hi
        simpa using this
theorem alts_mem {C : List Nat} {f : Nat → Option DPlan} {env : Env} {st : St} {Q : Env → St → Prop} : ∀ {l : List Nat} {p : DPlan}, altsOf L T C f l = some p → dvc P fz p env st Q → ∀ i ∈ l,
    ∃ r, f i = some r ∧ vcIns P fz env st (insAt L i) fun h st' => chkAll fz (putE env (insAt L i).dst h) st' (chkOf L T C i) ∧ dvc P fz r (putE env (insAt L i).dst h) st' Q
  | j :: l, p, hp, hd, i, hi => by
    simp only [altsOf, Option.bind_eq_some_iff, Option.map_eq_some_iff] at hp
    obtain ⟨r, h1, m, h2, rfl⟩ := hp
    rcases List.mem_cons.1 hi with rfl | hi
    · exact ⟨r, h1, hd.1⟩
    · exact alts_mem h2 hd.2 i hi
def left (ls : Array Bool) : Nat := ((List.range ls.size).filter fun i => ls[i]? != some true).length
theorem left_set {ls : Array Bool} {i : Nat} (hi : i < ls.size) (hn : ls[i]? ≠ some true) : left (ls.setIfInBounds i true) < left ls := by
  unfold left
  rw [Array.size_setIfInBounds]
  have hsub : ∀ l : List Nat, i ∈ l → ((l.filter fun j => (ls.setIfInBounds i true)[j]? != some true).length < (l.filter fun j => ls[j]? != some true).length) := by
    have hle : ∀ l : List Nat, ((l.filter fun j => (ls.setIfInBounds i true)[j]? != some true).length ≤ (l.filter fun j => ls[j]? != some true).length) := by
      intro l
      induction l with
      | nil => simp
      | cons x l ih =>
        rw [List.filter_cons, List.filter_cons]
        by_cases hx : ls[x]? = some true
        · have : (ls.setIfInBounds i true)[x]? = some true := (set_true hi).2 (.inr hx)
          simp only [this, hx, bne_self_eq_false, Bool.false_eq_true, if_false]
          exact ih
        · have hb : (ls[x]? != some true) = true := by simpa using hx
          simp only [hb, if_true]
          split
          · simpa using ih
          · simp only [List.length_cons]; omega
    intro l
    induction l with
    | nil => intro h; cases h
    | cons x l ih =>
      intro hm
      rw [List.filter_cons, List.filter_cons]
      by_cases e : x = i
      · subst e
        have : (ls.setIfInBounds x true)[x]? = some true := (set_true hi).2 (.inl rfl)
        rw [if_neg (by simp [this]), if_pos (by simpa using hn)]
        have := hle l
        simp only [List.length_cons]
        omega
      · have hm' : i ∈ l := by
          rcases List.mem_cons.1 hm with h | h
          · exact absurd h.symm e
          · exact h
        have := ih hm'
        have heq : (ls.setIfInBounds i true)[x]? = ls[x]? := by rw [Array.getElem?_setIfInBounds, if_neg (fun h => e h.symm)]
        rw [heq]
        split
        · simpa using this
        · exact this
  exact hsub _ (List.mem_range.2 hi)
theorem ready_mem (hreg : Reg P N ops L) {ls : Array Bool} (hs : ls.size = L.length) {i : Nat} : i ∈ Region.ready .any ops ls ↔ ∃ x, L[i]? = some x ∧ ls[i]? ≠ some true ∧ ∀ d ∈ x.2, ls[d]? = some true := by
  have gt : ∀ {d : Nat}, ls.getD d false = true ↔ ls[d]? = some true := by
    intro d
    rw [Array.getD_eq_getD_getElem?]
    cases h : ls[d]? with
    | none => simp
    | some b => cases b <;> simp
  have gf : ∀ {d : Nat}, d < L.length → (ls.getD d true = false ↔ ls[d]? ≠ some true) := by
    intro d hd
    rw [Array.getD_eq_getD_getElem?, Array.getElem?_eq_getElem (by omega)]
    cases ls[d] <;> simp
  have hdeps : ∀ o x, L[i]? = some x → x.2 = (o.after.toList.filter (Region.binds .any)).map Edge.on → ((o : Oper).after.all (fun e => !Region.binds .any e || ls.getD e.on false) = true ↔ ∀ d ∈ x.2, ls[d]? = some true) := by
    intro o x hx e
    rw [e, Array.all_eq_true']
    simp only [List.mem_map, List.mem_filter, Array.mem_toList_iff]
    constructor
    · rintro h d ⟨g, ⟨h1, h2⟩, rfl⟩
      have := h g h1
      rw [h2] at this
      exact gt.1 (by simpa using this)
    · intro h g hg
      by_cases hb : Region.binds .any g = true
      · rw [hb]
        simpa using gt.2 (h g.on ⟨g, ⟨hg, hb⟩, rfl⟩)
      · simp [hb]
  unfold Region.ready
  rw [List.mem_filter, List.mem_range]
  constructor
  · rintro ⟨h1, h2⟩
    obtain ⟨x, hx, _, hd⟩ := hreg.get i _ (Array.getElem?_eq_getElem h1)
    rw [Array.getElem?_eq_getElem h1] at h2
    simp only [Option.map_some, Option.getD_some, Bool.and_eq_true, Bool.not_eq_true'] at h2
    exact ⟨x, hx, (gf (get_lt hx)).1 h2.1, (hdeps _ x hx hd).1 h2.2⟩
  · rintro ⟨x, hx, h2, h3⟩
    have hlt : i < ops.size := by rw [← hreg.len]; exact get_lt hx
    obtain ⟨x', hx', _, hd⟩ := hreg.get i _ (Array.getElem?_eq_getElem hlt)
    rw [hx] at hx'
    cases hx'
    refine ⟨hlt, ?_⟩
    rw [Array.getElem?_eq_getElem hlt]
    simp only [Option.map_some, Option.getD_some, Bool.and_eq_true, Bool.not_eq_true']
    exact ⟨(gf (get_lt hx)).2 h2, (hdeps _ x hx hd).2 h3⟩
theorem none_ready (hok : okDL L T = true) (hreg : Reg P N ops L) {ls : Array Bool} (hs : ls.size = L.length) (h : Region.ready .any ops ls = []) : ∀ i, i < L.length → ls[i]? = some true := by
  intro i
  induction i using Nat.strongRecOn with
  | ind i ih =>
    intro hi
    refine Classical.byContradiction fun hn => ?_
    have hx : L[i]? = some L[i] := List.getElem?_eq_getElem hi
    have : i ∈ Region.ready .any ops ls := (ready_mem hreg hs).2 ⟨_, hx, hn, fun d hd => by
      have := (okDL_at hok hx).1 d hd
      exact ih d this (by omega)⟩
    rw [h] at this
    cases this
theorem dreg_main (hok : okDL L T = true) (hreg : Reg P N ops L) {Q : Env → St → Prop} {Q' : Exit → Act → World → Prop} {G0 : Gh} {w0 : World}
    (hQ : ∀ env' st' G' a' w', Q env' st' → Rel P G' st' w' → REnv N G' a' env' → Step G0 w0 G' w' → Q' .normal a' w') :
    ∀ (n m : Nat) (C : List Nat) (p : DPlan) (env : Env) (st : St) (G : Gh) (a : Act) (w : World) (ls : Array Bool),
      mkplan L T m C = some p → dvc P fz p env st Q → Inv P N fz L T C ls env st G a w → Step G0 w0 G w → left ls ≤ n → wpAny P .any ops Q' n ls a w := by
  intro n
  induction n with
  | zero =>
    intro m C p env st G a w ls hm hd hI hst hl
    obtain ⟨C', env', hI', hcase⟩ := normalize hok m C p env hm hd hI
    have hall : ∀ i, i < L.length → ls[i]? = some true := by
      intro i hi
      refine Classical.byContradiction fun hn => ?_
      have : i ∈ (List.range ls.size).filter fun i => ls[i]? != some true := List.mem_filter.2 ⟨List.mem_range.2 (by rw [hI.size]; exact hi), by simpa using hn⟩
      have := List.length_pos_of_mem this
      unfold left at hl
      omega
    have hnil : Region.ready .any ops ls = [] := by
      refine List.eq_nil_iff_forall_not_mem.2 fun i hi => ?_
      obtain ⟨x, hx, h1, _⟩ := (ready_mem hreg hI.size).1 hi
      exact h1 (hall i (get_lt hx))
    refine ⟨hnil, ?_⟩
    rcases hcase with ⟨_, hq⟩ | ⟨hna, _⟩
    · exact hQ _ _ _ _ _ hq hI'.rel ⟨hI'.asz, hI'.dfr, fun t h ht => hI'.get t h ht fun i x hi hl hx => absurd (hall i (hI'.bnd i hi)) hl⟩ hst
    · have : (List.range L.length).all C'.contains = true := List.all_eq_true.2 fun i hi => by simpa using hI'.sub i (hall i (List.mem_range.1 hi))
      rw [hna] at this
      cases this
  | succ n ih =>
    intro m C p env st G a w ls hm hd hI hst hl
    obtain ⟨C', env', hI', hcase⟩ := normalize hok m C p env hm hd hI
    refine ⟨fun hnil => ?_, fun i hi => ?_⟩
    · have hall := none_ready hok hreg hI.size hnil
      rcases hcase with ⟨_, hq⟩ | ⟨hna, _⟩
      · exact hQ _ _ _ _ _ hq hI'.rel ⟨hI'.asz, hI'.dfr, fun t h ht => hI'.get t h ht fun i x hi hl hx => absurd (hall i (hI'.bnd i hi)) hl⟩ hst
      · have : (List.range L.length).all C'.contains = true := List.all_eq_true.2 fun i hi => by simpa using hI'.sub i (hall i (List.mem_range.1 hi))
        rw [hna] at this
        cases this
    · obtain ⟨x, hx, hnl, hdeps⟩ := (ready_mem hreg hI.size).1 hi
      have hlt : i < ops.size := by rw [← hreg.len]; exact get_lt hx
      have hils : i < ls.size := by rw [hI.size]; exact get_lt hx
      obtain ⟨x', hx', hstrip, _⟩ := hreg.get i _ (Array.getElem?_eq_getElem hlt)
      rw [hx] at hx'
      cases hx'
      have hN : ∀ d, x.1.dst = some d → d < N := by
        obtain ⟨h1, h2, _⟩ := stripIns_spec hstrip
        intro d hd
        exact h1 d (by rw [← h2]; exact hd)
      have hlt' := left_set hils hnl
      by_cases hiC : i ∈ C'
      · -- it was looked at beforehand
        obtain ⟨v, hv1, hv2⟩ := hI'.pend i x hiC hnl hx
        have hv := hv1 (fun h' st' => h' = v ∧ st' = st) ⟨rfl, rfl⟩
        rw [vcIns_congr (hI'.reads hok hx hdeps)] at hv
        refine wpOp_sound (Array.getElem?_eq_getElem hlt) hstrip hv hI'.rel hI'.env fun u w' ⟨h', G', st', ⟨e1, e2⟩, r1, r2, r3⟩ => ?_
        subst e1 e2
        have hI2 := hI'.did hok hx hiC hdeps hv2 r1 r2 r3 hN
        rcases hcase with ⟨hall, hq⟩ | ⟨hna, _, m', p', hp', hdv⟩
        · exact ih 0 C' .done env' _ G' _ w' _ (by unfold mkplan; rw [if_pos hall]) hq hI2 (hst.trans r3) (by omega)
        · refine ih (m' + 1) C' p' env' _ G' _ w' _ ?_ hdv hI2 (hst.trans r3) (by omega)
          unfold mkplan
          rw [if_neg (by simp [hna])]
          have : (readyD L C').find? (fun i => !loudI L T i) = none := List.find?_eq_none.2 fun j hj => by
            rcases hcase' : loudI L T j with _ | _
            · rename_i hloud _
              have := (‹∀ i ∈ readyD L C', loudI L T i = true›) j hj
              rw [hcase'] at this
              cases this
            · simp
          rw [this]
          exact hp'
      · rcases hcase with ⟨hall, _⟩ | ⟨hna, hloud, m', p', hp', hdv⟩
        · exact absurd (by simpa using List.all_eq_true.1 hall i (List.mem_range.2 (get_lt hx))) hiC
        · have hrd : i ∈ readyD L C' := readyD_mem.2 ⟨x, hx, hiC, fun d hd => hI'.sub d (hdeps d hd)⟩
          obtain ⟨r, hr1, hr2⟩ := alts_mem hp' hdv i hrd
          rw [insAt_eq hx, vcIns_congr (hI'.reads hok hx hdeps)] at hr2
          refine wpOp_sound (Array.getElem?_eq_getElem hlt) hstrip hr2 hI'.rel hI'.env fun u w' ⟨h', G', st', ⟨e1, e2⟩, r1, r2, r3⟩ => ?_
          exact ih m' (i :: C') r _ st' G' _ w' _ hr1 e2 (hI'.shout hok hx hiC hdeps e1 r1 r2 r3 hN) (hst.trans r3) (by omega)
theorem mapM_gets {α β : Type} {f : α → Option β} : ∀ {l : List α} {r : List β}, l.mapM f = some r → l.length = r.length ∧ ∀ (i : Nat) (x : α), l[i]? = some x → ∃ y, r[i]? = some y ∧ f x = some y
  | [], r, h => by simp at h; subst h; exact ⟨rfl, by simp⟩
  | a :: l, r, h => by
    simp only [List.mapM_cons, Option.pure_def, Option.bind_eq_bind, Option.bind_eq_some_iff] at h
    obtain ⟨b, h1, bs, h2, h⟩ := h
    cases h
    obtain ⟨i1, i2⟩ := mapM_gets h2
    refine ⟨by simp [i1], fun i x hx => ?_⟩
    cases i with
    | zero => simp at hx; subst hx; exact ⟨b, rfl, h1⟩
    | succ i => simpa using i2 i x (by simpa using hx)
theorem reg_of (h : (ops.toList.mapM fun o => (stripIns P N ops o).map fun i => (i, (o.after.toList.filter (Region.binds .any)).map Edge.on)) = some L) : Reg P N ops L := by
  obtain ⟨h1, h2⟩ := mapM_gets h
  refine ⟨by rw [← h1]; simp, fun i o ho => ?_⟩
  obtain ⟨y, hy, hf⟩ := h2 i o (by simpa using ho)
  simp only [Option.map_eq_some_iff] at hf
  obtain ⟨ins, e1, rfl⟩ := hf
  exact ⟨_, hy, e1, rfl⟩
theorem Rel.drew {P : Program} {G : Gh} {st : St} {w : World} (h : Rel P G st w) : Rel P G st { w with drawn := w.drawn + 1 } :=
  ⟨h.len, h.kc, fun id info o hi ho => ⟨(h.obj id info o hi ho).1, fun l m hl => let r := (h.obj id info o hi ho).2 l m hl; ⟨r.n, r.cap, r.lm, r.uni, r.flat, r.nil, r.row⟩⟩, h.dis, h.tab.of rfl (Nat.le_refl _) (fun _ _ _ => rfl) fun _ h => .inl h⟩
theorem Step.drew (G : Gh) (w : World) : Step G w G { w with drawn := w.drawn + 1 } where
  bs := rfl
  k _ _ _ h := h
  kn _ _ _ h := .inl h
  s _ info h := ⟨info, h, Nat.le_refl _, rfl, fun _ => rfl⟩
  os := rfl
  tape := rfl
  output := rfl
  size := Nat.le_refl _
  heap _ _ _ := rfl
  new _ h := .inl h
theorem Inv.start (hreg : Reg P N ops L) {env : Env} {st : St} {G : Gh} {a : Act} {w : World} (hr : Rel P G st w) (he : REnv N G a env) : Inv P N fz L T [] (Array.replicate ops.size false) env st G a w := by
  have hno : ∀ i : Nat, (Array.replicate ops.size false)[i]? ≠ some true := by
    intro i h
    rw [Array.getElem?_replicate] at h
    split at h <;> simp at h
  exact ⟨by simp [hreg.len], fun i h => absurd h (hno i), fun i x h => absurd h (hno i), (fun i x h => by cases h), (fun i h => by cases h), (fun i h => by cases h), (fun i x h => by cases h), hr, he.size, he.defers, fun t h ht _ => he.get t h ht⟩
end
end HL
