/- HL: code, loops, functions; calls in a store of their own. -/
import Derived.Test.YtamneeogomklgaaGreatHLDreg
import Derived.Deep.LoopGhost
set_option linter.unusedSimpArgs false
set_option linter.unusedVariables false
set_option linter.unusedSectionVars false
namespace HL
open Go
inductive HExit where
  | normal
  | exit (id : Nat)
  | ret
def HExit.low : HExit → Exit
  | .normal => .normal
  | .exit id => .exit id
  | .ret => .ret
def vcOps (P : Program) (fz : Bool) : List HIns → Env → St → (Env → St → Prop) → Prop
  | [], env, st, k => k env st
  | i :: is, env, st, k => match i.guard with
    | none => vcOp P fz env st i.op fun h st' => vcOps P fz is (putE env i.dst h) st' k
    | some (s, b) => match lk env s with
      | some (.bool t) => (t = b → vcOp P fz env st i.op fun h st' => vcOps P fz is (putE env i.dst h) st' k) ∧ (t = (!b) → vcOps P fz is (putE env i.dst undefH) st k)
      | some (.tup []) => vcOps P fz is (putE env i.dst undefH) st k
      | _ => False
def Sem (P : Program) (N : Nat) (hc : HCode) (env : Env) (st : St) (Q : HExit → Env → St → Prop) : Prop :=
  ∀ code, strip P N code = some hc → ∀ G w a (Q' : Exit → Act → World → Prop), Rel P G st w → REnv N G a env →
    (∀ e env' st' G' a' w', Q e env' st' → Rel P G' st' w' → REnv N G' a' env' → Step G w G' w' → Q' e.low a' w') → code.wp P Q' a w
def vc (P : Program) (fz : Bool) (N : Nat) : HCode → Env → St → (HExit → Env → St → Prop) → Prop
  | .skip, env, st, Q => Q .normal env st
  | .reg ops, env, st, Q => vcOps P fz ops env st (Q .normal)
  | .dreg p, env, st, Q => dvc P fz p env st (Q .normal)
  | .seq a b, env, st, Q => vc P fz N a env st fun e env' st' => match e with
    | .normal => vc P fz N b env' st' Q
    | .exit id => Q (.exit id) env' st'
    | .ret => Q .ret env' st'
  | .cond c a b, env, st, Q => match ev env c with
    | some (.bool t) => (t = true → vc P fz N a env st Q) ∧ (t = false → vc P fz N b env st Q)
    | _ => False
  | .block id c, env, st, Q => vc P fz N c env st fun e env' st' => match e with
    | .normal => Q .normal env' st'
    | .exit i => if i = id then Q .normal env' st' else Q (.exit i) env' st'
    | .ret => Q .ret env' st'
  | .loop c, env, st, Q => Sem P N (.loop c) env st Q
  | .exit id, env, st, Q => Q (.exit id) env st
  | .ret, env, st, Q => Q .ret env st
section
variable {P : Program} {N : Nat} {fz : Bool}
theorem vcOps_sound {ops : Array Oper} {Q' : Exit → Act → World → Prop} : ∀ {l : List Oper} {is : List HIns} {env : Env} {st : St} {k : Env → St → Prop} {G : Gh} {a : Act} {w : World},
    l.mapM (stripIns P N ops) = some is → vcOps P fz is env st k → Rel P G st w → REnv N G a env →
    (∀ env' st' G' a' w', k env' st' → Rel P G' st' w' → REnv N G' a' env' → Step G w G' w' → Q' .normal a' w') → wpList P ops Q' l a w
  | [], is, env, st, k, G, a, w, hs, hv, hr, he, hQ => by
    simp at hs
    subst hs
    exact wpList_nil (hQ env st G a w hv hr he (Step.refl _ _))
  | o :: l, is, env, st, k, G, a, w, hs, hv, hr, he, hQ => by
    simp only [List.mapM_cons, Option.pure_def, Option.bind_eq_bind, Option.bind_eq_some_iff] at hs
    obtain ⟨i, h1, is', h2, hs⟩ := hs
    cases hs
    obtain ⟨hd, hdst, hop, hg⟩ := stripIns_spec h1
    have next : ∀ {K : Act → World → Prop}, (∀ a w, wpList P ops Q' l a w → K a w) → ∀ v w', After P G w (fun h st' => vcOps P fz is' (putE env i.dst h) st' k) v w' → K (a.put o.dst v) w' := by
      intro K hK v w' ⟨h, G', st', hk, r1, r2, r3⟩
      refine hK _ _ (vcOps_sound h2 hk r1 (by rw [hdst]; exact (he.mono r3).put r2 hd) fun env' st'' G'' a' w'' q1 q2 q3 q4 => hQ _ _ _ _ _ q1 q2 q3 (r3.trans q4))
    have skip : ∀ {K : Act → World → Prop}, (∀ a w, wpList P ops Q' l a w → K a w) → vcOps P fz is' (putE env i.dst undefH) st k → K (a.put o.dst undef) w := by
      intro K hK hk
      exact hK _ _ (vcOps_sound h2 hk hr (by rw [hdst]; exact he.put R_undef hd) hQ)
    refine wpList_step fun K hK => ?_
    simp only [vcOps] at hv
    rcases hg with ⟨g1, g2⟩ | ⟨j, b, s, g1, g2, g3⟩
    · rw [g2] at hv
      simp only at hv
      rw [if_pos (by simp [Region.wanted, g1])]
      exact vcOp_sound hop hv hr he (next hK)
    · rw [g2] at hv
      simp only at hv
      split at hv
      · rename_i t ht
        have hy := yielded_bool (ops := ops) he g3 ht
        by_cases e : t = b
        · rw [if_pos (by simp [Region.wanted, g1, hy, e])]
          exact vcOp_sound hop (hv.1 e) hr he (next hK)
        · rw [if_neg (by simp [Region.wanted, g1, hy, e])]
          exact skip hK (hv.2 (by cases t <;> cases b <;> simp_all))
      · rename_i ht
        have hy := yielded_undef (ops := ops) he g3 ht
        rw [if_neg (by simp [Region.wanted, g1, hy])]
        exact skip hK hv
      · exact hv.elim
theorem vc_sound_at : ∀ {code : Code} {hc : HCode} {env : Env} {st : St} {Q : HExit → Env → St → Prop}, strip P N code = some hc → vc P fz N hc env st Q →
    ∀ {G : Gh} {w : World} {a : Act} {Q' : Exit → Act → World → Prop}, Rel P G st w → REnv N G a env →
    (∀ e env' st' G' a' w', Q e env' st' → Rel P G' st' w' → REnv N G' a' env' → Step G w G' w' → Q' e.low a' w') → code.wp P Q' a w := by
  intro code
  induction code with
  | skip =>
    intro hc env st Q hs hv G w a Q' hr he hQ
    simp only [strip, Option.some.injEq] at hs
    subst hs
    exact wp_skip (hQ .normal _ _ _ _ _ hv hr he (Step.refl _ _))
  | region id ops draw =>
    intro hc env st Q hs hv G w a Q' hr he hQ
    cases draw with
    | false =>
      simp only [strip, Option.some.injEq] at hs
      subst hs
      cases h1 : ops.toList.mapM (stripIns P N ops) with
      | none =>
        rw [h1] at hv
        exact hv.elim
      | some is =>
        rw [h1] at hv
        exact wp_region_list (vcOps_sound h1 hv hr he fun env' st' G' a' w' q r1 r2 r3 => hQ .normal _ _ _ _ _ q r1 r2 r3)
    | true =>
      simp only [strip] at hs
      split at hs
      · rename_i hm
        simp only [Option.map_eq_some_iff, Option.bind_eq_some_iff] at hs
        obtain ⟨p, ⟨L, h1, h2⟩, rfl⟩ := hs
        unfold planOf at h2
        simp only at h2
        split at h2
        · rename_i hok
          have hreg := reg_of h1
          refine wp_region_any hm (dreg_main hok hreg (Q := Q .normal) (G0 := G) (w0 := w) (fun env' st' G' a' w' q r1 r2 r3 => hQ .normal _ _ _ _ _ q r1 r2 r3) ops.size L.length [] p env st G a _ _ h2 hv ?_ ?_ ?_)
          · exact Inv.start hreg hr.drew he
          · exact Step.drew G w
          · unfold left
            refine Nat.le_trans (List.length_filter_le _ _) ?_
            simp
        · cases h2
      · cases hs
  | seq x y ihx ihy =>
    intro hc env st Q hs hv G w a Q' hr he hQ
    simp only [strip, Option.bind_eq_bind, Option.bind_eq_some_iff, Option.pure_def] at hs
    obtain ⟨hx, h1, hy, h2, h⟩ := hs
    cases h
    refine wp_seq (ihx h1 hv hr he fun e env' st' G' a' w' q r1 r2 r3 => ?_)
    cases e with
    | normal => exact ihy h2 q r1 r2 fun e env'' st'' G'' a'' w'' q2 s1 s2 s3 => hQ _ _ _ _ _ _ q2 s1 s2 (r3.trans s3)
    | exit id => exact hQ _ _ _ _ _ _ q r1 r2 r3
    | ret => exact hQ _ _ _ _ _ _ q r1 r2 r3
  | cond c x y ihx ihy =>
    intro hc env st Q hs hv G w a Q' hr he hQ
    simp only [strip, Option.bind_eq_bind, Option.bind_eq_some_iff, Option.pure_def] at hs
    obtain ⟨ac, h0, hx, h1, hy, h2, h⟩ := hs
    cases h
    simp only [vc] at hv
    split at hv
    · rename_i t ht
      have hcv : a.eval c = .bool t := by
        have r := he.ev h0 ht
        cases hx' : a.eval c <;> rw [hx'] at r <;> cases r
        rfl
      cases t with
      | true => exact wp_cond_true hcv (ihx h1 (hv.1 rfl) hr he hQ)
      | false => exact wp_cond_false hcv (ihy h2 (hv.2 rfl) hr he hQ)
    · exact hv.elim
  | block id x ih =>
    intro hc env st Q hs hv G w a Q' hr he hQ
    simp only [strip, Option.map_eq_some_iff] at hs
    obtain ⟨hx, h1, rfl⟩ := hs
    refine wp_block (ih h1 hv hr he fun e env' st' G' a' w' q r1 r2 r3 => ?_)
    cases e with
    | normal => exact hQ .normal _ _ _ _ _ q r1 r2 r3
    | exit i =>
      simp only [HExit.low, Exit.inBlock]
      simp only at q
      split
      · rename_i e; rw [if_pos e] at q; exact hQ .normal _ _ _ _ _ q r1 r2 r3
      · rename_i e; rw [if_neg e] at q; exact hQ (.exit i) _ _ _ _ _ q r1 r2 r3
    | ret => exact hQ _ _ _ _ _ _ q r1 r2 r3
  | loop x ih =>
    intro hc env st Q hs hv G w a Q' hr he hQ
    have hs' := hs
    simp only [strip, Option.map_eq_some_iff] at hs
    obtain ⟨hx, h1, rfl⟩ := hs
    exact hv _ hs' G w a Q' hr he hQ
  | exit id =>
    intro hc env st Q hs hv G w a Q' hr he hQ
    simp only [strip, Option.some.injEq] at hs
    subst hs
    exact wp_exit (hQ (.exit id) _ _ _ _ _ hv hr he (Step.refl _ _))
  | ret =>
    intro hc env st Q hs hv G w a Q' hr he hQ
    simp only [strip, Option.some.injEq] at hs
    subst hs
    exact wp_ret (hQ .ret _ _ _ _ _ hv hr he (Step.refl _ _))
  | rangeFunc f ps x y _ _ => intro hc env st Q hs; simp [strip] at hs
  | scope x _ => intro hc env st Q hs; simp [strip] at hs
  | label l => intro hc env st Q hs; simp [strip] at hs
  | goto l => intro hc env st Q hs; simp [strip] at hs
  | refuse y => intro hc env st Q hs; simp [strip] at hs
theorem vc_sound {hc : HCode} {env : Env} {st : St} {Q : HExit → Env → St → Prop} (h : vc P fz N hc env st Q) : Sem P N hc env st Q :=
  fun _ hs _ _ _ _ hr he hQ => vc_sound_at hs h hr he hQ
def sub : Env → Env → Prop
  | [], _ => True
  | (n, h) :: r, env => lk env n = some h ∧ sub r env
theorem strip_loop {code : Code} {c : HCode} (h : strip P N code = some (.loop c)) : ∃ x, code = .loop x ∧ strip P N x = some c := by
  unfold strip at h
  split at h
  all_goals first
    | (simp only [Option.map_eq_some_iff] at h
       obtain ⟨x, h1, h2⟩ := h
       cases h2
       exact ⟨_, rfl, h1⟩)
    | (simp only [Option.map_eq_some_iff] at h
       obtain ⟨x, h1, h2⟩ := h
       cases h2)
    | (simp only [Option.bind_eq_bind, Option.bind_eq_some_iff, Option.pure_def] at h
       obtain ⟨x, h1, y, h2, h3⟩ := h
       first
         | (cases h3; done)
         | (obtain ⟨z, hz, h4⟩ := h3
            cases h4))
    | (split at h
       · simp only [Option.map_eq_some_iff] at h
         obtain ⟨x, h1, h2⟩ := h
         cases h2
       · cases h)
    | (cases h; done)
/-! ### what leads to no object -/
mutual
def Scd (n : Nat) : HV → Prop
  | .ptr id _ _ _ => id < n
  | .own id _ => id < n
  | .otl id _ _ => id < n
  | .eptr l _ _ _ => ScdL n l
  | .sl l => ScdL n l
  | .fl _ l => ScdL n l
  | .agg l => ScdL n l
  | .tup l => ScdL n l
  | .fn _ l r => ScdL n l ∧ ScdL n r
  | _ => True
def ScdL (n : Nat) : List HV → Prop
  | [] => True
  | x :: l => Scd n x ∧ ScdL n l
end
theorem ScdL_iff {n : Nat} : ∀ {l : List HV}, ScdL n l ↔ ∀ x ∈ l, Scd n x
  | [] => by simp [ScdL]
  | x :: l => by simp [ScdL, ScdL_iff (l := l)]
theorem Scd_cells {n : Nat} {x : HV} (h : Scd n x) : ∀ c ∈ x.cells, Scd n c := by
  cases x with
  | agg cs => simpa [Scd, ScdL_iff, HV.cells] using h
  | _ => intro c hc; simp [HV.cells] at hc; subst hc; exact h
def ScdJ (n : Nat) : J → Prop
  | .val _ h => Scd n h
  | .vals _ hs => ScdL n hs
theorem ScdL_flat {n : Nat} {l : List HV} (h : ScdL n l) : ScdL n (flatL l) := by
  rw [ScdL_iff] at h ⊢
  intro c hc
  obtain ⟨x, hx, hc⟩ := List.mem_flatMap.1 hc
  exact Scd_cells (h x hx) c hc
theorem R.restrict {G G' : Gh} {n : Nat} {j : J} (h : R G j) (hbs : G'.base = G.base) (hk : ∀ b i u, G.K b i = some u → G'.K b i = some u) (hs : ∀ id, id < n → G'.s[id]? = G.s[id]?) (hj : ScdJ n j) : R G' j := by
  induction h with
  | int => exact .int
  | bool => exact .bool
  | str h => exact .str h
  | nilp => exact .nilp
  | nils => exact .nils
  | nilf => exact .nilf
  | ptr hi hn hp => exact .ptr (by rw [hs _ (by simpa [ScdJ, Scd] using hj)]; exact hi) hn hp
  | own hi hn hp => exact .own (by rw [hs _ (by simpa [ScdJ, Scd] using hj)]; exact hi) hn hp
  | otl hi hn hp => exact .otl (by rw [hs _ (by simpa [ScdJ, Scd] using hj)]; exact hi) hn hp
  | sl us hu _ hk' hf hc hn hl ih => exact .sl us hu (ih (ScdL_flat (by simpa [ScdJ, Scd] using hj))) (fun k u h => hk _ _ _ (hk' k u h)) hf hc hn hl
  | sl0 => exact .sl0
  | fl us hu _ hk' hf hc hn hl hbb ih => exact .fl us hu (ih (ScdL_flat (by simpa [ScdJ, Scd] using hj))) (fun k u h => hk _ _ _ (hk' k u h)) hf hc hn hl (by rw [hbs]; exact hbb)
  | fl0 => exact .fl0
  | eptr us hu _ hk' hf hp ih => exact .eptr us hu (ih (ScdL_flat (by simpa [ScdJ, Scd] using hj))) (fun k u h => hk _ _ _ (hk' k u h)) hf hp
  | agg hf _ ih => exact .agg hf (ih (by simpa [ScdJ, Scd] using hj))
  | tup _ ih => exact .tup (ih (by simpa [ScdJ, Scd] using hj))
  | fn _ _ ih1 ih2 =>
    simp only [ScdJ, Scd] at hj
    exact .fn (ih1 hj.1) (ih2 hj.2)
  | vnil => exact .vnil
  | vcons _ _ ih1 ih2 =>
    simp only [ScdJ, ScdL] at hj
    exact .vcons (ih1 hj.1) (ih2 hj.2)
theorem Scd_of_cells {n : Nat} {x : HV} (h : ∀ c ∈ x.cells, Scd n c) : Scd n x := by
  cases x with
  | agg cs => simpa [Scd, ScdL_iff, HV.cells] using h
  | _ => exact h _ (by simp [HV.cells])
theorem ScdL_of_flat {n : Nat} {l : List HV} (h : ScdL n (flatL l)) : ScdL n l := by
  rw [ScdL_iff] at h ⊢
  intro x hx
  exact Scd_of_cells fun c hc => h c (List.mem_flatMap.2 ⟨x, hx, hc⟩)
theorem R.scd {G : Gh} {j : J} (h : R G j) : ScdJ G.s.length j := by
  induction h with
  | ptr hi _ _ => exact get_lt hi
  | own hi _ _ => exact get_lt hi
  | otl hi _ _ => exact get_lt hi
  | sl us hu _ hk' hf hc hn' hl ih => exact ScdL_of_flat ih
  | fl us hu _ hk' hf hc hn' hl _ ih => exact ScdL_of_flat ih
  | eptr us hu _ hk' hf hp ih => exact ScdL_of_flat ih
  | agg hf _ ih => exact ih
  | tup _ ih => exact ih
  | fn _ _ ih1 ih2 => exact ⟨ih1, ih2⟩
  | vcons _ _ ih1 ih2 => exact ⟨ih1, ih2⟩
  | _ => simp [ScdJ, Scd, ScdL]
def ScdO (n : Nat) : HO → Prop
  | .box v => Scd n v
  | .arr _ l _ => ScdL n l
  | .dead => True
theorem Rel.scd {P : Program} {G : Gh} {st : St} {w : World} (h : Rel P G st w) : ∀ o ∈ st, ScdO st.length o := by
  intro o ho
  obtain ⟨id, hid⟩ := List.getElem?_of_mem ho
  obtain ⟨info, hi⟩ := h.get hid
  have hf := (h.obj id info o hi hid).2
  have key : ∀ l m, o.live = some (l, m) → ScdL st.length l := by
    intro l m hl
    have rl := hf l m hl
    cases hb : info.blk with
    | none =>
      have := rl.nil.1 hb
      have hl0 : l = [] := List.eq_nil_of_length_eq_zero (by have := rl.cap; omega)
      subst hl0
      simp [ScdL]
    | some b =>
      obtain ⟨c, t, us, _, _, h3, _⟩ := rl.row b hb
      have := h3.scd
      rw [h.len] at this
      exact ScdL_of_flat this
  cases o with
  | box v => have := key [v] true rfl; simpa [ScdL, ScdO] using this
  | arr sz l m => exact key l m rfl
  | dead => trivial
def ScSt (st : St) : Prop := ∀ o ∈ st, ScdO st.length o
/-! ### with an answer for each way out -/
def Qof (kn : Env → St → Prop) (kx : Nat → Env → St → Prop) (kr : Env → St → Prop) : HExit → Env → St → Prop
  | .normal => kn
  | .exit i => kx i
  | .ret => kr
def wc (P : Program) (fz : Bool) (N : Nat) : HCode → Env → St → (Env → St → Prop) → (Nat → Env → St → Prop) → (Env → St → Prop) → Prop
  | .skip, env, st, kn, _, _ => kn env st
  | .reg ops, env, st, kn, _, _ => vcOps P fz ops env st kn
  | .dreg p, env, st, kn, _, _ => dvc P fz p env st kn
  | .seq a b, env, st, kn, kx, kr => wc P fz N a env st (fun env' st' => wc P fz N b env' st' kn kx kr) kx kr
  | .cond c a b, env, st, kn, kx, kr => match ev env c with
    | some (.bool t) => (t = true → wc P fz N a env st kn kx kr) ∧ (t = false → wc P fz N b env st kn kx kr)
    | _ => False
  | .block id c, env, st, kn, kx, kr => wc P fz N c env st kn (fun i env' st' => if i = id then kn env' st' else kx i env' st') kr
  | .loop c, env, st, kn, kx, kr => Sem P N (.loop c) env st (Qof kn kx kr)
  | .exit id, env, st, _, kx, _ => kx id env st
  | .ret, env, st, _, _, kr => kr env st
/-! ### functions -/
def cnO (sz : Nat) (st : St) : HV → HV × St
  | .nils => (.own st.length 0, st ++ [.arr sz [] true])
  | h => (h, st)
theorem cnO_sound {P : Program} {w : World} {G : Gh} {st : St} {v : Value} {h : HV} (sz : Nat) (hr : Rel P G st w) (hv : R G (.val v h)) :
    ∃ G', Rel P G' (cnO sz st h).2 w ∧ R G' (.val v (cnO sz st h).1) ∧ Step G w G' w := by
  unfold cnO
  split
  · obtain ⟨h1, h2⟩ := hr.new (w' := w) (o := .arr sz [] true) (l := []) (m := true) (info := ⟨none, sz, 0, 0⟩) rfl rfl rfl rfl rfl (Nat.le_refl _) (fun _ _ => rfl) (fun b hb => by cases hb)
      ⟨rfl, Nat.le_refl _, by simp [lim], (fun x hx => by cases hx), (fun c hc => by simp at hc), ⟨(fun _ => rfl), Nat.zero_le _⟩, (fun b hb => by cases hb)⟩
    refine ⟨_, h1, ?_, h2⟩
    cases hv with
    | nils => exact .own (info := ⟨none, sz, 0, 0⟩) (by simp [hr.len]) (Nat.le_refl _) fun _ => ⟨(fun b hb => by cases hb), rfl⟩
  · exact ⟨G, hr, hv, Step.refl _ _⟩
def cnMs : List (Option Nat) → St → List HV → List HV × St
  | some sz :: ms, st, h :: hs => let a := cnO sz st h
    let b := cnMs ms a.2 hs
    (a.1 :: b.1, b.2)
  | none :: ms, st, h :: hs => let a := cnA true st h
    let b := cnMs ms a.2 hs
    (a.1 :: b.1, b.2)
  | _, st, hs => (hs, st)
def resV (env : Env) (st : St) : Nat × Option (Bool × Nat) → Option HV
  | (t, none) => lk env t
  | (t, some (ag, n)) => match lk env t with
    | some (.ptr id m i off) => match (st[id]?).bind items with
      | some l => if l.length = m then (match l[i]? with
        | some x => ld ag off n x
        | none => none) else none
      | none => none
    | _ => none
def resL (env : Env) (st : St) : List (Nat × Option (Bool × Nat)) → Option (List HV)
  | [] => some []
  | r :: rs => match resV env st r, resL env st rs with
    | some h, some hs => some (h :: hs)
    | _, _ => none
def resE (env : Env) (st : St) : List (Nat × Option (Bool × Nat)) → Option HV
  | [r] => resV env st r
  | rs => (resL env st rs).map .tup
def rsem (tmps : Array Value) : ResultVar → Go.Sem Value
  | .tmp t => pure (tmps.getD t undef)
  | .cell a t => (asAddr (tmps.getD a undef)).bind fun p => loadVar t p
theorem results_rsem (fn : Func) (tmps : Array Value) : results fn tmps = (do
    let vs ← fn.results.mapM (rsem tmps)
    pure (if h : vs.size = 1 then vs[0] else .tuple vs)) := by
  unfold results
  congr 1
def envOf : Nat → List HV → Env
  | _, [] => []
  | i, h :: hs => (i, h) :: envOf (i + 1) hs
theorem envOf_lk : ∀ {hs : List HV} {i n : Nat} {h : HV}, lk (envOf i hs) n = some h → i ≤ n ∧ hs[n - i]? = some h
  | [], i, n, h, hl => by simp [envOf, lk] at hl
  | x :: hs, i, n, h, hl => by
    simp only [envOf, lk] at hl
    by_cases e : i = n
    · subst e
      simp at hl
      subst hl
      simp
    · rw [if_neg e] at hl
      obtain ⟨h1, h2⟩ := envOf_lk hl
      refine ⟨by omega, ?_⟩
      rw [show n - i = (n - (i + 1)) + 1 by omega]
      simpa using h2
def SemF (P : Program) (N m : Nat) (hc : HCode) (env : Env) (st : St) (Q : HExit → Env → St → Prop) : Prop :=
  ∀ code, strip P N code = some hc → ∀ G0 w0 G w a (Q' : Exit → Act → World → Prop), G0.s.length = m → Step G0 w0 G w → Rel P G st w → REnv N G a env →
    (∀ e env' st' G' a' w', Q e env' st' → Rel P G' st' w' → REnv N G' a' env' → Step G0 w0 G' w' → Q' e.low a' w') → code.wp P Q' a w
theorem Sem.toF {m : Nat} {hc : HCode} {env : Env} {st : St} {Q : HExit → Env → St → Prop} (h : Sem P N hc env st Q) : SemF P N m hc env st Q :=
  fun code hs G0 w0 G w a Q' _ hst hr he hQ => h code hs G w a Q' hr he fun e env' st' G' a' w' q r1 r2 r3 => hQ e env' st' G' a' w' q r1 r2 (hst.trans r3)
theorem HC.introF {f : FuncId} {hf : HFunc} {args : List HV} {st : St} {post : HV → St → Prop} (hs : stripF P f = some hf) (hlen : args.length ≤ hf.ntmps)
    (hv : SemF P hf.ntmps st.length hf.body (envOf 0 args) st fun e env' st' => match e with
      | .exit _ => False
      | _ => ∃ h, resE env' st' hf.results = some h ∧ (ScSt st → post h st')) : HC P f args st post := by
  unfold stripF at hs
  simp only [Option.bind_eq_bind, Option.bind_eq_some_iff] at hs
  obtain ⟨fn, h1, b, h2, h⟩ := hs
  split at h
  · cases h
  · rename_i hname
    simp only [Option.bind_eq_some_iff, Option.pure_def] at h
    obtain ⟨rs, h3, body, h4, h⟩ := h
    cases h
    refine ⟨⟨fn, h1, by simp [h2], by simpa using hname⟩, fun G w vs hr hR => ?_⟩
    have hvl := hR.vals_length
    refine calls_of_wp h1 h2 ?_
    have hsc := hr.scd
    refine hv _ h4 G w _ _ _ _ hr.len (Step.refl _ _) hr ?_ ?_
    · refine ⟨by simp only [] at hlen; simp; omega, rfl, fun n h hl => ?_⟩
      obtain ⟨_, hn⟩ := envOf_lk hl
      simp only [Nat.sub_zero] at hn
      obtain ⟨v, hv1, hv2⟩ := hR.vals_get n h hn
      refine ⟨v, ?_, hv2⟩
      rw [Array.getElem?_append_left (by simpa using get_lt hv1)]
      simpa using hv1
    · intro e env' st' G' a' w' q r1 r2 r3
      have fin : (∃ h, resE env' st' rs = some h ∧ (ScSt st → post h st')) → ∃ v, (results fn a'.tmps).run P w' = .ok v w' ∧ ∃ v' r st' G', Ending.returned v = Ending.returned v' ∧ post r st' ∧ Rel P G' st' w' ∧ R G' (.val v' r) ∧ Step G w G' w' := by
        rintro ⟨h, he, hp⟩
        have hone : ∀ {x : ResultVar} {r : Nat × Option (Bool × Nat)} {y : HV}, (match x with
              | .tmp t => some (t, none)
              | .cell a t => (aggT P t).bind fun ag => (szT P t).bind fun n => some (a, some (ag, n))) = some r → resV env' st' r = some y →
            ∃ v, (rsem a'.tmps x).run P w' = .ok v w' ∧ R G' (.val v y) := by
          intro x r y hx hy
          cases x with
          | tmp t =>
            cases hx
            simp only [resV] at hy
            obtain ⟨v, q1, q2⟩ := r2.get _ _ hy
            exact ⟨v, by simp [rsem, Array.getD_eq_getD_getElem?, q1], q2⟩
          | cell c t =>
            simp only [Option.bind_eq_some_iff] at hx
            obtain ⟨ag, k1, n, k2, hx⟩ := hx
            cases hx
            simp only [resV] at hy
            split at hy
            · rename_i id m i off hlk
              obtain ⟨v, q1, q2⟩ := r2.get _ _ hlk
              split at hy
              · rename_i l hb
                split at hy
                · rename_i hlm
                  subst hlm
                  split at hy
                  · rename_i z hz
                    simp only [Option.bind_eq_some_iff] at hb
                    obtain ⟨ob, hob, hit⟩ := hb
                    obtain ⟨mu, hlive⟩ := items_live hit
                    cases q2 with
                    | ptr hi hn hp' =>
                      rename_i p info
                      obtain ⟨_, hf'⟩ := r1.obj id _ _ hi hob
                      have rl := hf' l mu hlive
                      obtain ⟨b, hb, rfl⟩ := hp' rl.n
                      obtain ⟨cc, t', us, h1, h2, h3, h4, h5, h6, h7⟩ := rl.row b hb
                      obtain ⟨v, hrun, hR⟩ := ld_sound (base := 0) k1 k2 rl.uni hz h3 rl.flat (fun k u hk => by simpa using cell_of_row h1 (h4 k u hk)) hy
                      refine ⟨v, ?_, hR⟩
                      have hget : a'.tmps.getD c undef = .pointer (some ⟨b, i * info.sz + off, none⟩) := by simp [Array.getD_eq_getD_getElem?, q1]
                      show ((asAddr (a'.tmps.getD c undef)).bind fun p => loadVar t p).run P w' = _
                      rw [hget]
                      show (loadVar t _).run P w' = _
                      simpa using hrun
                  · cases hy
                · cases hy
              · cases hy
            · cases hy
        have hrun : ∀ {f0 : ResultVar → Option (Nat × Option (Bool × Nat))}, (∀ x, f0 x = (match x with
              | .tmp t => some (t, none)
              | .cell a t => (aggT P t).bind fun ag => (szT P t).bind fun n => some (a, some (ag, n)))) → ∀ {rl : List ResultVar} {rs : List (Nat × Option (Bool × Nat))} {hs : List HV}, rl.mapM f0 = some rs → resL env' st' rs = some hs →
            ∃ vs', (rl.mapM (rsem a'.tmps)).run P w' = .ok vs' w' ∧ R G' (.vals vs' hs) := by
          intro f0 hf0 rl
          induction rl with
          | nil => intro rs hs h1 h2; simp at h1; subst h1; simp [resL] at h2; subst h2; exact ⟨[], rfl, .vnil⟩
          | cons x rl ih =>
            intro rs hs h1 h2
            simp only [List.mapM_cons, Option.pure_def, Option.bind_eq_bind, Option.bind_eq_some_iff] at h1
            obtain ⟨t, ht, ts, hts, h⟩ := h1
            cases h
            simp only [resL] at h2
            split at h2
            · rename_i y ys e1 e2
              cases h2
              obtain ⟨vs', g1, g2⟩ := ih hts e2
              rw [hf0] at ht
              obtain ⟨v, q1, q2⟩ := hone ht e1
              refine ⟨v :: vs', ?_, .vcons q2 g2⟩
              simp only [List.mapM_cons, Sem.run_bind, q1, Sem.run_pure, Result.andThen_ok, g1]
            · cases h2
        have hmain : ∃ v, (results fn a'.tmps).run P w' = .ok v w' ∧ R G' (.val v h) := by
          have hfr : fn.results = fn.results.toList.toArray := by simp
          rw [results_rsem, hfr, List.mapM_toArray, Sem.run_bind, Sem.run_map]
          unfold resE at he
          split at he
          · rename_i r
            have hres : resL env' st' [r] = some [h] := by simp [resL, he]
            obtain ⟨vs', g1, g2⟩ := hrun (fun x => by cases x <;> rfl) h3 hres
            rw [g1]
            have := g2.vals_length
            match vs', this with
            | [v], _ =>
              simp only [Result.andThen_ok]
              exact ⟨v, rfl, g2.vals_cons.1⟩
          · rename_i hne
            simp only [Option.map_eq_some_iff] at he
            obtain ⟨hs, he1, rfl⟩ := he
            obtain ⟨vs', g1, g2⟩ := hrun (fun x => by cases x <;> rfl) h3 he1
            rw [g1]
            refine ⟨.tuple vs'.toArray, ?_, .tup g2⟩
            have hl : vs'.length ≠ 1 := by
              rw [g2.vals_length]
              intro h1
              have : rs.length = 1 := by
                have : ∀ {rs : List (Nat × Option (Bool × Nat))} {hs : List HV}, resL env' st' rs = some hs → rs.length = hs.length := by
                  intro rs
                  induction rs with
                  | nil => intro hs h; simp [resL] at h; subst h; rfl
                  | cons r rs ih =>
                    intro hs h
                    simp only [resL] at h
                    split at h
                    · cases h; simp [ih (by assumption)]
                    · cases h
                rw [this he1]; exact h1
              match rs, this with
              | [r], _ => exact hne r rfl
            have : ¬ vs'.toArray.size = 1 := by simpa using hl
            simp only [Result.andThen_ok]
            rw [dif_neg this]
            rfl
        obtain ⟨v, g1, g2⟩ := hmain
        exact ⟨v, g1, v, h, st', G', rfl, hp hsc, r1, g2, r3⟩
      cases e with
      | normal => exact ⟨r2.defers, fin q⟩
      | exit id => exact q.elim
      | ret => exact ⟨r2.defers, fin q⟩
theorem HC.mono {f : FuncId} {args : List HV} {st : St} {post post' : HV → St → Prop} (h : HC P f args st post) (hp : ∀ r st', post r st' → post' r st') : HC P f args st post' :=
  ⟨h.1, fun G w vs hr hR => (h.2 G w vs hr hR).mono fun _ _ ⟨v, r, st', G', he, p, rest⟩ => ⟨v, r, st', G', he, hp r st' p, rest⟩⟩
def HCp (P : Program) (f : FuncId) (args : List HV) (r : HV) : Prop := HC P f args [] fun r' st' => r' = r ∧ st' = []
end
end HL
