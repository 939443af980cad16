/- HL: code, loops, functions; calls in a store of their own. -/
import Derived.Test.YtoojgahbfpdhgaaHLDreg
import Derived.Deep.LoopGhost
set_option linter.unusedSimpArgs false
set_option linter.unusedVariables false
set_option linter.unusedSectionVars false
namespace HL
open Go

inductive HExit where
  | normal
  | exit (id : Nat)
  | ret

def HExit.low : HExit → Exit
  | .normal => .normal
  | .exit id => .exit id
  | .ret => .ret

def vcOps (P : Program) (fz : Bool) : List HIns → Env → St → (Env → St → Prop) → Prop
  | [], env, st, k => k env st
  | i :: is, env, st, k => match i.guard with
    | none => vcOp P fz env st i.op fun h st' => vcOps P fz is (putE env i.dst h) st' k
    | some (s, b) => match lk env s with
      | some (.bool t) => (t = b → vcOp P fz env st i.op fun h st' => vcOps P fz is (putE env i.dst h) st' k) ∧ (t = (!b) → vcOps P fz is (putE env i.dst undefH) st k)
      | some (.tup []) => vcOps P fz is (putE env i.dst undefH) st k
      | _ => False

/-- What code asks for, told by the model itself. -/
def Sem (P : Program) (N : Nat) (hc : HCode) (env : Env) (st : St) (Q : HExit → Env → St → Prop) : Prop :=
  ∀ code, strip P N code = some hc → ∀ G w a (Q' : Exit → Act → World → Prop), Rel P G st w → REnv N G a env →
    (∀ e env' st' G' a' w', Q e env' st' → Rel P G' st' w' → REnv N G' a' env' → Step G w G' w' → Q' e.low a' w') → code.wp P Q' a w

def vc (P : Program) (fz : Bool) (N : Nat) : HCode → Env → St → (HExit → Env → St → Prop) → Prop
  | .skip, env, st, Q => Q .normal env st
  | .reg ops, env, st, Q => vcOps P fz ops env st (Q .normal)
  | .dreg p, env, st, Q => dvc P fz p env st (Q .normal)
  | .seq a b, env, st, Q => vc P fz N a env st fun e env' st' => match e with
    | .normal => vc P fz N b env' st' Q
    | .exit id => Q (.exit id) env' st'
    | .ret => Q .ret env' st'
  | .cond c a b, env, st, Q => match ev env c with
    | some (.bool t) => (t = true → vc P fz N a env st Q) ∧ (t = false → vc P fz N b env st Q)
    | _ => False
  | .block id c, env, st, Q => vc P fz N c env st fun e env' st' => match e with
    | .normal => Q .normal env' st'
    | .exit i => if i = id then Q .normal env' st' else Q (.exit i) env' st'
    | .ret => Q .ret env' st'
  | .loop c, env, st, Q => Sem P N (.loop c) env st Q
  | .exit id, env, st, Q => Q (.exit id) env st
  | .ret, env, st, Q => Q .ret env st

section
variable {P : Program} {N : Nat} {fz : Bool}

theorem vcOps_sound {ops : Array Oper} {Q' : Exit → Act → World → Prop} : ∀ {l : List Oper} {is : List HIns} {env : Env} {st : St} {k : Env → St → Prop} {G : Gh} {a : Act} {w : World},
    l.mapM (stripIns P N ops) = some is → vcOps P fz is env st k → Rel P G st w → REnv N G a env →
    (∀ env' st' G' a' w', k env' st' → Rel P G' st' w' → REnv N G' a' env' → Step G w G' w' → Q' .normal a' w') → wpList P ops Q' l a w
  | [], is, env, st, k, G, a, w, hs, hv, hr, he, hQ => by
    simp at hs
    subst hs
    exact wpList_nil (hQ env st G a w hv hr he (Step.refl _ _))
  | o :: l, is, env, st, k, G, a, w, hs, hv, hr, he, hQ => by
    simp only [List.mapM_cons, Option.pure_def, Option.bind_eq_bind, Option.bind_eq_some_iff] at hs
    obtain ⟨i, h1, is', h2, hs⟩ := hs
    cases hs
    obtain ⟨hd, hdst, hop, hg⟩ := stripIns_spec h1
    have next : ∀ {K : Act → World → Prop}, (∀ a w, wpList P ops Q' l a w → K a w) → ∀ v w', After P G w (fun h st' => vcOps P fz is' (putE env i.dst h) st' k) v w' → K (a.put o.dst v) w' := by
      intro K hK v w' ⟨h, G', st', hk, r1, r2, r3⟩
      refine hK _ _ (vcOps_sound h2 hk r1 (by rw [hdst]; exact (he.mono r3).put r2 hd) fun env' st'' G'' a' w'' q1 q2 q3 q4 => hQ _ _ _ _ _ q1 q2 q3 (r3.trans q4))
    have skip : ∀ {K : Act → World → Prop}, (∀ a w, wpList P ops Q' l a w → K a w) → vcOps P fz is' (putE env i.dst undefH) st k → K (a.put o.dst undef) w := by
      intro K hK hk
      exact hK _ _ (vcOps_sound h2 hk hr (by rw [hdst]; exact he.put R_undef hd) hQ)
    refine wpList_step fun K hK => ?_
    simp only [vcOps] at hv
    rcases hg with ⟨g1, g2⟩ | ⟨j, b, s, g1, g2, g3⟩
    · rw [g2] at hv
      simp only at hv
      rw [if_pos (by simp [Region.wanted, g1])]
      exact vcOp_sound hop hv hr he (next hK)
    · rw [g2] at hv
      simp only at hv
      split at hv
      · rename_i t ht
        have hy := yielded_bool (ops := ops) he g3 ht
        by_cases e : t = b
        · rw [if_pos (by simp [Region.wanted, g1, hy, e])]
          exact vcOp_sound hop (hv.1 e) hr he (next hK)
        · rw [if_neg (by simp [Region.wanted, g1, hy, e])]
          exact skip hK (hv.2 (by cases t <;> cases b <;> simp_all))
      · rename_i ht
        have hy := yielded_undef (ops := ops) he g3 ht
        rw [if_neg (by simp [Region.wanted, g1, hy])]
        exact skip hK hv
      · exact hv.elim

theorem vc_sound_at : ∀ {code : Code} {hc : HCode} {env : Env} {st : St} {Q : HExit → Env → St → Prop}, strip P N code = some hc → vc P fz N hc env st Q →
    ∀ {G : Gh} {w : World} {a : Act} {Q' : Exit → Act → World → Prop}, Rel P G st w → REnv N G a env →
    (∀ e env' st' G' a' w', Q e env' st' → Rel P G' st' w' → REnv N G' a' env' → Step G w G' w' → Q' e.low a' w') → code.wp P Q' a w := by
  intro code
  induction code with
  | skip =>
    intro hc env st Q hs hv G w a Q' hr he hQ
    simp only [strip, Option.some.injEq] at hs
    subst hs
    exact wp_skip (hQ .normal _ _ _ _ _ hv hr he (Step.refl _ _))
  | region id ops draw =>
    intro hc env st Q hs hv G w a Q' hr he hQ
    cases draw with
    | false =>
      simp only [strip, Option.some.injEq] at hs
      subst hs
      cases h1 : ops.toList.mapM (stripIns P N ops) with
      | none =>
        rw [h1] at hv
        exact hv.elim
      | some is =>
        rw [h1] at hv
        exact wp_region_list (vcOps_sound h1 hv hr he fun env' st' G' a' w' q r1 r2 r3 => hQ .normal _ _ _ _ _ q r1 r2 r3)
    | true =>
      simp only [strip] at hs
      split at hs
      · rename_i hm
        simp only [Option.map_eq_some_iff, Option.bind_eq_some_iff] at hs
        obtain ⟨p, ⟨L, h1, h2⟩, rfl⟩ := hs
        unfold planOf at h2
        simp only at h2
        split at h2
        · rename_i hok
          have hreg := reg_of h1
          refine wp_region_any hm (dreg_main hok hreg (Q := Q .normal) (G0 := G) (w0 := w) (fun env' st' G' a' w' q r1 r2 r3 => hQ .normal _ _ _ _ _ q r1 r2 r3) ops.size L.length [] p env st G a _ _ h2 hv ?_ ?_ ?_)
          · exact Inv.start hreg hr.drew he
          · exact Step.drew G w
          · unfold left
            refine Nat.le_trans (List.length_filter_le _ _) ?_
            simp
        · cases h2
      · cases hs
  | seq x y ihx ihy =>
    intro hc env st Q hs hv G w a Q' hr he hQ
    simp only [strip, Option.bind_eq_bind, Option.bind_eq_some_iff, Option.pure_def] at hs
    obtain ⟨hx, h1, hy, h2, h⟩ := hs
    cases h
    refine wp_seq (ihx h1 hv hr he fun e env' st' G' a' w' q r1 r2 r3 => ?_)
    cases e with
    | normal => exact ihy h2 q r1 r2 fun e env'' st'' G'' a'' w'' q2 s1 s2 s3 => hQ _ _ _ _ _ _ q2 s1 s2 (r3.trans s3)
    | exit id => exact hQ _ _ _ _ _ _ q r1 r2 r3
    | ret => exact hQ _ _ _ _ _ _ q r1 r2 r3
  | cond c x y ihx ihy =>
    intro hc env st Q hs hv G w a Q' hr he hQ
    simp only [strip, Option.bind_eq_bind, Option.bind_eq_some_iff, Option.pure_def] at hs
    obtain ⟨ac, h0, hx, h1, hy, h2, h⟩ := hs
    cases h
    simp only [vc] at hv
    split at hv
    · rename_i t ht
      have hcv : a.eval c = .bool t := by
        have r := he.ev h0 ht
        cases hx' : a.eval c <;> rw [hx'] at r <;> cases r
        rfl
      cases t with
      | true => exact wp_cond_true hcv (ihx h1 (hv.1 rfl) hr he hQ)
      | false => exact wp_cond_false hcv (ihy h2 (hv.2 rfl) hr he hQ)
    · exact hv.elim
  | block id x ih =>
    intro hc env st Q hs hv G w a Q' hr he hQ
    simp only [strip, Option.map_eq_some_iff] at hs
    obtain ⟨hx, h1, rfl⟩ := hs
    refine wp_block (ih h1 hv hr he fun e env' st' G' a' w' q r1 r2 r3 => ?_)
    cases e with
    | normal => exact hQ .normal _ _ _ _ _ q r1 r2 r3
    | exit i =>
      simp only [HExit.low, Exit.inBlock]
      simp only at q
      split
      · rename_i e; rw [if_pos e] at q; exact hQ .normal _ _ _ _ _ q r1 r2 r3
      · rename_i e; rw [if_neg e] at q; exact hQ (.exit i) _ _ _ _ _ q r1 r2 r3
    | ret => exact hQ _ _ _ _ _ _ q r1 r2 r3
  | loop x ih =>
    intro hc env st Q hs hv G w a Q' hr he hQ
    have hs' := hs
    simp only [strip, Option.map_eq_some_iff] at hs
    obtain ⟨hx, h1, rfl⟩ := hs
    exact hv _ hs' G w a Q' hr he hQ
  | exit id =>
    intro hc env st Q hs hv G w a Q' hr he hQ
    simp only [strip, Option.some.injEq] at hs
    subst hs
    exact wp_exit (hQ (.exit id) _ _ _ _ _ hv hr he (Step.refl _ _))
  | ret =>
    intro hc env st Q hs hv G w a Q' hr he hQ
    simp only [strip, Option.some.injEq] at hs
    subst hs
    exact wp_ret (hQ .ret _ _ _ _ _ hv hr he (Step.refl _ _))
  | rangeFunc f ps x y _ _ => intro hc env st Q hs; simp [strip] at hs
  | scope x _ => intro hc env st Q hs; simp [strip] at hs
  | label l => intro hc env st Q hs; simp [strip] at hs
  | goto l => intro hc env st Q hs; simp [strip] at hs
  | refuse y => intro hc env st Q hs; simp [strip] at hs

theorem vc_sound {hc : HCode} {env : Env} {st : St} {Q : HExit → Env → St → Prop} (h : vc P fz N hc env st Q) : Sem P N hc env st Q :=
  fun _ hs _ _ _ _ hr he hQ => vc_sound_at hs h hr he hQ

/-- One environment tells what another one does. -/
def sub : Env → Env → Prop
  | [], _ => True
  | (n, h) :: r, env => lk env n = some h ∧ sub r env

theorem sub_lk : ∀ {E env : Env}, sub E env → ∀ n h, lk E n = some h → lk env n = some h
  | [], _, _, n, h, hl => by simp [lk] at hl
  | (m, v) :: r, env, hs, n, h, hl => by
    simp only [lk] at hl
    by_cases e : m = n
    · subst e
      simp at hl
      subst hl
      exact hs.1
    · rw [if_neg e] at hl
      exact sub_lk hs.2 n h hl

theorem REnv.sub {N : Nat} {G : Gh} {a : Act} {env E : Env} (h : REnv N G a env) (hs : HL.sub E env) : REnv N G a E :=
  ⟨h.size, h.defers, fun n x hx => h.get n x (sub_lk hs n x hx)⟩

theorem strip_loop {code : Code} {c : HCode} (h : strip P N code = some (.loop c)) : ∃ x, code = .loop x ∧ strip P N x = some c := by
  unfold strip at h
  split at h
  all_goals first
    | (simp only [Option.map_eq_some_iff] at h
       obtain ⟨x, h1, h2⟩ := h
       cases h2
       exact ⟨_, rfl, h1⟩)
    | (simp only [Option.map_eq_some_iff] at h
       obtain ⟨x, h1, h2⟩ := h
       cases h2)
    | (simp only [Option.bind_eq_bind, Option.bind_eq_some_iff, Option.pure_def] at h
       obtain ⟨x, h1, y, h2, h3⟩ := h
       first
         | (cases h3; done)
         | (obtain ⟨z, hz, h4⟩ := h3
            cases h4))
    | (split at h
       · simp only [Option.map_eq_some_iff] at h
         obtain ⟨x, h1, h2⟩ := h
         cases h2
       · cases h)
    | (cases h; done)

/-- A LOOP: what the code knows at each round's head, by a parameter; a number that every round lowers. -/
theorem Sem.loop {c : HCode} {env : Env} {st : St} {Q : HExit → Env → St → Prop} {ι : Type} (E : ι → Env) (S : ι → St) (I : ι → Prop) (μ : ι → Nat) (i0 : ι) (h0 : I i0) (hE : sub (E i0) env) (hS : st = S i0)
    (round : ∀ i, I i → vc P fz N c (E i) (S i) fun e env' st' => match e with
      | .normal => ∃ j, I j ∧ μ j < μ i ∧ sub (E j) env' ∧ st' = S j
      | .exit id => Q (.exit id) env' st'
      | .ret => Q .ret env' st') : Sem P N (.loop c) env st Q := by
  intro code hs G w a Q' hr he hQ
  obtain ⟨x, rfl, h1⟩ := strip_loop hs
  subst hS
  refine wp_loop_ghost (fun n a' w' => ∃ i G', I i ∧ μ i = n ∧ Rel P G' (S i) w' ∧ REnv N G' a' (E i) ∧ Step G w G' w') (μ i0) ⟨i0, G, h0, rfl, hr, he.sub hE, Step.refl _ _⟩ ?_
  rintro n a' w' ⟨i, G', hi, rfl, r1, r2, r3⟩
  refine vc_sound_at h1 (round i hi) r1 r2 fun e env' st' G'' a'' w'' q s1 s2 s3 => ?_
  cases e with
  | normal =>
    obtain ⟨j, hj, hlt, hsub, rfl⟩ := q
    exact ⟨μ j, hlt, j, G'', hj, rfl, s1, s2.sub hsub, r3.trans s3⟩
  | exit id => exact hQ _ _ _ _ _ _ q s1 s2 (r3.trans s3)
  | ret => exact hQ _ _ _ _ _ _ q s1 s2 (r3.trans s3)

/-! ### what leads to no object -/

mutual
def Scd (n : Nat) : HV → Prop
  | .ptr id _ _ _ => id < n
  | .own id _ => id < n
  | .otl id _ _ => id < n
  | .eptr l _ _ _ => ScdL n l
  | .sl l => ScdL n l
  | .fl _ l => ScdL n l
  | .agg l => ScdL n l
  | .tup l => ScdL n l
  | .fn _ l r => ScdL n l ∧ ScdL n r
  | _ => True
def ScdL (n : Nat) : List HV → Prop
  | [] => True
  | x :: l => Scd n x ∧ ScdL n l
end

theorem ScdL_iff {n : Nat} : ∀ {l : List HV}, ScdL n l ↔ ∀ x ∈ l, Scd n x
  | [] => by simp [ScdL]
  | x :: l => by simp [ScdL, ScdL_iff (l := l)]

theorem Scd_cells {n : Nat} {x : HV} (h : Scd n x) : ∀ c ∈ x.cells, Scd n c := by
  cases x with
  | agg cs => simpa [Scd, ScdL_iff, HV.cells] using h
  | _ => intro c hc; simp [HV.cells] at hc; subst hc; exact h

def ScdJ (n : Nat) : J → Prop
  | .val _ h => Scd n h
  | .vals _ hs => ScdL n hs

theorem ScdL_flat {n : Nat} {l : List HV} (h : ScdL n l) : ScdL n (flatL l) := by
  rw [ScdL_iff] at h ⊢
  intro c hc
  obtain ⟨x, hx, hc⟩ := List.mem_flatMap.1 hc
  exact Scd_cells (h x hx) c hc

/-- What leads to the first n objects alone. -/
theorem R.restrict {G G' : Gh} {n : Nat} {j : J} (h : R G j) (hbs : G'.base = G.base) (hk : ∀ b i u, G.K b i = some u → G'.K b i = some u) (hs : ∀ id, id < n → G'.s[id]? = G.s[id]?) (hj : ScdJ n j) : R G' j := by
  induction h with
  | int => exact .int
  | bool => exact .bool
  | str h => exact .str h
  | nilp => exact .nilp
  | nils => exact .nils
  | nilf => exact .nilf
  | ptr hi hn hp => exact .ptr (by rw [hs _ (by simpa [ScdJ, Scd] using hj)]; exact hi) hn hp
  | own hi hn hp => exact .own (by rw [hs _ (by simpa [ScdJ, Scd] using hj)]; exact hi) hn hp
  | otl hi hn hp => exact .otl (by rw [hs _ (by simpa [ScdJ, Scd] using hj)]; exact hi) hn hp
  | sl us hu _ hk' hf hc hn hl ih => exact .sl us hu (ih (ScdL_flat (by simpa [ScdJ, Scd] using hj))) (fun k u h => hk _ _ _ (hk' k u h)) hf hc hn hl
  | sl0 => exact .sl0
  | fl us hu _ hk' hf hc hn hl hbb ih => exact .fl us hu (ih (ScdL_flat (by simpa [ScdJ, Scd] using hj))) (fun k u h => hk _ _ _ (hk' k u h)) hf hc hn hl (by rw [hbs]; exact hbb)
  | fl0 => exact .fl0
  | eptr us hu _ hk' hf hp ih => exact .eptr us hu (ih (ScdL_flat (by simpa [ScdJ, Scd] using hj))) (fun k u h => hk _ _ _ (hk' k u h)) hf hp
  | agg hf _ ih => exact .agg hf (ih (by simpa [ScdJ, Scd] using hj))
  | tup _ ih => exact .tup (ih (by simpa [ScdJ, Scd] using hj))
  | fn _ _ ih1 ih2 =>
    simp only [ScdJ, Scd] at hj
    exact .fn (ih1 hj.1) (ih2 hj.2)
  | vnil => exact .vnil
  | vcons _ _ ih1 ih2 =>
    simp only [ScdJ, ScdL] at hj
    exact .vcons (ih1 hj.1) (ih2 hj.2)

theorem Scd_of_cells {n : Nat} {x : HV} (h : ∀ c ∈ x.cells, Scd n c) : Scd n x := by
  cases x with
  | agg cs => simpa [Scd, ScdL_iff, HV.cells] using h
  | _ => exact h _ (by simp [HV.cells])

theorem ScdL_of_flat {n : Nat} {l : List HV} (h : ScdL n (flatL l)) : ScdL n l := by
  rw [ScdL_iff] at h ⊢
  intro x hx
  exact Scd_of_cells fun c hc => h c (List.mem_flatMap.2 ⟨x, hx, hc⟩)

/-- What is related leads to objects that there are. -/
theorem R.scd {G : Gh} {j : J} (h : R G j) : ScdJ G.s.length j := by
  induction h with
  | ptr hi _ _ => exact get_lt hi
  | own hi _ _ => exact get_lt hi
  | otl hi _ _ => exact get_lt hi
  | sl us hu _ hk' hf hc hn' hl ih => exact ScdL_of_flat ih
  | fl us hu _ hk' hf hc hn' hl _ ih => exact ScdL_of_flat ih
  | eptr us hu _ hk' hf hp ih => exact ScdL_of_flat ih
  | agg hf _ ih => exact ih
  | tup _ ih => exact ih
  | fn _ _ ih1 ih2 => exact ⟨ih1, ih2⟩
  | vcons _ _ ih1 ih2 => exact ⟨ih1, ih2⟩
  | _ => simp [ScdJ, Scd, ScdL]

def ScdO (n : Nat) : HO → Prop
  | .box v => Scd n v
  | .arr _ l _ => ScdL n l
  | .dead => True

theorem Rel.scd {P : Program} {G : Gh} {st : St} {w : World} (h : Rel P G st w) : ∀ o ∈ st, ScdO st.length o := by
  intro o ho
  obtain ⟨id, hid⟩ := List.getElem?_of_mem ho
  obtain ⟨info, hi⟩ := h.get hid
  have hf := (h.obj id info o hi hid).2
  have key : ∀ l m, o.live = some (l, m) → ScdL st.length l := by
    intro l m hl
    have rl := hf l m hl
    cases hb : info.blk with
    | none =>
      have := rl.nil.1 hb
      have hl0 : l = [] := List.eq_nil_of_length_eq_zero (by have := rl.cap; omega)
      subst hl0
      simp [ScdL]
    | some b =>
      obtain ⟨c, t, us, _, _, h3, _⟩ := rl.row b hb
      have := h3.scd
      rw [h.len] at this
      exact ScdL_of_flat this
  cases o with
  | box v => have := key [v] true rfl; simpa [ScdL, ScdO] using this
  | arr sz l m => exact key l m rfl
  | dead => trivial

def ScSt (st : St) : Prop := ∀ o ∈ st, ScdO st.length o

/-- What lies behind the first objects is let go. -/
theorem inS_take {s : List Info} {n b : Nat} (h : inS (s.take n) b) : inS s b := by
  obtain ⟨id, info, hi, hb⟩ := h
  simp only [List.getElem?_take] at hi
  split at hi
  · exact ⟨id, info, hi, hb⟩
  · cases hi

theorem Rel.drop {P : Program} {G : Gh} {st junk : St} {w : World} (h : Rel P G (st ++ junk) w) (hs : ScSt st) : Rel P ⟨G.base, G.K, G.s.take st.length⟩ st w := by
  have hlen : G.s.length = st.length + junk.length := by rw [h.len]; simp
  have hget : ∀ id, id < st.length → (G.s.take st.length)[id]? = G.s[id]? := fun id hid => List.getElem?_take_of_lt hid
  refine ⟨by simp [hlen], h.kc, fun id info o hi ho => ?_, fun id id' info info' o o' b b' h1 h2 h3 h4 h5 h6 hne h7 h8 => ?_, h.tab.of rfl (Nat.le_refl _) (fun _ _ _ => rfl) fun b hb => .inl (inS_take hb)⟩
  · have hlt := get_lt ho
    simp only [hget id hlt] at hi
    obtain ⟨z, f⟩ := h.obj id info o hi (by rw [List.getElem?_append_left hlt]; exact ho)
    refine ⟨z, fun l m hl => ?_⟩
    have rl := f l m hl
    refine ⟨rl.n, rl.cap, rl.lm, rl.uni, rl.flat, rl.nil, fun b hb => ?_⟩
    obtain ⟨c, t, us, q1, q2, q3, q4, q5, q6, q7⟩ := rl.row b hb
    refine ⟨c, t, us, q1, q2, ?_, q4, q5, q6, q7⟩
    refine q3.restrict (n := st.length) rfl (fun _ _ _ h => h) (fun id hid => hget id hid) ?_
    have := hs o (List.mem_of_getElem? ho)
    refine ScdL_flat ?_
    cases o with
    | box v => simp [HO.live] at hl; obtain ⟨rfl, _⟩ := hl; simpa [ScdL, ScdO] using this
    | arr sz l' m' => simp [HO.live] at hl; obtain ⟨rfl, _⟩ := hl; exact this
    | dead => simp [HO.live] at hl
  · have l1 := get_lt h3
    have l2 := get_lt h4
    simp only [hget id l1] at h1
    simp only [hget id' l2] at h2
    exact h.dis id id' info info' o o' b b' h1 h2 (by rw [List.getElem?_append_left l1]; exact h3) (by rw [List.getElem?_append_left l2]; exact h4) h5 h6 hne h7 h8

theorem Step.drop {G G' : Gh} {w w' : World} {n : Nat} (h : Step G w G' w') (hn : G.s.length ≤ n) : Step G w ⟨G'.base, G'.K, G'.s.take n⟩ w' where
  bs := h.bs
  k := h.k
  kn := h.kn
  s id info hi := by
    obtain ⟨i', g, r⟩ := h.s id info hi
    exact ⟨i', by simpa [List.getElem?_take_of_lt (Nat.lt_of_lt_of_le (get_lt hi) hn)] using g, r⟩
  os := h.os
  tape := h.tape
  output := h.output
  size := h.size
  heap := h.heap
  new b := by
    rintro ⟨id, info, hi, hb⟩
    refine h.new b ⟨id, info, ?_, hb⟩
    simp only [List.getElem?_take] at hi
    split at hi
    · exact hi
    · cases hi

def ScE (n : Nat) : Env → Prop
  | [] => True
  | (_, h) :: r => Scd n h ∧ ScE n r

theorem ScE_lk {n : Nat} : ∀ {E : Env}, ScE n E → ∀ m h, lk E m = some h → Scd n h
  | [], _, m, h, hl => by simp [lk] at hl
  | (m0, v) :: r, hs, m, h, hl => by
    simp only [lk] at hl
    by_cases e : m0 = m
    · rw [if_pos e] at hl
      cases hl
      exact hs.1
    · rw [if_neg e] at hl
      exact ScE_lk hs.2 m h hl

theorem REnv.drop {G : Gh} {a : Act} {E : Env} {n : Nat} (h : REnv N G a E) (hs : ScE n E) : REnv N ⟨G.base, G.K, G.s.take n⟩ a E :=
  ⟨h.size, h.defers, fun m x hx => let ⟨v, h1, h2⟩ := h.get m x hx; ⟨v, h1, h2.restrict (n := n) rfl (fun _ _ _ h => h) (fun _ hid => List.getElem?_take_of_lt hid) (ScE_lk hs m x hx)⟩⟩

/-- A LOOP, letting go what a round has made and nobody needs any more. -/
theorem Sem.loopD {c : HCode} {env : Env} {st : St} {Q : HExit → Env → St → Prop} {ι : Type} (E : ι → Env) (S : ι → St) (I : ι → Prop) (μ : ι → Nat) (i0 : ι) (h0 : I i0) (hE : sub (E i0) env) (hS : st = S i0)
    (hsc : ∀ i, I i → ScSt (S i) ∧ ScE (S i).length (E i) ∧ st.length ≤ (S i).length)
    (round : ∀ i, I i → vc P fz N c (E i) (S i) fun e env' st' => match e with
      | .normal => ∃ j, I j ∧ μ j < μ i ∧ sub (E j) env' ∧ ∃ junk, st' = S j ++ junk
      | .exit id => Q (.exit id) env' st'
      | .ret => Q .ret env' st') : Sem P N (.loop c) env st Q := by
  intro code hs G w a Q' hr he hQ
  obtain ⟨x, rfl, h1⟩ := strip_loop hs
  have hlen := hr.len
  subst hS
  refine wp_loop_ghost (fun n a' w' => ∃ i G', I i ∧ μ i = n ∧ Rel P G' (S i) w' ∧ REnv N G' a' (E i) ∧ Step G w G' w') (μ i0) ⟨i0, G, h0, rfl, hr, he.sub hE, Step.refl _ _⟩ ?_
  rintro n a' w' ⟨i, G', hi, rfl, r1, r2, r3⟩
  refine vc_sound_at h1 (round i hi) r1 r2 fun e env' st' G'' a'' w'' q s1 s2 s3 => ?_
  cases e with
  | normal =>
    obtain ⟨j, hj, hlt, hsub, junk, rfl⟩ := q
    obtain ⟨c1, c2, c3⟩ := hsc j hj
    exact ⟨μ j, hlt, j, _, hj, rfl, s1.drop c1, (s2.sub hsub).drop c2, (r3.trans s3).drop (by omega)⟩
  | exit id => exact hQ _ _ _ _ _ _ q s1 s2 (r3.trans s3)
  | ret => exact hQ _ _ _ _ _ _ q s1 s2 (r3.trans s3)

/-- A LOOP that counts up. -/
theorem Sem.upto {c : HCode} {env : Env} {st : St} {Q : HExit → Env → St → Prop} (n : Nat) (E : Nat → Env) (S : Nat → St) (J : Nat → Prop) (h0 : J 0) (hE : sub (E 0) env) (hS : st = S 0)
    (hsc : ∀ i, i ≤ n → J i → ScSt (S i) ∧ ScE (S i).length (E i) ∧ st.length ≤ (S i).length)
    (round : ∀ i, i ≤ n → J i → vc P fz N c (E i) (S i) fun e env' st' => match e with
      | .normal => i < n ∧ J (i + 1) ∧ sub (E (i + 1)) env' ∧ ∃ junk, st' = S (i + 1) ++ junk
      | .exit id => Q (.exit id) env' st'
      | .ret => Q .ret env' st') : Sem P N (.loop c) env st Q := by
  intro code hs G w a Q' hr he hQ
  obtain ⟨x, rfl, h1⟩ := strip_loop hs
  have hlen := hr.len
  subst hS
  refine wp_loop_ghost (fun k a' w' => ∃ i G', (i ≤ n ∧ J i) ∧ n - i = k ∧ Rel P G' (S i) w' ∧ REnv N G' a' (E i) ∧ Step G w G' w') n ⟨0, G, ⟨Nat.zero_le _, h0⟩, rfl, hr, he.sub hE, Step.refl _ _⟩ ?_
  rintro k a' w' ⟨i, G', hi, rfl, r1, r2, r3⟩
  refine vc_sound_at h1 (round i hi.1 hi.2) r1 r2 fun e env' st' G'' a'' w'' q s1 s2 s3 => ?_
  cases e with
  | normal =>
    obtain ⟨hlt, hj, hsub, junk, rfl⟩ := q
    obtain ⟨c1, c2, c3⟩ := hsc (i + 1) hlt hj
    exact ⟨n - (i + 1), by omega, i + 1, _, ⟨hlt, hj⟩, rfl, s1.drop c1, (s2.sub hsub).drop c2, (r3.trans s3).drop (by omega)⟩
  | exit id => exact hQ _ _ _ _ _ _ q s1 s2 (r3.trans s3)
  | ret => exact hQ _ _ _ _ _ _ q s1 s2 (r3.trans s3)

/-! ### with an answer for each way out -/

def Qof (kn : Env → St → Prop) (kx : Nat → Env → St → Prop) (kr : Env → St → Prop) : HExit → Env → St → Prop
  | .normal => kn
  | .exit i => kx i
  | .ret => kr

def wc (P : Program) (fz : Bool) (N : Nat) : HCode → Env → St → (Env → St → Prop) → (Nat → Env → St → Prop) → (Env → St → Prop) → Prop
  | .skip, env, st, kn, _, _ => kn env st
  | .reg ops, env, st, kn, _, _ => vcOps P fz ops env st kn
  | .dreg p, env, st, kn, _, _ => dvc P fz p env st kn
  | .seq a b, env, st, kn, kx, kr => wc P fz N a env st (fun env' st' => wc P fz N b env' st' kn kx kr) kx kr
  | .cond c a b, env, st, kn, kx, kr => match ev env c with
    | some (.bool t) => (t = true → wc P fz N a env st kn kx kr) ∧ (t = false → wc P fz N b env st kn kx kr)
    | _ => False
  | .block id c, env, st, kn, kx, kr => wc P fz N c env st kn (fun i env' st' => if i = id then kn env' st' else kx i env' st') kr
  | .loop c, env, st, kn, kx, kr => Sem P N (.loop c) env st (Qof kn kx kr)
  | .exit id, env, st, _, kx, _ => kx id env st
  | .ret, env, st, _, _, kr => kr env st

theorem wc_eq : ∀ (c : HCode) (env : Env) (st : St) (kn : Env → St → Prop) (kx : Nat → Env → St → Prop) (kr : Env → St → Prop), wc P fz N c env st kn kx kr = vc P fz N c env st (Qof kn kx kr) := by
  intro c
  induction c with
  | seq a b iha ihb =>
    intro env st kn kx kr
    simp only [wc, vc]
    rw [iha]
    congr 1
    funext e env' st'
    cases e with
    | normal => exact ihb _ _ _ _ _
    | exit i => rfl
    | ret => rfl
  | cond c a b iha ihb =>
    intro env st kn kx kr
    simp only [wc, vc, iha, ihb]
  | block id c ih =>
    intro env st kn kx kr
    simp only [wc, vc]
    rw [ih]
    congr 1
    funext e env' st'
    cases e <;> rfl
  | _ => intro env st kn kx kr; rfl

/-- A LOOP that counts up. -/
theorem Sem.count {c : HCode} {env : Env} {st : St} {kn : Env → St → Prop} {kx : Nat → Env → St → Prop} {kr : Env → St → Prop} (n : Nat) (E : Nat → Env) (S : Nat → St) (J : Nat → Prop) (h0 : J 0) (hE : sub (E 0) env) (hS : st = S 0)
    (hsc : ∀ i, i ≤ n → J i → ScSt (S i) ∧ ScE (S i).length (E i) ∧ st.length ≤ (S i).length)
    (round : ∀ i, i ≤ n → J i → wc P fz N c (E i) (S i) (fun env' st' => i < n ∧ J (i + 1) ∧ sub (E (i + 1)) env' ∧ ∃ junk, st' = S (i + 1) ++ junk) kx kr) : Sem P N (.loop c) env st (Qof kn kx kr) := by
  refine Sem.upto (fz := fz) n E S J h0 hE hS hsc fun i hi hJ => ?_
  have := round i hi hJ
  rw [wc_eq] at this
  have e : (fun e env' st' => match e with
      | .normal => i < n ∧ J (i + 1) ∧ sub (E (i + 1)) env' ∧ ∃ junk, st' = S (i + 1) ++ junk
      | .exit id => Qof kn kx kr (.exit id) env' st'
      | .ret => Qof kn kx kr .ret env' st') = Qof (fun env' st' => i < n ∧ J (i + 1) ∧ sub (E (i + 1)) env' ∧ ∃ junk, st' = S (i + 1) ++ junk) kx kr := by
    funext e env' st'
    cases e <;> rfl
  rw [e]
  exact this

/-- A LOOP, by whatever tells its rounds apart. -/
theorem Sem.rounds {c : HCode} {env : Env} {st : St} {kn : Env → St → Prop} {kx : Nat → Env → St → Prop} {kr : Env → St → Prop} {ι : Type} (E : ι → Env) (S : ι → St) (I : ι → Prop) (μ : ι → Nat) (i0 : ι) (h0 : I i0) (hE : sub (E i0) env) (hS : st = S i0)
    (hsc : ∀ i, I i → ScSt (S i) ∧ ScE (S i).length (E i) ∧ st.length ≤ (S i).length)
    (round : ∀ i, I i → wc P fz N c (E i) (S i) (fun env' st' => ∃ j, I j ∧ μ j < μ i ∧ sub (E j) env' ∧ ∃ junk, st' = S j ++ junk) kx kr) : Sem P N (.loop c) env st (Qof kn kx kr) := by
  refine Sem.loopD (fz := fz) E S I μ i0 h0 hE hS hsc fun i hi => ?_
  have := round i hi
  rw [wc_eq] at this
  have e : (fun e env' st' => match e with
      | .normal => ∃ j, I j ∧ μ j < μ i ∧ sub (E j) env' ∧ ∃ junk, st' = S j ++ junk
      | .exit id => Qof kn kx kr (.exit id) env' st'
      | .ret => Qof kn kx kr .ret env' st') = Qof (fun env' st' => ∃ j, I j ∧ μ j < μ i ∧ sub (E j) env' ∧ ∃ junk, st' = S j ++ junk) kx kr := by
    funext e env' st'
    cases e <;> rfl
  rw [e]
  exact this

/-! ### functions -/

def cnT (st : St) : List HV → List HV × St
  | [] => ([], st)
  | h :: hs => let a := cnA true st h
    let b := cnT a.2 hs
    (a.1 :: b.1, b.2)

def cnR (st : St) : HV → HV × St
  | .tup l => let a := cnT st l
    (.tup a.1, a.2)
  | h => cnA true st h

theorem cnT_sound {P : Program} {w : World} : ∀ {hs : List HV} {G : Gh} {st : St} {vs : List Value}, Rel P G st w → R G (.vals vs hs) →
    ∃ G', Rel P G' (cnT st hs).2 w ∧ R G' (.vals vs (cnT st hs).1) ∧ Step G w G' w
  | [], G, st, vs, hr, hv => ⟨G, hr, hv, Step.refl _ _⟩
  | h :: hs, G, st, vs, hr, hv => by
    cases hv with
    | vcons h1 h2 =>
      obtain ⟨G1, a1, a2, a3⟩ := cnA_sound true hr h1
      obtain ⟨G2, b1, b2, b3⟩ := cnT_sound (hs := hs) a1 (h2.mono a3)
      exact ⟨G2, b1, .vcons (a2.mono b3) b2, a3.trans b3⟩

theorem cnR_sound {P : Program} {w : World} {G : Gh} {st : St} {v : Value} {h : HV} (hr : Rel P G st w) (hv : R G (.val v h)) :
    ∃ G', Rel P G' (cnR st h).2 w ∧ R G' (.val v (cnR st h).1) ∧ Step G w G' w := by
  unfold cnR
  split
  · cases hv with
    | tup h =>
      obtain ⟨G', g1, g2, g3⟩ := cnT_sound hr h
      exact ⟨G', g1, .tup g2, g3⟩
  · exact cnA_sound true hr hv

/-- A slice that is handed on as one's own; nil is an object without a block. -/
def cnO (sz : Nat) (st : St) : HV → HV × St
  | .nils => (.own st.length 0, st ++ [.arr sz [] true])
  | h => (h, st)

theorem cnO_sound {P : Program} {w : World} {G : Gh} {st : St} {v : Value} {h : HV} (sz : Nat) (hr : Rel P G st w) (hv : R G (.val v h)) :
    ∃ G', Rel P G' (cnO sz st h).2 w ∧ R G' (.val v (cnO sz st h).1) ∧ Step G w G' w := by
  unfold cnO
  split
  · obtain ⟨h1, h2⟩ := hr.new (w' := w) (o := .arr sz [] true) (l := []) (m := true) (info := ⟨none, sz, 0, 0⟩) rfl rfl rfl rfl rfl (Nat.le_refl _) (fun _ _ => rfl) (fun b hb => by cases hb)
      ⟨rfl, Nat.le_refl _, by simp [lim], (fun x hx => by cases hx), (fun c hc => by simp at hc), ⟨(fun _ => rfl), Nat.zero_le _⟩, (fun b hb => by cases hb)⟩
    refine ⟨_, h1, ?_, h2⟩
    cases hv with
    | nils => exact .own (info := ⟨none, sz, 0, 0⟩) (by simp [hr.len]) (Nat.le_refl _) fun _ => ⟨(fun b hb => by cases hb), rfl⟩
  · exact ⟨G, hr, hv, Step.refl _ _⟩

def cnMs : List (Option Nat) → St → List HV → List HV × St
  | some sz :: ms, st, h :: hs => let a := cnO sz st h
    let b := cnMs ms a.2 hs
    (a.1 :: b.1, b.2)
  | none :: ms, st, h :: hs => let a := cnA true st h
    let b := cnMs ms a.2 hs
    (a.1 :: b.1, b.2)
  | _, st, hs => (hs, st)

def cnM (ms : List (Option Nat)) (st : St) : HV → HV × St
  | .tup l => let a := cnMs ms st l
    (.tup a.1, a.2)
  | h => match ms with
    | [some sz] => cnO sz st h
    | _ => cnA true st h

theorem cnMs_sound {P : Program} {w : World} : ∀ {ms : List (Option Nat)} {hs : List HV} {G : Gh} {st : St} {vs : List Value}, Rel P G st w → R G (.vals vs hs) →
    ∃ G', Rel P G' (cnMs ms st hs).2 w ∧ R G' (.vals vs (cnMs ms st hs).1) ∧ Step G w G' w
  | [], hs, G, st, vs, hr, hv => ⟨G, hr, hv, Step.refl _ _⟩
  | some sz :: ms, [], G, st, vs, hr, hv => ⟨G, hr, hv, Step.refl _ _⟩
  | none :: ms, [], G, st, vs, hr, hv => ⟨G, hr, hv, Step.refl _ _⟩
  | some sz :: ms, h :: hs, G, st, vs, hr, hv => by
    cases hv with
    | vcons h1 h2 =>
      obtain ⟨G1, a1, a2, a3⟩ := cnO_sound sz hr h1
      obtain ⟨G2, b1, b2, b3⟩ := cnMs_sound (ms := ms) a1 (h2.mono a3)
      exact ⟨G2, b1, .vcons (a2.mono b3) b2, a3.trans b3⟩
  | none :: ms, h :: hs, G, st, vs, hr, hv => by
    cases hv with
    | vcons h1 h2 =>
      obtain ⟨G1, a1, a2, a3⟩ := cnA_sound true hr h1
      obtain ⟨G2, b1, b2, b3⟩ := cnMs_sound (ms := ms) a1 (h2.mono a3)
      exact ⟨G2, b1, .vcons (a2.mono b3) b2, a3.trans b3⟩

theorem cnM_sound {P : Program} {w : World} {G : Gh} {st : St} {v : Value} {h : HV} {ms : List (Option Nat)} (hr : Rel P G st w) (hv : R G (.val v h)) :
    ∃ G', Rel P G' (cnM ms st h).2 w ∧ R G' (.val v (cnM ms st h).1) ∧ Step G w G' w := by
  unfold cnM
  split
  · cases hv with
    | tup h =>
      obtain ⟨G', g1, g2, g3⟩ := cnMs_sound (ms := ms) hr h
      exact ⟨G', g1, .tup g2, g3⟩
  · split
    · exact cnO_sound _ hr hv
    · exact cnA_sound true hr hv

def resV (env : Env) (st : St) : Nat × Option (Bool × Nat) → Option HV
  | (t, none) => lk env t
  | (t, some (ag, n)) => match lk env t with
    | some (.ptr id m i off) => match (st[id]?).bind items with
      | some l => if l.length = m then (match l[i]? with
        | some x => ld ag off n x
        | none => none) else none
      | none => none
    | _ => none

def resL (env : Env) (st : St) : List (Nat × Option (Bool × Nat)) → Option (List HV)
  | [] => some []
  | r :: rs => match resV env st r, resL env st rs with
    | some h, some hs => some (h :: hs)
    | _, _ => none

def resE (env : Env) (st : St) : List (Nat × Option (Bool × Nat)) → Option HV
  | [r] => resV env st r
  | rs => (resL env st rs).map .tup

def rsem (tmps : Array Value) : ResultVar → Go.Sem Value
  | .tmp t => pure (tmps.getD t undef)
  | .cell a t => (asAddr (tmps.getD a undef)).bind fun p => loadVar t p

theorem results_rsem (fn : Func) (tmps : Array Value) : results fn tmps = (do
    let vs ← fn.results.mapM (rsem tmps)
    pure (if h : vs.size = 1 then vs[0] else .tuple vs)) := by
  unfold results
  congr 1

def envOf : Nat → List HV → Env
  | _, [] => []
  | i, h :: hs => (i, h) :: envOf (i + 1) hs

theorem envOf_lk : ∀ {hs : List HV} {i n : Nat} {h : HV}, lk (envOf i hs) n = some h → i ≤ n ∧ hs[n - i]? = some h
  | [], i, n, h, hl => by simp [envOf, lk] at hl
  | x :: hs, i, n, h, hl => by
    simp only [envOf, lk] at hl
    by_cases e : i = n
    · subst e
      simp at hl
      subst hl
      simp
    · rw [if_neg e] at hl
      obtain ⟨h1, h2⟩ := envOf_lk hl
      refine ⟨by omega, ?_⟩
      rw [show n - i = (n - (i + 1)) + 1 by omega]
      simpa using h2

/-- What code asks for inside a call: what the call was handed (m objects) stays as Step says; all else is the call's own. -/
def SemF (P : Program) (N m : Nat) (hc : HCode) (env : Env) (st : St) (Q : HExit → Env → St → Prop) : Prop :=
  ∀ code, strip P N code = some hc → ∀ G0 w0 G w a (Q' : Exit → Act → World → Prop), G0.s.length = m → Step G0 w0 G w → Rel P G st w → REnv N G a env →
    (∀ e env' st' G' a' w', Q e env' st' → Rel P G' st' w' → REnv N G' a' env' → Step G0 w0 G' w' → Q' e.low a' w') → code.wp P Q' a w

theorem Sem.toF {m : Nat} {hc : HCode} {env : Env} {st : St} {Q : HExit → Env → St → Prop} (h : Sem P N hc env st Q) : SemF P N m hc env st Q :=
  fun code hs G0 w0 G w a Q' _ hst hr he hQ => h code hs G w a Q' hr he fun e env' st' G' a' w' q r1 r2 r3 => hQ e env' st' G' a' w' q r1 r2 (hst.trans r3)

/-- A function, by its code. 'Pick': behind the call what nobody needs any more is let go. -/
theorem HC.introF {f : FuncId} {hf : HFunc} {args : List HV} {st : St} {post : HV → St → Prop} (hs : stripF P f = some hf) (hlen : args.length ≤ hf.ntmps)
    (hv : SemF P hf.ntmps st.length hf.body (envOf 0 args) st fun e env' st' => match e with
      | .exit _ => False
      | _ => ∃ h, resE env' st' hf.results = some h ∧ (ScSt st → post h st')) : HC P f args st post := by
  unfold stripF at hs
  simp only [Option.bind_eq_bind, Option.bind_eq_some_iff] at hs
  obtain ⟨fn, h1, b, h2, h⟩ := hs
  split at h
  · cases h
  · rename_i hname
    simp only [Option.bind_eq_some_iff, Option.pure_def] at h
    obtain ⟨rs, h3, body, h4, h⟩ := h
    cases h
    refine ⟨⟨fn, h1, by simp [h2], by simpa using hname⟩, fun G w vs hr hR => ?_⟩
    have hvl := hR.vals_length
    refine calls_of_wp h1 h2 ?_
    have hsc := hr.scd
    refine hv _ h4 G w _ _ _ _ hr.len (Step.refl _ _) hr ?_ ?_
    · refine ⟨by simp only [] at hlen; simp; omega, rfl, fun n h hl => ?_⟩
      obtain ⟨_, hn⟩ := envOf_lk hl
      simp only [Nat.sub_zero] at hn
      obtain ⟨v, hv1, hv2⟩ := hR.vals_get n h hn
      refine ⟨v, ?_, hv2⟩
      rw [Array.getElem?_append_left (by simpa using get_lt hv1)]
      simpa using hv1
    · intro e env' st' G' a' w' q r1 r2 r3
      have fin : (∃ h, resE env' st' rs = some h ∧ (ScSt st → post h st')) → ∃ v, (results fn a'.tmps).run P w' = .ok v w' ∧ ∃ v' r st' G', Ending.returned v = Ending.returned v' ∧ post r st' ∧ Rel P G' st' w' ∧ R G' (.val v' r) ∧ Step G w G' w' := by
        rintro ⟨h, he, hp⟩
        have hone : ∀ {x : ResultVar} {r : Nat × Option (Bool × Nat)} {y : HV}, (match x with
              | .tmp t => some (t, none)
              | .cell a t => (aggT P t).bind fun ag => (szT P t).bind fun n => some (a, some (ag, n))) = some r → resV env' st' r = some y →
            ∃ v, (rsem a'.tmps x).run P w' = .ok v w' ∧ R G' (.val v y) := by
          intro x r y hx hy
          cases x with
          | tmp t =>
            cases hx
            simp only [resV] at hy
            obtain ⟨v, q1, q2⟩ := r2.get _ _ hy
            exact ⟨v, by simp [rsem, Array.getD_eq_getD_getElem?, q1], q2⟩
          | cell c t =>
            simp only [Option.bind_eq_some_iff] at hx
            obtain ⟨ag, k1, n, k2, hx⟩ := hx
            cases hx
            simp only [resV] at hy
            split at hy
            · rename_i id m i off hlk
              obtain ⟨v, q1, q2⟩ := r2.get _ _ hlk
              split at hy
              · rename_i l hb
                split at hy
                · rename_i hlm
                  subst hlm
                  split at hy
                  · rename_i z hz
                    simp only [Option.bind_eq_some_iff] at hb
                    obtain ⟨ob, hob, hit⟩ := hb
                    obtain ⟨mu, hlive⟩ := items_live hit
                    cases q2 with
                    | ptr hi hn hp' =>
                      rename_i p info
                      obtain ⟨_, hf'⟩ := r1.obj id _ _ hi hob
                      have rl := hf' l mu hlive
                      obtain ⟨b, hb, rfl⟩ := hp' rl.n
                      obtain ⟨cc, t', us, h1, h2, h3, h4, h5, h6, h7⟩ := rl.row b hb
                      obtain ⟨v, hrun, hR⟩ := ld_sound (base := 0) k1 k2 rl.uni hz h3 rl.flat (fun k u hk => by simpa using cell_of_row h1 (h4 k u hk)) hy
                      refine ⟨v, ?_, hR⟩
                      have hget : a'.tmps.getD c undef = .pointer (some ⟨b, i * info.sz + off, none⟩) := by simp [Array.getD_eq_getD_getElem?, q1]
                      show ((asAddr (a'.tmps.getD c undef)).bind fun p => loadVar t p).run P w' = _
                      rw [hget]
                      show (loadVar t _).run P w' = _
                      simpa using hrun
                  · cases hy
                · cases hy
              · cases hy
            · cases hy
        have hrun : ∀ {f0 : ResultVar → Option (Nat × Option (Bool × Nat))}, (∀ x, f0 x = (match x with
              | .tmp t => some (t, none)
              | .cell a t => (aggT P t).bind fun ag => (szT P t).bind fun n => some (a, some (ag, n)))) → ∀ {rl : List ResultVar} {rs : List (Nat × Option (Bool × Nat))} {hs : List HV}, rl.mapM f0 = some rs → resL env' st' rs = some hs →
            ∃ vs', (rl.mapM (rsem a'.tmps)).run P w' = .ok vs' w' ∧ R G' (.vals vs' hs) := by
          intro f0 hf0 rl
          induction rl with
          | nil => intro rs hs h1 h2; simp at h1; subst h1; simp [resL] at h2; subst h2; exact ⟨[], rfl, .vnil⟩
          | cons x rl ih =>
            intro rs hs h1 h2
            simp only [List.mapM_cons, Option.pure_def, Option.bind_eq_bind, Option.bind_eq_some_iff] at h1
            obtain ⟨t, ht, ts, hts, h⟩ := h1
            cases h
            simp only [resL] at h2
            split at h2
            · rename_i y ys e1 e2
              cases h2
              obtain ⟨vs', g1, g2⟩ := ih hts e2
              rw [hf0] at ht
              obtain ⟨v, q1, q2⟩ := hone ht e1
              refine ⟨v :: vs', ?_, .vcons q2 g2⟩
              simp only [List.mapM_cons, Sem.run_bind, q1, Sem.run_pure, Result.andThen_ok, g1]
            · cases h2
        have hmain : ∃ v, (results fn a'.tmps).run P w' = .ok v w' ∧ R G' (.val v h) := by
          have hfr : fn.results = fn.results.toList.toArray := by simp
          rw [results_rsem, hfr, List.mapM_toArray, Sem.run_bind, Sem.run_map]
          unfold resE at he
          split at he
          · rename_i r
            have hres : resL env' st' [r] = some [h] := by simp [resL, he]
            obtain ⟨vs', g1, g2⟩ := hrun (fun x => by cases x <;> rfl) h3 hres
            rw [g1]
            have := g2.vals_length
            match vs', this with
            | [v], _ =>
              simp only [Result.andThen_ok]
              exact ⟨v, rfl, g2.vals_cons.1⟩
          · rename_i hne
            simp only [Option.map_eq_some_iff] at he
            obtain ⟨hs, he1, rfl⟩ := he
            obtain ⟨vs', g1, g2⟩ := hrun (fun x => by cases x <;> rfl) h3 he1
            rw [g1]
            refine ⟨.tuple vs'.toArray, ?_, .tup g2⟩
            have hl : vs'.length ≠ 1 := by
              rw [g2.vals_length]
              intro h1
              have : rs.length = 1 := by
                have : ∀ {rs : List (Nat × Option (Bool × Nat))} {hs : List HV}, resL env' st' rs = some hs → rs.length = hs.length := by
                  intro rs
                  induction rs with
                  | nil => intro hs h; simp [resL] at h; subst h; rfl
                  | cons r rs ih =>
                    intro hs h
                    simp only [resL] at h
                    split at h
                    · cases h; simp [ih (by assumption)]
                    · cases h
                rw [this he1]; exact h1
              match rs, this with
              | [r], _ => exact hne r rfl
            have : ¬ vs'.toArray.size = 1 := by simpa using hl
            simp only [Result.andThen_ok]
            rw [dif_neg this]
            rfl
        obtain ⟨v, g1, g2⟩ := hmain
        exact ⟨v, g1, v, h, st', G', rfl, hp hsc, r1, g2, r3⟩
      cases e with
      | normal => exact ⟨r2.defers, fin q⟩
      | exit id => exact q.elim
      | ret => exact ⟨r2.defers, fin q⟩

theorem HC.introS {f : FuncId} {hf : HFunc} {args : List HV} {st : St} {post : HV → St → Prop} (hs : stripF P f = some hf) (hlen : args.length ≤ hf.ntmps)
    (hv : Sem P hf.ntmps hf.body (envOf 0 args) st fun e env' st' => match e with
      | .exit _ => False
      | _ => ∃ h, resE env' st' hf.results = some h ∧ (ScSt st → post h st')) : HC P f args st post := HC.introF hs hlen hv.toF

/-- Behind a call: what is of one's own is looked at as changed no more; what lies behind is let go. -/
def Pick (n : Nat) (post : HV → St → Prop) (h : HV) (stf : St) : Prop :=
  ∃ st1 junk, (cnR stf h).2 = st1 ++ junk ∧ n ≤ st1.length ∧ ScSt st1 ∧ Scd st1.length (cnR stf h).1 ∧ post (cnR stf h).1 st1

theorem HC.pick {f : FuncId} {args : List HV} {st : St} {post : HV → St → Prop} (h : HC P f args st (Pick st.length post)) : HC P f args st post := by
  refine ⟨h.1, fun G w vs hr hR => ?_⟩
  refine (h.2 G w vs hr hR).mono fun e w' ⟨v, r, st', G', he, ⟨st1, junk, p1, p2, p3, p4, p5⟩, r1, r2, r3⟩ => ?_
  obtain ⟨G2, q1, q2, q3⟩ := cnR_sound r1 r2
  rw [p1] at q1
  refine ⟨v, _, st1, ⟨G2.base, G2.K, G2.s.take st1.length⟩, he, p5, q1.drop p3, ?_, (r3.trans q3).drop (by rw [hr.len]; exact p2)⟩
  exact q2.restrict (n := st1.length) rfl (fun _ _ _ h => h) (fun id hid => List.getElem?_take_of_lt hid) p4

theorem HC.mono {f : FuncId} {args : List HV} {st : St} {post post' : HV → St → Prop} (h : HC P f args st post) (hp : ∀ r st', post r st' → post' r st') : HC P f args st post' :=
  ⟨h.1, fun G w vs hr hR => (h.2 G w vs hr hR).mono fun _ _ ⟨v, r, st', G', he, p, rest⟩ => ⟨v, r, st', G', he, hp r st' p, rest⟩⟩

/-- A function of values alone. -/
def HCp (P : Program) (f : FuncId) (args : List HV) (r : HV) : Prop := HC P f args [] fun r' st' => r' = r ∧ st' = []

theorem Sem.mono {hc : HCode} {env : Env} {st : St} {Q Q' : HExit → Env → St → Prop} (h : Sem P N hc env st Q) (hq : ∀ e env st, Q e env st → Q' e env st) : Sem P N hc env st Q' :=
  fun code hs G w a R hr he hQ => h code hs G w a R hr he fun e env' st' G' a' w' q => hQ e env' st' G' a' w' (hq _ _ _ q)

theorem HCp.intro {f : FuncId} {hf : HFunc} {args : List HV} {r : HV} (fz : Bool) (hs : stripF P f = some hf) (hlen : args.length ≤ hf.ntmps) (hr : Scd 0 r)
    (hv : vc P fz hf.ntmps hf.body (envOf 0 args) [] fun e env' st' => match e with
      | .exit _ => False
      | _ => ∃ h, resE env' st' hf.results = some h ∧ (cnR st' h).1 = r) : HCp P f args r := by
  refine HC.pick (HC.introS hs hlen ((vc_sound hv).mono fun e env' st' h => ?_))
  have main : (∃ h, resE env' st' hf.results = some h ∧ (cnR st' h).1 = r) → ∃ h, resE env' st' hf.results = some h ∧ (ScSt ([] : St) → Pick ([] : St).length (fun r' st' => r' = r ∧ st' = []) h st') := by
    rintro ⟨h, h1, h2⟩
    exact ⟨h, h1, fun _ => ⟨[], (cnR st' h).2, rfl, Nat.le_refl _, (fun o ho => by cases ho), by rw [h2]; exact hr, h2, rfl⟩⟩
  cases e with
  | normal => exact main h
  | exit id => exact h.elim
  | ret => exact main h

/-- What a function yields. -/
def Yield (rs : List (Nat × Option (Bool × Nat))) (r : HV) (env : Env) (st : St) : Prop := ∃ h, resE env st rs = some h ∧ (cnR st h).1 = r

theorem HCp.mk {f : FuncId} {hf : HFunc} {args : List HV} {r : HV} (fz : Bool) (hs : stripF P f = some hf) (hlen : args.length ≤ hf.ntmps) (hr : Scd 0 r)
    (hv : wc P fz hf.ntmps hf.body (envOf 0 args) [] (Yield hf.results r) (fun _ _ _ => False) (Yield hf.results r)) : HCp P f args r := by
  refine HCp.intro fz hs hlen hr ?_
  rw [wc_eq] at hv
  have e : (fun e env' st' => match e with
      | .exit _ => False
      | _ => ∃ h, resE env' st' hf.results = some h ∧ (cnR st' h).1 = r) = Qof (Yield hf.results r) (fun _ _ _ => False) (Yield hf.results r) := by
    funext e env' st'
    cases e <;> rfl
  rw [e]
  exact hv

/-- A function of values alone, called in whatever store. -/
theorem HCp.call {f : FuncId} {args : List HV} {r : HV} {st : St} {k : HV → St → Prop} (h : HCp P f args r) (ha : ScdL 0 args) (hr : Scd 0 r) (hk : k r st) : HC P f args st k := by
  refine ⟨h.1, fun G w vs hrel hR => ?_⟩
  have hrel0 : Rel P ⟨G.base, G.K, []⟩ [] w := ⟨rfl, hrel.kc, fun id info o hi => by simp at hi, fun id id' info info' o o' b b' hi => by simp at hi, hrel.tab.of rfl (Nat.le_refl _) (fun _ _ _ => rfl) fun b ⟨id, info, hi, _⟩ => by simp at hi⟩
  have hR0 : R ⟨G.base, G.K, []⟩ (.vals vs args) := hR.restrict (n := 0) rfl (fun _ _ _ h => h) (fun id hid => by omega) ha
  refine (h.2 _ w vs hrel0 hR0).mono fun e w' ⟨v, r', st', G', he, ⟨e1, e2⟩, r1, r2, r3⟩ => ?_
  subst e1 e2
  have noS : ∀ b, ¬ inS ([] : List Info) b := by rintro b ⟨id, info, hi, _⟩; simp at hi
  have hK : ∀ b i u, G.K b i = some u → G'.K b i = some u := r3.k
  have hss : ∀ (id : Nat) (info : Info), G.s[id]? = some info → ∃ info', G.s[id]? = some info' ∧ info.n ≤ info'.n ∧ info'.sz = info.sz ∧ (info'.n = info.n → info' = info) := fun id info hi => ⟨info, hi, Nat.le_refl _, rfl, fun _ => rfl⟩
  refine ⟨v, r', st, ⟨G.base, G'.K, G.s⟩, he, hk, ⟨hrel.len, r1.kc, fun id info o hi ho => ?_, hrel.dis, hrel.tab.of rfl r3.size (fun k hk _ => r3.heap k hk (noS k)) fun b h => .inl h⟩, r2.restrict (n := 0) r3.bs.symm (fun _ _ _ h => h) (fun id hid => by omega) hr, ⟨rfl, hK, ?_, hss, r3.os, r3.tape, r3.output, r3.size, fun k hk _ => r3.heap k hk (noS k), fun b h => .inl h⟩⟩
  · obtain ⟨z, f⟩ := hrel.obj id info o hi ho
    refine ⟨z, fun l m hl => (f l m hl).mono rfl hK hss (fun b hb => r3.heap b (hrel.blk_lt hi ho hl hb) (noS b)) fun b i hb hn => ?_⟩
    cases hq : G'.K b i with
    | none => rfl
    | some u =>
      rcases r3.kn b i u hq with g | g | g
      · simp only at g; rw [hn] at g; cases g
      · have := hrel.blk_lt hi ho hl hb; omega
      · exact absurd g (noS b)
  · intro b i u hu
    rcases r3.kn b i u hu with g | g | g
    · exact .inl g
    · exact .inr (.inl g)
    · exact absurd g (noS b)

/-- Arguments are looked at as changed no more. -/
theorem HC.view {f : FuncId} {args : List HV} {st : St} {k : HV → St → Prop} (h : HC P f (cnT st args).1 (cnT st args).2 k) : HC P f args st k := by
  refine ⟨h.1, fun G w vs hr hR => ?_⟩
  obtain ⟨G', g1, g2, g3⟩ := cnT_sound hr hR
  exact (h.2 G' w vs g1 g2).mono fun e w' ⟨v, r, st', G2, he, p, r1, r2, r3⟩ => ⟨v, r, st', G2, he, p, r1, r2, g3.trans r3⟩


/-- Arguments are looked at as changed no more, or handed on as one's own. -/
theorem HC.viewM {f : FuncId} {args : List HV} {st : St} {k : HV → St → Prop} (ms : List (Option Nat)) (h : HC P f (cnMs ms st args).1 (cnMs ms st args).2 k) : HC P f args st k := by
  refine ⟨h.1, fun G w vs hr hR => ?_⟩
  obtain ⟨G', g1, g2, g3⟩ := cnMs_sound (ms := ms) hr hR
  exact (h.2 G' w vs g1 g2).mono fun e w' ⟨v, r, st', G2, he, p, r1, r2, r3⟩ => ⟨v, r, st', G2, he, p, r1, r2, g3.trans r3⟩

end
end HL
