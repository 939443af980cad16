/- HL: operations, fourth part: numbers and texts, fields of values, slices made. -/
import Derived.Test.YtamneeogomklgaaGreatHLSound3
import Derived.Laws.Strings
import Derived.Laws.Small
set_option linter.unusedSimpArgs false
set_option linter.unusedVariables false
set_option linter.unusedSectionVars false
namespace HL
open Go
section
variable {P : Program} {N : Nat} {fz : Bool} {env : Env} {st : St} {k : HV → St → Prop} {G : Gh} {w : World} {a : Act} {o : Oper}
theorem ba_eq {s t : ByteArray} : (s.toList == t.toList) = decide (s = t) := by
  rw [ByteArray.toList_eq, ByteArray.toList_eq]
  by_cases h : s = t
  · subst h; simp
  · have : s.data.toList ≠ t.data.toList := fun e => h (by
      cases s; cases t; simp at e; simp [e])
    simp only [h, decide_false]
    simpa using this
theorem do_fld {t : TypeId} {x : Operand} {hx : HArg} {f : Nat} {fs : Array Field} {fd : Field} {ag : Bool} {n : Nat} (ho : o.op = .field t x f) (hfs : fieldsT P t = some fs) (hfd : fs[f]? = some fd)
    (hta : aggT P fd.type = some ag) (htz : szT P fd.type = some n) (ha : arg x = some hx)
    (hv : vcOp P fz env st (.fld ag fd.offset n hx) k) (hr : Rel P G st w) (he : REnv N G a env) : Does P o a G w k := by
  have hu := fields_of hfs
  simp only [vcOp] at hv
  split at hv
  · rename_i cs hev
    split at hv
    · rename_i h hl
      have r := he.ev ha hev
      cases hx' : a.eval x with
      | agg vs =>
        rw [hx'] at r
        obtain ⟨vs', hvs, hf, r'⟩ : ∃ vs', vs = vs'.toArray ∧ (∀ c ∈ cs, c.flat = true) ∧ R G (.vals vs' cs) := by cases r with | agg hf h => exact ⟨_, rfl, hf, h⟩
        subst hvs
        have hpart : ∀ v, (part fd.type vs'.toArray fd.offset).run P w = .ok v w → R G (.val v h) → Does P o a G w k := by
          intro v hrun hR
          refine .val (v := v) ?_ hv hr hR
          simp [execOp, ho, hx', Instr.field, run_underlying hu, hfd, asAgg, hrun]
        cases ag with
        | true =>
          have fin : ∀ q, q = (cs.drop fd.offset).take n → fd.offset + n ≤ cs.length → h = .agg q → Does P o a G w k := by
            intro q hq hle he'
            subst hq he'
            refine hpart (.agg ((vs'.drop fd.offset).take n).toArray) ?_ (.agg (fun c hc => hf c (List.mem_of_mem_drop (List.mem_of_mem_take hc))) ((r'.vals_drop _).vals_take _))
            simp only [part, Sem.run_bind, run_isAgg hta, Result.andThen_ok, if_true, run_sizeOf htz]
            simp [List.extract_eq_take_drop]
          simp only [ld, if_true] at hl
          split at hl
          · rename_i hwhole
            obtain ⟨h0, _, hn⟩ := hwhole
            cases hl
            simp only [HV.cells] at hn
            exact fin cs (by rw [h0, ← hn]; simp) (by omega) rfl
          · split at hl
            · cases hl
              rename_i hle
              exact fin _ rfl hle rfl
            · cases hl
        | false =>
          simp only [ld, Bool.false_eq_true, if_false, HV.cells] at hl
          obtain ⟨u, h1, h2⟩ := r'.vals_get _ _ hl
          refine hpart u ?_ h2
          simp only [part, Sem.run_bind, run_isAgg hta, Result.andThen_ok, Bool.false_eq_true, if_false]
          simp [h1]
      | _ => rw [hx'] at r; cases r
    · exact hv.elim
  · exact hv.elim
theorem eqGuard_run {op : BinOp} {t : TypeId} {x y : Operand} {u v : Value} (h : (∀ p, u ≠ .agg p) ∧ u ≠ .nilIface) : (eqGuard op t x y u v).run P w = .ok () w := by
  unfold eqGuard
  cases u <;> first
    | exact absurd rfl (h.1 _)
    | exact absurd rfl h.2
    | (cases op <;> rfl)
theorem bin_int {op : BinOp} {t : TypeId} {kd : IntKind} {m n : Int} {r : HV} (h : binF op (.int kd m) (.int kd n) = some r) :
    ∃ v, (binOp op t (.int kd m) (.int kd n)).run P w = .ok v w ∧ R G (.val v r) := by
  have cmp : ∀ b : Bool, intCmpF op m n = some b → ∃ v, (binOp op t (.int kd m) (.int kd n)).run P w = .ok v w ∧ R G (.val v (.bool b)) := by
    intro b hb
    cases op <;> simp only [intCmpF] at hb <;> first
      | (cases hb; done)
      | (cases hb
         refine ⟨_, ?_, .bool⟩
         simp only [binOp, Op.intCmp, ne_eq, not_true_eq_false, if_false]
         first | rfl | (simp [Int.beq_eq_decide_eq]; done) | (simp; done))
  by_cases hq : op = .quo
  · subst hq
    simp only [binF, if_true] at h
    by_cases hz : n = 0
    · simp [hz] at h
    · simp only [hz, if_false] at h
      cases h
      exact ⟨_, by simp [binOp, Op.intDiv, hz], .int⟩
  by_cases hq2 : op = .rem
  · subst hq2
    simp only [binF, if_true] at h
    by_cases hz : n = 0
    · simp [hz] at h
    · simp only [hz, if_false] at h
      cases h
      exact ⟨_, by simp [binOp, Op.intDiv, hz], .int⟩
  simp only [binF, if_true] at h
  cases op <;> simp only at h <;> first
    | exact absurd rfl hq
    | exact absurd rfl hq2
    | (cases h; refine ⟨_, ?_, .int⟩; simp [binOp, Op.intBits, andI, orI, xorI]; done)
    | (cases h; exact ⟨_, by simp [binOp, Op.intArith], .int⟩)
    | (obtain ⟨b, h1, rfl⟩ := Option.map_eq_some_iff.1 h
       exact cmp b h1)
theorem bin_str {op : BinOp} {t : TypeId} {m n : ByteArray} {r : HV} (h : binF op (.str m) (.str n) = some r) :
    ∃ v, (binOp op t (.string m) (.string n)).run P w = .ok v w ∧ R G (.val v r) := by
  simp only [binF] at h
  cases op <;> simp only at h <;> first
    | (cases h; done)
    | (split at h
       · cases h
         rename_i hl
         have hs : (m ++ n).size = m.size + n.size := by simp
         refine ⟨_, ?_, .str (by rw [hs]; exact hl)⟩
         have : ¬ ((m.size + n.size : Nat) : Int) > IntKind.i64.max := by
           unfold lim at hl
           have : IntKind.i64.max = 9223372036854775807 := by decide
           omega
         simp only [binOp, Op.stringOp]
         rw [if_neg this]
         rfl
       · cases h)
    | (cases h; exact ⟨_, by simp only [binOp, Op.stringOp, ba_eq]; rfl, .bool⟩)
theorem bin_bool {op : BinOp} {t : TypeId} {m n : Bool} {r : HV} (hu : P.underlying t = some .bool) (h : bbinF op (.bool m) (.bool n) = some r) :
    ∃ v, (binOp op t (.bool m) (.bool n)).run P w = .ok v w ∧ R G (.val v r) := by
  have e : (Op.equal t (.bool m) (.bool n)).run P w = .ok (m == n) w := run_equalIn_bool w 9999 t m n hu
  simp only [bbinF] at h
  cases op <;> simp only at h <;> first
    | (cases h; done)
    | (cases h
       refine ⟨_, ?_, .bool⟩
       show ((do pure (.bool (← Op.equal t (.bool m) (.bool n))) : Sem Value).run P w) = _
       simp only [Sem.run_bind, e, Result.andThen_ok]
       rfl)
    | (cases h
       refine ⟨_, ?_, .bool⟩
       show ((do pure (.bool (!(← Op.equal t (.bool m) (.bool n)))) : Sem Value).run P w) = _
       simp only [Sem.run_bind, e, Result.andThen_ok]
       rfl)
theorem isNilp_sound {v : Value} {x : HV} {b : Bool} (hp : R G (.val v x)) (h : isNilp x = some b) : ∃ p, v = .pointer p ∧ b = p.isNone := by
  cases hp <;> simp [isNilp] at h <;> subst h <;> exact ⟨_, rfl, rfl⟩
theorem bin_ptr {op : BinOp} {t e : TypeId} {p : Option Addr} {b : Bool} {r : HV} (hu : P.underlying t = some (.pointer e)) (hb : b = p.isNone)
    (h : (match op with | .eql => some (HV.bool b) | .neq => some (.bool (!b)) | _ => none) = some r) :
    ∃ v, (binOp op t (.pointer p) (.pointer none)).run P w = .ok v w ∧ R G (.val v r) := by
  subst hb
  have eq : (Op.equal t (.pointer p) (.pointer none)).run P w = .ok p.isNone w := by
    have : ∀ d, (Op.equalIn (d + 1) t (.pointer p) (.pointer none)).run P w = .ok p.isNone w := by
      intro d
      cases p <;> simp [Op.equalIn, run_underlying hu]
    exact this 9999
  cases op <;> simp only at h <;> first
    | (cases h; done)
    | (cases h
       refine ⟨_, ?_, .bool⟩
       show ((do pure (.bool (← Op.equal t (.pointer p) (.pointer none))) : Sem Value).run P w) = _
       simp only [Sem.run_bind, eq, Result.andThen_ok]
       rfl)
    | (cases h
       refine ⟨_, ?_, .bool⟩
       show ((do pure (.bool (!(← Op.equal t (.pointer p) (.pointer none)))) : Sem Value).run P w) = _
       simp only [Sem.run_bind, eq, Result.andThen_ok]
       rfl)
theorem does_bin {op : BinOp} {t yt : TypeId} {x y : Operand} {r : HV} (ho : o.op = .binOp op t x y yt) (hr : Rel P G st w) (hv : k r st)
    (hrun : ∃ v, (binOp op t (a.eval x) (a.eval y)).run P w = .ok v w ∧ R G (.val v r)) (hne : (∀ z, a.eval x ≠ .agg z) ∧ a.eval x ≠ .nilIface) : Does P o a G w k := by
  obtain ⟨v, hrun, hR⟩ := hrun
  refine .val (v := v) ?_ hv hr hR
  simp [execOp, ho, eqGuard_run hne, hrun]
theorem do_bin {op : BinOp} {t yt : TypeId} {x y : Operand} {hx hy : HArg} (ho : o.op = .binOp op t x y yt) (ha : arg x = some hx) (hb : arg y = some hy)
    (hv : vcOp P fz env st (.bin op hx hy) k) (hr : Rel P G st w) (he : REnv N G a env) : Does P o a G w k := by
  simp only [vcOp] at hv
  split at hv
  · rename_i p q e1 e2
    split at hv
    · rename_i r hbin
      have r1 := he.ev ha e1
      have r2 := he.ev hb e2
      have fin := does_bin (P := P) (a := a) ho hr hv
      generalize a.eval x = ux at r1 fin
      generalize a.eval y = uy at r2 fin
      have hbin' := hbin
      unfold binF at hbin'
      split at hbin'
      · rename_i k1 m k2 n
        split at hbin'
        · rename_i hk
          subst hk
          cases r1
          cases r2
          exact fin (bin_int hbin) ⟨by simp, by simp⟩
        · cases hbin'
      · cases r1
        cases r2
        exact fin (bin_str hbin) ⟨by simp, by simp⟩
      · cases hbin'
    · exact hv.elim
  · exact hv.elim
theorem do_shft {op : BinOp} {t yt : TypeId} {x y : Operand} {hx hy : HArg} (ho : o.op = .binOp op t x y yt) (ha : arg x = some hx) (hb : arg y = some hy)
    (hv : vcOp P fz env st (.shft op hx hy) k) (hr : Rel P G st w) (he : REnv N G a env) : Does P o a G w k := by
  simp only [vcOp] at hv
  split at hv
  · rename_i p q e1 e2
    split at hv
    · rename_i r hbin
      have r1 := he.ev ha e1
      have r2 := he.ev hb e2
      have fin := does_bin (P := P) (a := a) ho hr hv
      generalize a.eval x = ux at r1 fin
      generalize a.eval y = uy at r2 fin
      unfold shftF at hbin
      split at hbin
      · rename_i k1 m k2 n
        cases r1
        cases r2
        refine fin ?_ ⟨by simp, by simp⟩
        split at hbin
        · rename_i hn
          have hn' : ¬ n < 0 := by omega
          split at hbin
          · cases hbin
            exact ⟨_, by simp [binOp, Op.shift, hn', shlI], .int⟩
          · cases hbin
            exact ⟨_, by simp [binOp, Op.shift, hn', shrI], .int⟩
          · cases hbin
        · cases hbin
      · cases hbin
    · exact hv.elim
  · exact hv.elim
theorem do_bbin {op : BinOp} {t yt : TypeId} {x y : Operand} {hx hy : HArg} (ho : o.op = .binOp op t x y yt) (hu : P.underlying t = some .bool) (ha : arg x = some hx) (hb : arg y = some hy)
    (hv : vcOp P fz env st (.bbin op hx hy) k) (hr : Rel P G st w) (he : REnv N G a env) : Does P o a G w k := by
  simp only [vcOp] at hv
  split at hv
  · rename_i p q e1 e2
    split at hv
    · rename_i r hbin
      have r1 := he.ev ha e1
      have r2 := he.ev hb e2
      have fin := does_bin (P := P) (a := a) ho hr hv
      generalize a.eval x = ux at r1 fin
      generalize a.eval y = uy at r2 fin
      have hbin' := hbin
      unfold bbinF at hbin'
      split at hbin'
      · cases r1
        cases r2
        exact fin (bin_bool hu hbin) ⟨by simp, by simp⟩
      · cases hbin'
    · exact hv.elim
  · exact hv.elim
theorem do_pbin {op : BinOp} {t yt e : TypeId} {x y : Operand} {hx hy : HArg} (ho : o.op = .binOp op t x y yt) (hu : P.underlying t = some (.pointer e)) (ha : arg x = some hx) (hb : arg y = some hy)
    (hv : vcOp P fz env st (.pbin op hx hy) k) (hr : Rel P G st w) (he : REnv N G a env) : Does P o a G w k := by
  simp only [vcOp] at hv
  split at hv
  · rename_i p q e1 e2
    split at hv
    · rename_i r hbin
      have r1 := he.ev ha e1
      have r2 := he.ev hb e2
      have fin := does_bin (P := P) (a := a) ho hr hv
      generalize a.eval x = ux at r1 fin
      generalize a.eval y = uy at r2 fin
      unfold pbinF at hbin
      split at hbin
      · split at hbin
        · rename_i b hb'
          cases r2
          obtain ⟨p', rfl, rfl⟩ := isNilp_sound r1 hb'
          exact fin (bin_ptr hu rfl hbin) ⟨by simp, by simp⟩
        · cases hbin
      · cases hbin
    · exact hv.elim
  · exact hv.elim
theorem do_max {as : Array Operand} {ts : Array TypeId} {x y : Operand} {hx hy : HArg} (ho : o.op = .call { callee := .builtin .max, args := as, argTypes := ts }) (hs : as.size = 2) (h0 : as[0]? = some x) (h1 : as[1]? = some y)
    (ha : arg x = some hx) (hb : arg y = some hy) (hv : vcOp P fz env st (.max hx hy) k) (hr : Rel P G st w) (he : REnv N G a env) : Does P o a G w k := by
  simp only [vcOp] at hv
  split at hv
  · rename_i k1 m k2 n e1 e2
    obtain ⟨rfl, hk⟩ := hv
    have r1 := int_of he ha e1
    have r2 := int_of he hb e2
    obtain ⟨p, q, rfl⟩ : ∃ p q, as = #[p, q] := by
      match as, hs with
      | ⟨[p, q]⟩, _ => exact ⟨p, q, rfl⟩
    simp at h0 h1
    subst h0 h1
    refine .val (v := .int k1 (if m ≤ n then n else m)) ?_ hk hr .int
    have : (if n > m then n else m) = (if m ≤ n then n else m) := by split <;> split <;> omega
    simp [execOp, ho, resolve, invoke, builtin, Builtin.max_, r1, r2, Builtin.max2]
    simpa using this
  · exact hv.elim
theorem do_min {as : Array Operand} {ts : Array TypeId} {x y : Operand} {hx hy : HArg} (ho : o.op = .call { callee := .builtin .min, args := as, argTypes := ts }) (hs : as.size = 2) (h0 : as[0]? = some x) (h1 : as[1]? = some y)
    (ha : arg x = some hx) (hb : arg y = some hy) (hv : vcOp P fz env st (.min hx hy) k) (hr : Rel P G st w) (he : REnv N G a env) : Does P o a G w k := by
  simp only [vcOp] at hv
  split at hv
  · rename_i k1 m k2 n e1 e2
    obtain ⟨rfl, hk⟩ := hv
    have r1 := int_of he ha e1
    have r2 := int_of he hb e2
    obtain ⟨p, q, rfl⟩ : ∃ p q, as = #[p, q] := by
      match as, hs with
      | ⟨[p, q]⟩, _ => exact ⟨p, q, rfl⟩
    simp at h0 h1
    subst h0 h1
    refine .val (v := .int k1 (if m ≤ n then m else n)) ?_ hk hr .int
    have : (if n < m then n else m) = (if m ≤ n then m else n) := by split <;> split <;> omega
    simp [execOp, ho, resolve, invoke, builtin, Builtin.min_, r1, r2, Builtin.min2]
    simpa using this
  · exact hv.elim
end
end HL
