/- HL: operations, seventh part: slices written out, append. -/
import Derived.Test.YtamneeogomklgaaGreatHLSound6
set_option linter.unusedSimpArgs false
set_option linter.unusedVariables false
set_option linter.unusedSectionVars false
namespace HL
open Go
section
variable {P : Program} {N : Nat} {fz : Bool} {env : Env} {st : St} {k : HV → St → Prop} {G : Gh} {w : World} {a : Act} {o : Oper}
theorem fill_row {sz : Nat} : ∀ {ps : List (Nat × Value)} {i : Nat} {cs : Array Value}, ps.map (·.1) = List.range' i ps.length → (∀ p ∈ ps, p.2.cells.size = sz) → (i + ps.length) * sz ≤ cs.size →
    ∃ cs' : Array Value, Instr.fill (fun i => some (i * sz, sz)) cs ps = some cs' ∧ cs'.toList = cs.toList.take (i * sz) ++ (ps.flatMap fun p => p.2.cells.toList) ++ cs.toList.drop ((i + ps.length) * sz)
  | [], i, cs, _, _, _ => ⟨cs, rfl, by simp⟩
  | (j, v) :: ps, i, cs, hi, hs, hl => by
    simp only [List.map_cons, List.length_cons, List.range'_succ, List.cons.injEq] at hi
    obtain ⟨rfl, hi⟩ := hi
    have hv := hs (j, v) (by simp)
    simp only at hv
    have e1 : (j + (ps.length + 1)) * sz = j * sz + sz + ps.length * sz := by rw [Nat.add_mul, Nat.add_mul]; omega
    have e2 : (j + 1 + ps.length) * sz = j * sz + sz + ps.length * sz := by rw [Nat.add_mul, Nat.add_mul]; omega
    have e3 : (j + 1) * sz = j * sz + sz := by rw [Nat.add_mul]; omega
    simp only [List.length_cons, e1] at hl
    obtain ⟨cs1, h1, h2⟩ := fill_step (place := fun i => some (i * sz, sz)) (cs := cs) (i := j) (off := j * sz) (sz := sz) (v := v) (rest := ps) rfl hv (by omega)
    have hcl : cs1.size = cs.size := by
      rw [← Array.length_toList, h1]
      simp [hv]
      omega
    obtain ⟨cs', g1, g2⟩ := fill_row (ps := ps) (i := j + 1) (cs := cs1) hi (fun p hp => hs p (by simp [hp])) (by rw [e2, hcl]; omega)
    refine ⟨cs', by rw [h2]; exact g1, ?_⟩
    rw [g2, h1, e3, e2]
    simp only [List.length_cons, e1, List.flatMap_cons]
    have hlen : (cs.toList.take (j * sz) ++ v.cells.toList).length = j * sz + sz := by simp [hv]; omega
    rw [List.take_append_of_le_length (by rw [hlen]; exact Nat.le_refl _), List.take_of_length_le (by rw [hlen]; exact Nat.le_refl _)]
    rw [show j * sz + sz + ps.length * sz = (cs.toList.take (j * sz) ++ v.cells.toList).length + ps.length * sz by rw [hlen], List.drop_length_add_append, List.drop_drop, hlen]
    simp
theorem R_flat {vs : List Value} : ∀ {hs : List HV}, R G (.vals vs hs) → (∀ h ∈ hs, ∀ l, h ≠ .tup l) → R G (.vals (vs.flatMap fun v => v.cells.toList) (flatL hs)) := by
  induction vs with
  | nil => intro hs h _; cases h; exact .vnil
  | cons v vs ih =>
    intro hs h ht
    cases h with
    | vcons h1 h2 =>
      simp only [List.flatMap_cons]
      exact (h1.cells (ht _ (by simp))).vals_append (ih h2 (fun x hx => ht x (by simp [hx])))
theorem R_flat_flat {vs : List Value} : ∀ {hs : List HV}, R G (.vals vs hs) → (∀ h ∈ hs, ∀ l, h ≠ .tup l) → ∀ c ∈ flatL hs, c.flat = true := by
  induction vs with
  | nil => intro hs h _; cases h; simp
  | cons v vs ih =>
    intro hs h ht c hc
    cases h with
    | vcons h1 h2 =>
      simp only [List.flatMap_cons, List.mem_append] at hc
      rcases hc with hc | hc
      · exact h1.cells_flat (ht _ (by simp)) c hc
      · exact ih h2 (fun x hx => ht x (by simp [hx])) c hc
theorem do_bslice {t e : TypeId} {n sz : Nat} {parts : Array (Nat × Operand)} {z : HV} {ps : List (Nat × HArg)} (ho : o.op = .buildSlice t n parts) (hte : elemT P t = some e) (hz : zeroT P e = some z) (hsz : szT P e = some sz)
    (hps : parts.toList.mapM (fun p => do
      let x ← arg p.2
      pure (p.1, x)) = some ps)
    (hv : vcOp P fz env st (.bslice sz n z.cells ps) k) (hr : Rel P G st w) (he : REnv N G a env) : Does P o a G w k := by
  have hu := elem_of hte
  simp only [vcOp] at hv
  split at hv
  · rename_i vs hevs
    obtain ⟨hrange, hnt, hcl, hzl, hpos, hbig, hk⟩ := hv
    unfold zeroT at hz
    simp only [Option.bind_eq_some_iff] at hz
    obtain ⟨i, i1, zv, i2, i3⟩ := hz
    have hargs : (parts.toList.map (·.2)).mapM arg = some (ps.map (·.2)) ∧ ps.map (·.1) = parts.toList.map (·.1) := by
      clear hevs hrange hk hnt hcl
      generalize parts.toList = pl at hps
      induction pl generalizing ps with
      | nil => simp at hps; subst hps; exact ⟨rfl, rfl⟩
      | cons p pl ih =>
        simp only [List.mapM_cons, Option.pure_def, Option.bind_eq_bind, Option.bind_eq_some_iff] at hps
        obtain ⟨q, ⟨x, h3, h4⟩, qs, h5, h6⟩ := hps
        cases h4
        cases h6
        obtain ⟨j1, j2⟩ := ih h5
        constructor
        · simp only [List.map_cons, List.mapM_cons, h3, j1]
          rfl
        · simp [j2]
    obtain ⟨hargs, hidx⟩ := hargs
    have hRs := he.evs hargs hevs
    obtain ⟨G', g1, g2, g3⟩ := cnL'_sound fz hr hRs
    generalize hcn : vcOp.cnL' fz st vs = cn at g1 g2 hk hnt hcl
    have hcnl : cn.1.length = parts.size := by
      have := g2.vals_length
      simpa using this.symm
    have hn : parts.size = n := by
      have := congrArg List.length hidx
      rw [hrange] at this
      simpa using this.symm
    let pv : List (Nat × Value) := (parts.map fun p => (p.1, a.eval p.2)).toList
    have hpvl : pv.length = n := by simp [pv, hn]
    have hsizes : ∀ p ∈ pv, p.2.cells.size = sz := by
      intro p hp
      obtain ⟨j, hj⟩ := List.getElem?_of_mem hp
      simp only [pv, Array.toList_map, List.getElem?_map, Option.map_eq_some_iff] at hj
      obtain ⟨q, hq, rfl⟩ := hj
      obtain ⟨x, hx1, hx2⟩ := g2.vals_get' j (a.eval q.2) (by simp only [List.getElem?_map, List.map_map, Option.map_eq_some_iff]; exact ⟨q, hq, rfl⟩)
      have hxm := List.mem_of_getElem? hx1
      have := (hx2.cells (hnt x hxm)).vals_length
      rw [Array.length_toList, hcl x hxm] at this
      exact this
    let zero : Array Value := if n * sz = 0 then #[] else zv.cells
    obtain ⟨cs', f1, f2⟩ := fill_row (sz := sz) (ps := pv) (i := 0) (cs := (Array.range (n * sz)).map (zero[· % zero.size]!))
      (by rw [hpvl]; simp only [pv, Array.toList_map, List.map_map]; rw [← List.range_eq_range', ← hrange, hidx]; rfl) hsizes (by rw [hpvl]; simp)
    have hflat : (pv.flatMap fun p => p.2.cells.toList) = ((parts.toList.map (·.2)).map a.eval).flatMap fun v => v.cells.toList := by
      simp [pv, List.flatMap_map]
    have hRf := R_flat g2 hnt
    have hul : (((parts.toList.map (·.2)).map a.eval).flatMap fun v => v.cells.toList).length = n * sz := by
      rw [hRf.vals_length, flatL_length (sz := sz) hcl, hcnl, hn]
    have hcs : cs'.toList = ((parts.toList.map (·.2)).map a.eval).flatMap fun v => v.cells.toList := by
      rw [f2, hflat, hpvl]
      simp
    have hcsz : cs'.size = n * sz := by rw [← Array.length_toList, hcs, hul]
    have hlim : cn.1.length ≤ lim := by
      rw [hcnl, hn]
      unfold lim
      have : n ≤ n * sz := Nat.le_mul_of_pos_right _ hpos
      omega
    obtain ⟨G2, b1, b2, b3⟩ := new_arr g1 (sz := sz) (cap := n) (l := cn.1) (us := cs'.toList) (c := cs') (t := e) hcl (by rw [hcs]; exact hRf) (R_flat_flat g2 hnt) (fun k u hu => by simpa using hu) (by rw [hcnl, hn]; exact Nat.le_refl _) hlim (by rw [hcsz]; exact Nat.le_refl _) (by rw [hcnl, hn] at hlim; unfold lim at hlim; omega) (.inl rfl)
    rw [hcnl, hn] at b2
    refine ⟨_, _, .inl ?_, _, G2, _, hk, b1, b2, g3.trans b3⟩
    have hbig' : ¬ n * sz > 2 ^ 24 := by omega
    have hpv : (parts.map fun p => (p.1, a.eval p.2)).toList = pv := rfl
    by_cases hq : n * sz = 0
    · have hzero : zero = #[] := by simp [zero, hq]
      rw [hzero] at f1
      simp only [execOp, ho, Instr.buildSlice, Sem.run_bind, run_underlying hu, Result.andThen_ok, run_sizeOf hsz, hq, hpv]
      have hr0 : ∀ f : Nat → Value, (Array.range 0).map f = #[] := fun f => by apply Array.ext'; simp
      simp only [hq, hr0] at f1
      simp only [gt_iff_lt, Nat.not_lt_zero, if_false, if_true, Sem.run_pure, Result.andThen_ok, hr0, Sem.run_bind, f1]
      simp [newRow]
    · have hzero : zero = zv.cells := by simp [zero, hq]
      rw [hzero] at f1
      simp only [execOp, ho, Instr.buildSlice, Sem.run_bind, run_underlying hu, Result.andThen_ok, run_sizeOf hsz, hbig', hq, if_false, hpv, zeroValue, typeInfo, run_program, i1, i2, Sem.run_pure, f1]
      simp [newRow]
  · exact hv.elim
end
end HL
