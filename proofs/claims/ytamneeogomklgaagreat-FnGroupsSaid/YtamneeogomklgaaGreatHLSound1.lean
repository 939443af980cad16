/- HL: operations, first part: what an operation does is what 'vcOp' says. -/
import Derived.Test.YtamneeogomklgaaGreatHLCode
import Derived.Test.YtamneeogomklgaaGreatHLStore
import Derived.Laws.Append
import Derived.Laws.CopyRow
import Derived.Laws.MakeOwn
set_option linter.unusedSimpArgs false
set_option linter.unusedVariables false
set_option linter.unusedSectionVars false
namespace HL
open Go
structure REnv (N : Nat) (G : Gh) (a : Act) (env : Env) : Prop where
  size : a.tmps.size = N
  defers : a.defers = []
  get : ∀ n h, lk env n = some h → ∃ v, a.tmps[n]? = some v ∧ R G (.val v h)
theorem REnv.mono {N : Nat} {G G' : Gh} {w w' : World} {a : Act} {env : Env} (h : REnv N G a env) (hs : Step G w G' w') : REnv N G' a env :=
  ⟨h.size, h.defers, fun n x hx => let ⟨v, h1, h2⟩ := h.get n x hx; ⟨v, h1, h2.mono hs⟩⟩
theorem REnv.put {N : Nat} {G : Gh} {a : Act} {env : Env} (h : REnv N G a env) {d : Option Nat} {v : Value} {x : HV} (hx : R G (.val v x)) (hd : ∀ n, d = some n → n < N) :
    REnv N G (a.put d v) (putE env d x) := by
  cases d with
  | none => exact h
  | some d =>
    have hlt := hd d rfl
    refine ⟨by simp [Act.put, h.size], h.defers, fun n y hy => ?_⟩
    simp only [putE, lk] at hy
    by_cases e : d = n
    · subst e
      simp at hy
      subst hy
      exact ⟨v, by simp [Act.put, h.size, hlt], hx⟩
    · simp [e] at hy
      obtain ⟨v', h1, h2⟩ := h.get n y hy
      refine ⟨v', ?_, h2⟩
      simp only [Act.put]
      rw [Array.getElem?_setIfInBounds_ne e]
      exact h1
theorem R_cell1 {G : Gh} {v : Value} {h : HV} (hh : cell1 v = some h) : R G (.val v h) := by
  unfold cell1 at hh
  split at hh <;> first
    | (cases hh; first | exact .int | exact .bool | exact .nilp | exact .nils | exact .nilf)
    | (split at hh
       · cases hh; exact .str (by assumption)
       · cases hh)
    | cases hh
theorem R_cells {G : Gh} : ∀ {vs : List Value} {hs : List HV}, vs.mapM cell1 = some hs → R G (.vals vs hs) ∧ ∀ c ∈ hs, c.flat = true
  | [], hs, h => by simp at h; subst h; exact ⟨.vnil, by simp⟩
  | v :: vs, hs, h => by
    simp only [List.mapM_cons, Option.pure_def, Option.bind_eq_bind, Option.bind_eq_some_iff] at h
    obtain ⟨x, hx, xs, hxs, h⟩ := h
    cases h
    obtain ⟨r, f⟩ := R_cells hxs
    refine ⟨.vcons (R_cell1 hx) r, fun c hc => ?_⟩
    simp only [List.mem_cons] at hc
    rcases hc with rfl | hc
    · unfold cell1 at hx
      split at hx <;> first
        | (cases hx; rfl)
        | (split at hx
           · cases hx; rfl
           · cases hx)
        | cases hx
    · exact f c hc
theorem R_hvOf {G : Gh} {v : Value} {h : HV} (hh : hvOf v = some h) : R G (.val v h) := by
  unfold hvOf at hh
  split at hh
  · rename_i cs
    simp only [Option.map_eq_some_iff] at hh
    obtain ⟨hs, h1, rfl⟩ := hh
    obtain ⟨r, f⟩ := R_cells (G := G) h1
    have : (Value.agg cs) = .agg cs.toList.toArray := by simp
    rw [this]
    exact .agg f r
  · rename_i cs
    split at hh
    · cases hh
      rename_i hc
      have : cs = #[] := by simpa using hc
      subst this
      exact .tup .vnil
    · cases hh
  · exact R_cell1 hh
section
variable {N : Nat} {G : Gh} {a : Act} {env : Env}
theorem REnv.ev (he : REnv N G a env) {o : Operand} {x : HArg} {h : HV} (ho : arg o = some x) (hx : HL.ev env x = some h) : R G (.val (a.eval o) h) := by
  cases o with
  | tmp t =>
    simp [arg] at ho
    subst ho
    obtain ⟨v, h1, h2⟩ := he.get t h hx
    have : a.tmps.getD t undef = v := by simp [Array.getD_eq_getD_getElem?, h1]
    simp only [Act.eval, this]
    exact h2
  | const v =>
    simp only [arg, Option.map_eq_some_iff] at ho
    obtain ⟨y, h1, rfl⟩ := ho
    simp [HL.ev] at hx
    subst hx
    exact R_hvOf h1
  | global g => simp [arg] at ho
  | func f =>
    simp [arg] at ho
    subst ho
    simp [HL.ev] at hx
    subst hx
    exact .fn (fs := []) (cs := []) .vnil .vnil
theorem REnv.evs (he : REnv N G a env) : ∀ {os : List Operand} {xs : List HArg} {hs : List HV}, os.mapM arg = some xs → HL.evs env xs = some hs → R G (.vals (os.map a.eval) hs)
  | [], xs, hs, ho, hx => by simp at ho; subst ho; simp [HL.evs] at hx; subst hx; exact .vnil
  | o :: os, xs, hs, ho, hx => by
    simp only [List.mapM_cons, Option.pure_def, Option.bind_eq_bind, Option.bind_eq_some_iff] at ho
    obtain ⟨y, hy, ys, hys, ho⟩ := ho
    cases ho
    simp only [HL.evs] at hx
    split at hx
    · rename_i v vs h1 h2
      cases hx
      exact .vcons (he.ev hy h1) (he.evs hys h2)
    · cases hx
end
theorem wp_value {P : Program} {o : Oper} {a : Act} {w w' : World} {v : Value} {next : Act → World → Prop} {Q : Exit → Act → World → Prop}
    (h : (execOp a.eval o).run P w = .ok (.value v) w') (hn : next (a.put o.dst v) w') : o.wp P a w next Q := by
  unfold Oper.wp
  rw [h]
  exact hn
theorem wp_skip' {P : Program} {o : Oper} {a : Act} {w w' : World} {next : Act → World → Prop} {Q : Exit → Act → World → Prop}
    (h : (execOp a.eval o).run P w = .ok .skip w') (hn : next (a.put o.dst undef) w') : o.wp P a w next Q := by
  unfold Oper.wp
  rw [h]
  exact hn
def After (P : Program) (G : Gh) (w : World) (k : HV → St → Prop) (v : Value) (w' : World) : Prop :=
  ∃ h G' st', k h st' ∧ Rel P G' st' w' ∧ R G' (.val v h) ∧ Step G w G' w'
theorem info_of {P : Program} {t : TypeId} {n : Nat} (h : szT P t = some n) : ∃ i, P.info? t = some i ∧ i.size = n := by
  unfold szT at h
  simp only [Option.map_eq_some_iff] at h
  exact h
theorem run_sizeOf {P : Program} {w : World} {t : TypeId} {n : Nat} (h : szT P t = some n) : (Go.sizeOf t).run P w = Result.ok n w := by
  obtain ⟨i, h1, rfl⟩ := info_of h
  simp [Go.sizeOf, typeInfo, h1]
theorem run_isAgg {P : Program} {w : World} {t : TypeId} {b : Bool} (h : aggT P t = some b) : (isAgg t).run P w = .ok b w := by
  unfold aggT at h
  simp only [Option.map_eq_some_iff] at h
  obtain ⟨d, h1, h2⟩ := h
  simp only [isAgg, Sem.run_bind, run_underlying h1, Result.andThen_ok]
  cases d <;> simp at h2 <;> subst h2 <;> rfl
theorem run_loadVar {P : Program} {w : World} {t : TypeId} {ag : Bool} {n b off : Nat} {vs : List Value} (ha : aggT P t = some ag) (hz : szT P t = some n)
    (hl : vs.length = n) (hc : ∀ k u, vs[k]? = some u → w.cell? ⟨b, off + k, none⟩ = some u) :
    (loadVar t ⟨b, off, none⟩).run P w = if ag then .ok (.agg vs.toArray) w else (match w.cell? ⟨b, off, none⟩ with
      | some v => .ok v w
      | none => match w.farLoad P ⟨b, off, none⟩ false with
        | .ok (v, _) => .ok v w
        | .error h => .halt h w) := by
  subst hl
  simp only [loadVar, Sem.run_bind, run_isAgg ha, Result.andThen_ok]
  cases ag with
  | false => simp; rfl
  | true =>
    simp only [if_true, Sem.run_bind, run_sizeOf hz, Result.andThen_ok]
    rw [run_loadCells_list w ⟨b, off, none⟩ vs (fun j v hv => by
      have := hc j v hv
      unfold Addr.add
      split
      · rename_i e; subst e; simpa using this
      · exact this)]
    rfl
end HL
