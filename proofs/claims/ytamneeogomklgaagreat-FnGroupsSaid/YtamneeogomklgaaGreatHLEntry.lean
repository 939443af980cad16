/- HL: what a call is handed. -/
import Derived.Test.YtamneeogomklgaaGreatHLTac
import Derived.WalkKit
import Derived.ProofKit
import Derived.OpenShut
import Derived.ShutString
import Derived.ChangeOld
import Derived.ChangeArms
import Derived.Below
import Derived.Carry
import Derived.SizedLaws
import Derived.Deep.Slices
set_option linter.unusedSimpArgs false
set_option linter.unusedVariables false
set_option linter.unusedSectionVars false
namespace HL
open Go Go.RowKit
def contig (P : Program) (total : Nat) : Nat → List Field → Bool
  | off, [] => off == total
  | off, f :: fs => f.offset == off && contig P total (off + P.cellsOf f.type) fs
def okTy (P : Program) (ts : List TypeId) (t : TypeId) : Bool :=
  match P.underlying t with
  | some .bool => P.cellsOf t == 1
  | some (.int _) => P.cellsOf t == 1
  | some .string => P.cellsOf t == 1
  | some (.slice e) => P.cellsOf t == 1 && ts.contains e && decide (0 < P.bytesOf e) && decide (0 < P.cellsOf e)
  | some (.struct fs) => (fs.toList.all fun f => ts.contains f.type) && contig P (P.cellsOf t) 0 fs.toList
  | _ => false
def okTys (P : Program) (ts : List TypeId) : Bool := ts.all (okTy P ts)
def Shp (P : Program) : Nat → TypeId → HV → Prop
  | 0, _, _ => False
  | n + 1, t, h => match P.underlying t with
    | some .bool => ∃ b, h = .bool b
    | some (.int k) => ∃ i, h = .int k i ∧ (Lit.int k i).wf = true
    | some .string => ∃ s, h = .str s ∧ s.size ≤ reachBytes
    | some (.slice e) => ∃ l, h = .sl l ∧ l.length * P.bytesOf e ≤ reachBytes ∧ ∀ x ∈ l, Shp P n e x
    | some (.struct fs) => ∃ hs : List HV, h = .agg (flatL hs) ∧ hs.length = fs.size ∧ ∀ (i : Nat) (f : Field) (x : HV), fs[i]? = some f → hs[i]? = some x → Shp P n f.type x
    | _ => False
section
variable {H : Type} {enc : TypeId × Value → H} {P : Program} {w : World} {held : Bool} {ts : List TypeId}
def G0 (w : World) : Gh := ⟨w.heap.size, fun b i => w.cell? ⟨b, i, none⟩, []⟩
theorem Rel0 (w : World) (ht : TabW P (G0 w) w) : Rel P (G0 w) [] w :=
  ⟨rfl, fun _ _ _ h => h, fun id info o hi => by simp [G0] at hi, fun id id' info info' o o' b b' hi => by simp [G0] at hi, ht⟩
theorem TabW.no (h : P.globalNamed "internal/strconv.uint64pow10" = none) : TabW P (G0 w) w := ⟨⟨Nat.le_refl _, fun b ⟨id, info, hi, _⟩ => by simp [G0] at hi⟩, fun g hg => by rw [h] at hg; cases hg⟩
theorem okTys_mem (h : okTys P ts = true) {t : TypeId} (ht : t ∈ ts) : okTy P ts t = true := List.all_eq_true.1 h t ht
theorem weights_slice {t e : TypeId} {elems spare : List (DataW H)} (hu : P.underlying t = some (.slice e)) (hw : ∀ n ∈ (DataW.slice elems spare).weights P t, n ≤ reachBytes) :
    (elems.length + spare.length) * P.bytesOf e ≤ reachBytes ∧ ∀ d ∈ elems, ∀ n ∈ d.weights P e, n ≤ reachBytes := by
  simp only [DataW.weights, hu, List.mem_cons, List.mem_append, forall_eq_or_imp] at hw
  refine ⟨hw.1, fun d hd n hn => hw.2 n (.inl ?_)⟩
  clear hw
  induction elems with
  | nil => cases hd
  | cons x l ih =>
    simp only [DataW.weightsAll, List.mem_append]
    rcases List.mem_cons.1 hd with rfl | h
    · exact .inl hn
    · exact .inr (ih h)
theorem entry_fields {n : Nat} {cs : List Value}
    (ih : ∀ (t : TypeId) (cs : List Value) (x : DataW H × List MemPlace), t ∈ ts → DataW.trod enc P w 0 (fun _ => true) held n t cs = some x → (∀ m ∈ x.1.weights P t, m ≤ reachBytes) →
      ∃ h, R (G0 w) (.vals cs h.cells) ∧ Shp P n t h ∧ h.cells.length = P.cellsOf t ∧ ∀ c ∈ h.cells, c.flat = true) :
    ∀ (fs : List Field) (off : Nat) (xs : List (DataW H × List MemPlace)), (∀ f ∈ fs, f.type ∈ ts) → contig P cs.length off fs = true → xs.length = fs.length →
      (∀ (i : Nat) (f : Field), fs[i]? = some f → DataW.trod enc P w 0 (fun _ => true) held n f.type ((cs.drop f.offset).take (P.cellsOf f.type)) = xs[i]?) →
      (∀ m ∈ DataW.weightsEach P (fs.map (·.type)) (xs.map (·.1)), m ≤ reachBytes) →
      ∃ hs : List HV, R (G0 w) (.vals (cs.drop off) (flatL hs)) ∧ hs.length = fs.length ∧ (∀ (i : Nat) (f : Field) (x : HV), fs[i]? = some f → hs[i]? = some x → Shp P n f.type x) ∧
        ∀ c ∈ flatL hs, c.flat = true
  | [], off, xs, _, hc, hl, _, _ => by
    simp [contig] at hc
    subst hc
    exact ⟨[], by simpa using .vnil, rfl, by simp, by simp⟩
  | f :: fs, off, [], _, _, hl, _, _ => by simp at hl
  | f :: fs, off, x :: xs, hts, hc, hl, hf, hw => by
    simp only [contig, Bool.and_eq_true, beq_iff_eq] at hc
    obtain ⟨rfl, hc⟩ := hc
    have h0 := hf 0 f rfl
    simp only [List.getElem?_cons_zero] at h0
    simp only [List.map_cons, DataW.weightsEach, List.mem_append] at hw
    obtain ⟨h, r1, r2, r3, r4⟩ := ih _ _ _ (hts f (by simp)) h0 (fun m hm => hw m (.inl hm))
    obtain ⟨hs, s1, s2, s3, s4⟩ := entry_fields ih fs _ xs (fun g hg => hts g (by simp [hg])) hc (by simpa using hl) (fun i g hg => by simpa using hf (i + 1) g (by simpa using hg)) (fun m hm => hw m (.inr hm))
    refine ⟨h :: hs, ?_, by simp [s2], ?_, ?_⟩
    · have hsplit : cs.drop f.offset = (cs.drop f.offset).take (P.cellsOf f.type) ++ cs.drop (f.offset + P.cellsOf f.type) := by
        rw [← List.drop_drop, List.take_append_drop]
      rw [hsplit]
      simp only [flatL, List.flatMap_cons]
      exact R.vals_append r1 s1
    · intro i g y hg hy
      cases i with
      | zero => simp at hg hy; subst hg hy; exact r2
      | succ i => exact s3 i g y (by simpa using hg) (by simpa using hy)
    · intro c hc
      simp only [flatL, List.flatMap_cons, List.mem_append] at hc
      rcases hc with hc | hc
      · exact r4 c hc
      · exact s4 c hc
theorem cells_get {a : Addr} {n : Nat} {cs : List Value} (h : w.cells? 0 a n = some cs) : ∀ i, i < n → w.cell? (a.add i) = cs[i]? := (World.cells?_some h).2.2
theorem add_add (a : Addr) (i j : Nat) : (a.add i).add j = a.add (i + j) := by
  unfold Addr.add
  by_cases hi : i = 0
  · subst hi; simp
  · by_cases hj : j = 0
    · subst hj; simp [hi]
    · simp [hi, hj, Nat.add_assoc]
theorem add_none (b o k : Nat) : (⟨b, o, none⟩ : Addr).add k = ⟨b, o + k, none⟩ := by
  unfold Addr.add
  split
  · rename_i h; subst h; rfl
  · rfl
theorem spot_none {a : Addr} {v : Value} (h : w.cell? a = some v) : a = ⟨a.block, a.off, none⟩ := by
  unfold World.cell? at h
  split at h
  · split at h
    · cases h
    · rename_i hs
      cases a with
      | mk b o s => cases s <;> simp_all
  · cases h
theorem entry (hok : okTys P ts = true) : ∀ (n : Nat) (t : TypeId) (cs : List Value) (x : DataW H × List MemPlace), t ∈ ts → DataW.trod enc P w 0 (fun _ => true) held n t cs = some x → (∀ m ∈ x.1.weights P t, m ≤ reachBytes) →
    ∃ h, R (G0 w) (.vals cs h.cells) ∧ Shp P n t h ∧ h.cells.length = P.cellsOf t ∧ ∀ c ∈ h.cells, c.flat = true := by
  intro n
  induction n with
  | zero => intro t cs x _ h; simp [DataW.trod] at h
  | succ n ih =>
    intro t cs x ht h hw
    have hk := okTys_mem hok ht
    unfold okTy at hk
    split at hk
    · rename_i hu
      obtain ⟨b, rfl, rfl⟩ := DataW.trod_bool hu h
      exact ⟨.bool b, .vcons .bool .vnil, by simp [Shp, hu], by simpa [HV.cells] using (beq_iff_eq.1 hk).symm, by simp [HV.cells, HV.flat]⟩
    · rename_i k hu
      obtain ⟨i, rfl, rfl, hwf⟩ := DataW.trod_int hu h
      exact ⟨.int k i, .vcons .int .vnil, by simp [Shp, hu, hwf], by simpa [HV.cells] using (beq_iff_eq.1 hk).symm, by simp [HV.cells, HV.flat]⟩
    · rename_i hu
      obtain ⟨s, rfl, rfl, hwf⟩ := DataW.trod_string hu h
      have hs : s.size ≤ reachBytes := by simpa [DataW.weights] using hw s.size (by simp [DataW.weights])
      exact ⟨.str s, .vcons (.str (by unfold reachBytes at hs; unfold lim; omega)) .vnil, by simp [Shp, hu, hs], by simpa [HV.cells] using (beq_iff_eq.1 hk).symm, by simp [HV.cells, HV.flat]⟩
    · rename_i e hu
      simp only [Bool.and_eq_true, beq_iff_eq, decide_eq_true_eq, List.contains_iff_mem] at hk
      obtain ⟨⟨⟨k1, k2⟩, k3⟩, k4⟩ := hk
      rcases DataW.trod_slice hu h with ⟨rfl, rfl⟩ | ⟨a, len, cap, elems, rest, m, hm, rfl, rfl, hb, hl, _, hlen, hel, hsp, _⟩
      · exact ⟨.sl [], .vcons .sl0 .vnil, by simp [Shp, hu], by simpa [HV.cells] using k1.symm, by simp [HV.cells, HV.flat]⟩
      · cases hm
        obtain ⟨w1, w2⟩ := weights_slice hu hw
        have hll : elems.length * P.bytesOf e ≤ reachBytes := by
          simp only [List.length_map, Nat.add_mul] at w1
          omega
        have hlim : elems.length ≤ lim := by
          have : elems.length * 1 ≤ elems.length * P.bytesOf e := Nat.mul_le_mul_left _ k3
          unfold reachBytes at hll
          unfold lim
          omega
        have each : ∀ i, i < len → ∃ cs', w.cells? 0 (a.add (i * P.cellsOf e)) (P.cellsOf e) = some cs' ∧ ∃ h, R (G0 w) (.vals cs' h.cells) ∧ Shp P n e h ∧ h.cells.length = P.cellsOf e ∧ ∀ c ∈ h.cells, c.flat = true := by
          intro i hi
          have := hel i hi
          rw [List.getElem?_eq_getElem (by omega), Option.bind_eq_some_iff] at this
          obtain ⟨cs', h1, h2⟩ := this
          refine ⟨cs', h1, ih e cs' _ k2 h2 fun m hm => w2 _ (List.mem_map_of_mem (List.getElem_mem _)) m hm⟩
        have build : ∀ j, j ≤ len → ∃ (us : List Value) (l : List HV), R (G0 w) (.vals us (flatL l)) ∧ l.length = j ∧ Uni (P.cellsOf e) l ∧ (∀ x ∈ l, Shp P n e x) ∧ (∀ c ∈ flatL l, c.flat = true) ∧
            ∀ (k : Nat) (u : Value), us[k]? = some u → w.cell? (a.add k) = some u := by
          intro j
          induction j with
          | zero => intro _; exact ⟨[], [], .vnil, rfl, fun x hx => by simp at hx, by simp, by simp, by simp⟩
          | succ j jh =>
            intro hj
            obtain ⟨us, l, r1, r2, r3, r4, r5, r6⟩ := jh (by omega)
            obtain ⟨cs', c1, h, q1, q2, q3, q4⟩ := each j (by omega)
            have hul : us.length = j * P.cellsOf e := by rw [r1.vals_length, flatL_length r3, r2]
            refine ⟨us ++ cs', l ++ [h], ?_, by simp [r2], ?_, ?_, ?_, ?_⟩
            · simp only [flatL, List.flatMap_append, List.flatMap_cons, List.flatMap_nil, List.append_nil]
              exact R.vals_append r1 q1
            · intro x hx
              rcases List.mem_append.1 hx with hx | hx
              · exact r3 x hx
              · simp at hx; subst hx; exact q3
            · intro x hx
              rcases List.mem_append.1 hx with hx | hx
              · exact r4 x hx
              · simp at hx; subst hx; exact q2
            · intro c hc
              simp only [flatL, List.flatMap_append, List.flatMap_cons, List.flatMap_nil, List.append_nil, List.mem_append] at hc
              rcases hc with hc | hc
              · exact r5 c hc
              · exact q4 c hc
            · intro k u hk
              rcases Nat.lt_or_ge k us.length with hlt | hge
              · exact r6 k u (by rwa [List.getElem?_append_left hlt] at hk)
              · rw [List.getElem?_append_right hge] at hk
                have hlt := get_lt hk
                have hlc := (World.cells?_some c1).2.1
                have := cells_get c1 (k - us.length) (by omega)
                rw [hk] at this
                rw [← this, add_add, hul]
                congr 2
                omega
        obtain ⟨us, l, r1, r2, r3, r4, r5, r6⟩ := build len (Nat.le_refl _)
        have shp : Shp P (n + 1) t (.sl l) := by
          simp only [Shp, hu, HV.sl.injEq]
          exact ⟨l, rfl, by rw [r2, ← hlen]; exact hll, r4⟩
        refine ⟨.sl l, .vcons ?_ .vnil, shp, by simpa [HV.cells] using k1.symm, by simp [HV.cells, HV.flat]⟩
        rcases Nat.eq_zero_or_pos us.length with h0 | hpos
        · have hul : us.length = l.length * P.cellsOf e := by rw [r1.vals_length, flatL_length r3]
          have hl0 : l.length = 0 := by
            rcases Nat.eq_zero_or_pos l.length with h | h
            · exact h
            · have := Nat.mul_pos h k4; omega
          have hl0' := List.eq_nil_of_length_eq_zero hl0
          subst hl0'
          simp at r2
          subst r2
          rcases Nat.eq_zero_or_pos cap with rfl | hc
          · exact .sl0
          · obtain ⟨g1, g2⟩ := hsp rfl
            have g3 := g2 0 (by omega)
            rw [List.getElem?_eq_getElem (by omega), Option.bind_eq_some_iff] at g3
            obtain ⟨cs', g4, _⟩ := g3
            have g5 := cells_get g4 0 k4
            have g6 := (World.cells?_some g4).2.1
            rw [List.getElem?_eq_getElem (by omega)] at g5
            simp only [Nat.add_zero, Nat.zero_mul] at g5
            rw [show (a.add 0).add 0 = a by simp [Addr.add]] at g5
            have ha := spot_none g5
            rw [ha]
            exact .sl (sz := 0) (l := []) [] (fun x hx => by simp at hx) .vnil (by simp) (by simp) (by simp) rfl (by simp [lim])
        · have := r6 0 us[0] (by simp)
          rw [show a.add 0 = a by simp [Addr.add]] at this
          have ha := spot_none this
          rw [ha]
          refine .sl us r3 r1 (fun k u hk => ?_) r5 (by omega) (by omega) (by omega)
          have := r6 k u hk
          rw [ha, add_none] at this
          exact this
    · rename_i fs hu
      simp only [Bool.and_eq_true, List.all_eq_true, List.contains_iff_mem] at hk
      obtain ⟨k1, k2⟩ := hk
      obtain ⟨xs, m, hm, rfl, hlen, hxl, hf⟩ := DataW.trod_struct hu h
      cases hm
      simp only [DataW.weights, hu] at hw
      obtain ⟨hs, s1, s2, s3, s4⟩ := entry_fields (cs := cs) ih fs.toList 0 xs k1 (by rw [hlen]; exact k2) (by simpa using hxl) (fun i f hfi => hf i f (by simpa using hfi)) hw
      refine ⟨.agg (flatL hs), by simpa [HV.cells] using s1, ?_, ?_, s4⟩
      · simp only [Shp, hu, HV.agg.injEq]
        exact ⟨hs, rfl, by simpa using s2, fun i f x h1 h2 => s3 i f x (by simpa using h1) h2⟩
      · have := s1.vals_length
        simp only [List.drop_zero] at this
        simpa [HV.cells, hlen] using this.symm
    · cases hk
theorem entry1 (hok : okTys P ts = true) {r : Reach} {b0 : Nat} {t : TypeId} {v : Value} {d : DataW H} {ps : List MemPlace} (ht : t ∈ ts) (hval : Value.okWide P w r b0 t v) (hd : DataW.Trod enc P w 0 (fun _ => true) held t v d ps)
    (hw : ∀ m ∈ d.weights P t, m ≤ reachBytes) : ∃ n h, R (G0 w) (.val v h) ∧ Shp P n t h := by
  obtain ⟨n, hd⟩ := hd
  obtain ⟨h, h1, h2, h3, h4⟩ := entry hok n t _ _ ht hd hw
  refine ⟨n, h, ?_, h2⟩
  have hk := okTys_mem hok ht
  unfold okTy at hk
  cases n with
  | zero => exact h2.elim
  | succ n =>
    unfold Shp at h2
    split at h2
    · rename_i hu
      obtain ⟨b, rfl⟩ := h2
      obtain ⟨b', rfl⟩ := WideShapes.okWide_bool hu hval
      exact h1.vals_cons.1
    · rename_i k hu
      obtain ⟨i, rfl, _⟩ := h2
      obtain ⟨b', rfl⟩ := WideShapes.okWide_int hu hval
      exact h1.vals_cons.1
    · rename_i hu
      obtain ⟨s, rfl, _⟩ := h2
      obtain ⟨b', rfl⟩ := WideShapes.okWide_string hu hval
      exact h1.vals_cons.1
    · rename_i e hu
      obtain ⟨l, rfl, _⟩ := h2
      obtain ⟨a, len, cap, rfl⟩ := WideShapes.okWide_slice hu hval
      exact h1.vals_cons.1
    · rename_i fs hu
      obtain ⟨hs, rfl, _⟩ := h2
      obtain ⟨cs, rfl, _⟩ := WideShapes.okWide_struct hu hval
      have := R.agg (G := G0 w) (vs := cs.toList) (cs := flatL hs) h4 (by simpa [Value.cells, HV.cells] using h1)
      simpa using this
    · exact h2.elim
theorem weigh {ds : List (DataW H)} {us : List TypeId} (h : (DataW.weightsEach P us ds).all (· ≤ reachBytes) = true) {j : Nat} {t : TypeId} {d : DataW H} (ht : us[j]? = some t) (hd : ds[j]? = some d) : ∀ m ∈ d.weights P t, m ≤ reachBytes :=
  fun m hm => by simpa using List.all_eq_true.1 h _ (DataW.weights_mem_each ht hd m hm)
theorem law_true {f : FuncId} {args : List HV} {vs : List Value} (h : HCp P f args (.bool true)) (hR : R (G0 w) (.vals vs args)) (ht : TabW P (G0 w) w) :
    Calls P f vs.toArray w fun e w' => e = .returned (.bool true) ∧ Below w.heap.size w w' := by
  refine (h.2 _ w vs (Rel0 w ht) hR).mono fun e w' ⟨v, r, st', G', he, ⟨e1, e2⟩, _, r2, r3⟩ => ?_
  subst e1 e2 he
  cases r2
  exact ⟨rfl, r3.os, r3.tape, r3.output, r3.size, fun k hk => r3.heap k hk (by rintro ⟨id, info, hi, _⟩; simp [G0] at hi)⟩
end
end HL
