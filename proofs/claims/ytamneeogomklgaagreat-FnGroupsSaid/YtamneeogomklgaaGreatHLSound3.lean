/- HL: operations, third part: what is looked at as changed no more; loads, stores, fields. -/
import Derived.Test.YtamneeogomklgaaGreatHLSound2
set_option linter.unusedSimpArgs false
set_option linter.unusedVariables false
set_option linter.unusedSectionVars false
namespace HL
open Go
theorem cn1_flat (st : St) {h : HV} (hf : h.flat = true) : (cn1 st h).1.flat = true := by
  unfold cn1
  split
  · rfl
  · split
    · split <;> rfl
    · rfl
  · exact hf
theorem cn1_sound {P : Program} {G : Gh} {st : St} {w : World} {v : Value} {h : HV} (hr : Rel P G st w) (hv : R G (.val v h)) :
    ∃ G', Rel P G' (cn1 st h).2 w ∧ R G' (.val v (cn1 st h).1) ∧ Step G w G' w := by
  unfold cn1
  split
  · cases hv with
    | nils => exact ⟨G, hr, .sl0, Step.refl _ _⟩
  · rename_i id n
    split
    · rename_i sz l m hst
      split
      · rename_i hl
        subst hl
        obtain ⟨info, hi⟩ := hr.get hst
        obtain ⟨K', g1, g2, g3⟩ := hr.freeze hi hst
        exact ⟨_, g1, g3 v hv, g2⟩
      · exact ⟨G, hr, hv, Step.refl _ _⟩
    · exact ⟨G, hr, hv, Step.refl _ _⟩
  · exact ⟨G, hr, hv, Step.refl _ _⟩
theorem cnL_sound {P : Program} {w : World} : ∀ {hs : List HV} {G : Gh} {st : St} {vs : List Value}, Rel P G st w → R G (.vals vs hs) →
    ∃ G', Rel P G' (cnL st hs).2 w ∧ R G' (.vals vs (cnL st hs).1) ∧ Step G w G' w
  | [], G, st, vs, hr, hv => ⟨G, hr, hv, Step.refl _ _⟩
  | h :: hs, G, st, vs, hr, hv => by
    cases hv with
    | vcons h1 h2 =>
      obtain ⟨G1, a1, a2, a3⟩ := cn1_sound hr h1
      obtain ⟨G2, b1, b2, b3⟩ := cnL_sound (hs := hs) a1 (h2.mono a3)
      exact ⟨G2, b1, .vcons (a2.mono b3) b2, a3.trans b3⟩
theorem cnL_flat : ∀ {hs : List HV} {st : St}, (∀ c ∈ hs, c.flat = true) → ∀ c ∈ (cnL st hs).1, c.flat = true
  | [], _, _ => by simp [cnL]
  | h :: hs, st, hf => by
    intro c hc
    simp only [cnL, List.mem_cons] at hc
    rcases hc with rfl | hc
    · exact cn1_flat st (hf h (by simp))
    · exact cnL_flat (fun x hx => hf x (by simp [hx])) c hc
theorem cnA_sound {P : Program} {G : Gh} {st : St} {w : World} {v : Value} {h : HV} (fz : Bool) (hr : Rel P G st w) (hv : R G (.val v h)) :
    ∃ G', Rel P G' (cnA fz st h).2 w ∧ R G' (.val v (cnA fz st h).1) ∧ Step G w G' w := by
  unfold cnA
  cases fz with
  | false => exact ⟨G, hr, hv, Step.refl _ _⟩
  | true =>
    simp only [if_true]
    split
    · cases hv with
      | agg hf h =>
        obtain ⟨G', g1, g2, g3⟩ := cnL_sound hr h
        exact ⟨G', g1, .agg (cnL_flat hf) g2, g3⟩
    · exact cn1_sound hr hv
theorem cnLA_sound {P : Program} {w : World} : ∀ {hs : List HV} {G : Gh} {st : St} {vs : List Value}, Rel P G st w → R G (.vals vs hs) →
    ∃ G', Rel P G' (cnLA st hs).2 w ∧ R G' (.vals vs (cnLA st hs).1) ∧ Step G w G' w
  | [], G, st, vs, hr, hv => ⟨G, hr, hv, Step.refl _ _⟩
  | h :: hs, G, st, vs, hr, hv => by
    cases hv with
    | vcons h1 h2 =>
      obtain ⟨G1, a1, a2, a3⟩ := cnA_sound true hr h1
      obtain ⟨G2, b1, b2, b3⟩ := cnLA_sound (hs := hs) a1 (h2.mono a3)
      exact ⟨G2, b1, .vcons (a2.mono b3) b2, a3.trans b3⟩
theorem flatL_seg {sz : Nat} : ∀ {l : List HV} {i : Nat} {x : HV}, Uni sz l → l[i]? = some x → ((flatL l).drop (i * sz)).take sz = x.cells
  | [], i, x, _, h => by simp at h
  | y :: l, 0, x, hu, h => by
    simp at h
    subst h
    have := hu y (by simp)
    simp only [Nat.zero_mul, List.drop_zero, List.flatMap_cons]
    rw [← this, List.take_left']
    rfl
  | y :: l, i + 1, x, hu, h => by
    have hy := hu y (by simp)
    simp only [List.flatMap_cons]
    rw [show (i + 1) * sz = y.cells.length + i * sz by rw [hy, Nat.add_mul]; omega, ← List.drop_drop, List.drop_left']
    · exact flatL_seg (fun z hz => hu z (by simp [hz])) (by simpa using h)
    · rfl
theorem ld_sound {P : Program} {G : Gh} {w : World} {t : TypeId} {ag : Bool} {n off sz i b base : Nat} {l : List HV} {us : List Value} {x h : HV}
    (hta : aggT P t = some ag) (htz : szT P t = some n) (hu : Uni sz l) (hx : l[i]? = some x) (hR : R G (.vals us (flatL l))) (hf : ∀ c ∈ flatL l, c.flat = true)
    (hc : ∀ (k : Nat) (u : Value), us[k]? = some u → w.cell? ⟨b, base + k, none⟩ = some u) (hl : ld ag off n x = some h) :
    ∃ v, (loadVar t ⟨b, base + i * sz + off, none⟩).run P w = .ok v w ∧ R G (.val v h) := by
  have hxl : x.cells.length = sz := hu x (List.mem_of_getElem? hx)
  have hxf : ∀ c ∈ x.cells, c.flat = true := fun c hc' => hf c (List.mem_flatMap.2 ⟨x, List.mem_of_getElem? hx, hc'⟩)
  have hseg := flatL_seg hu hx
  have hRx : R G (.vals ((us.drop (i * sz)).take sz) x.cells) := by rw [← hseg]; exact (hR.vals_drop _).vals_take _
  have hcx : ∀ (k : Nat) (u : Value), ((us.drop (i * sz)).take sz)[k]? = some u → w.cell? ⟨b, base + i * sz + k, none⟩ = some u := by
    intro k u hk
    rw [List.getElem?_take] at hk
    split at hk
    · rw [List.getElem?_drop] at hk
      have := hc _ _ hk
      rwa [← Nat.add_assoc] at this
    · cases hk
  cases ag with
  | true =>
    have fin : ∀ cs : List HV, cs = (x.cells.drop off).take n → off + n ≤ x.cells.length → ∃ v, (loadVar t ⟨b, base + i * sz + off, none⟩).run P w = .ok v w ∧ R G (.val v (.agg cs)) := by
      intro cs hcs hle
      subst hcs
      have hRs := (hRx.vals_drop off).vals_take n
      have hlen : (((((us.drop (i * sz)).take sz)).drop off).take n).length = n := by
        rw [hRs.vals_length]
        simp
        omega
      refine ⟨_, ?_, .agg (fun c hc' => hxf c (List.mem_of_mem_drop (List.mem_of_mem_take hc'))) hRs⟩
      rw [run_loadVar hta htz hlen fun k u hk => ?_]
      · rfl
      · rw [List.getElem?_take] at hk
        split at hk
        · rw [List.getElem?_drop] at hk
          have := hcx _ _ hk
          rwa [← Nat.add_assoc] at this
        · cases hk
    simp only [ld, if_true] at hl
    split at hl
    · rename_i hwhole
      cases hl
      obtain ⟨rfl, hag, hn⟩ := hwhole
      cases x with
      | agg cs =>
        have := fin cs (by simp [HV.cells] at hn ⊢; rw [← hn]; simp) (by simp [hn])
        exact this
      | _ => simp [HV.isAgg] at hag
    · split at hl
      · cases hl
        exact fin _ rfl (by assumption)
      · cases hl
  | false =>
    simp only [ld, Bool.false_eq_true, if_false] at hl
    obtain ⟨u, h1, h2⟩ := hRx.vals_get off h hl
    refine ⟨u, ?_, h2⟩
    have hcell := hcx off u h1
    have : (loadVar t ⟨b, base + i * sz + off, none⟩).run P w = .ok u w := by
      simp only [loadVar, Sem.run_bind, run_isAgg hta, Result.andThen_ok, Bool.false_eq_true, if_false, run_load, hcell]
    exact this
section
variable {P : Program} {N : Nat} {fz : Bool} {env : Env} {st : St} {k : HV → St → Prop} {G : Gh} {w : World} {a : Act} {o : Oper}
theorem items_live {o : HO} {l : List HV} (h : items o = some l) : ∃ m, o.live = some (l, m) := by
  cases o <;> simp [items] at h <;> subst h <;> exact ⟨_, rfl⟩
theorem do_load {t : TypeId} {x : Operand} {hx : HArg} {ag : Bool} {n : Nat} (ho : o.op = .load t x) (hta : aggT P t = some ag) (htz : szT P t = some n) (ha : arg x = some hx)
    (hv : vcOp P fz env st (.load ag n hx) k) (hr : Rel P G st w) (he : REnv N G a env) : Does P o a G w k := by
  have key : ∀ p v, a.eval x = .pointer (some p) → (loadVar t p).run P w = .ok v w → (execOp a.eval o).run P w = .ok (.value v) w := by
    intro p v hx' hrun
    simp [execOp, ho, hx', Instr.loadAt, Instr.sureAddr, hrun]
  simp only [vcOp] at hv
  split at hv
  · rename_i id m i off hev
    split at hv
    · rename_i l hb
      obtain ⟨rfl, y, hy, h, hl, hk⟩ := hv
      simp only [Option.bind_eq_some_iff] at hb
      obtain ⟨ob, hob, hit⟩ := hb
      obtain ⟨mu, hlive⟩ := items_live hit
      have r := he.ev ha hev
      cases hx' : a.eval x with
      | pointer p =>
        rw [hx'] at r
        cases r with
        | ptr hi hn hp =>
          rename_i p info
          obtain ⟨hz, hf⟩ := hr.obj id _ _ hi hob
          have rl := hf l mu hlive
          obtain ⟨b, hb, rfl⟩ := hp rl.n
          obtain ⟨c, t', us, h1, h2, h3, h4, h5, h6, h7⟩ := rl.row b hb
          obtain ⟨v, hrun, hR⟩ := ld_sound (base := 0) hta htz rl.uni hy h3 rl.flat (fun k u hk => by simpa using cell_of_row h1 (h4 k u hk)) hl
          have hrun' := key _ v hx' (by simpa using hrun)
          cases hag : ag with
          | false =>
            simp only [hag, Bool.false_eq_true, if_false] at hk
            exact .val hrun' hk hr hR
          | true =>
            simp only [hag, if_true] at hk
            obtain ⟨G', g1, g2, g3⟩ := cnA_sound fz hr hR
            exact ⟨v, w, .inl hrun', _, G', _, hk, g1, g2, g3⟩
      | _ => rw [hx'] at r; cases r
    · exact hv.elim
  · rename_i l sz i off hev
    obtain ⟨y, hy, hyz, h, hl, hk⟩ := hv
    have r := he.ev ha hev
    cases hx' : a.eval x with
    | pointer p =>
      rw [hx'] at r
      cases r with
      | eptr us hu hR hK hf hp =>
        subst hp
        obtain ⟨v, hrun, hRv⟩ := ld_sound hta htz hu hy hR hf (fun k u hk => hr.kc _ _ _ (hK k u hk)) hl
        exact .val (key _ v hx' hrun) hk hr hRv
    | _ => rw [hx'] at r; cases r
  · exact hv.elim
theorem sto_cells {y v : HV} {off : Nat} (h : off + v.cells.length ≤ y.cells.length) : (sto y off v).cells = y.cells.take off ++ v.cells ++ y.cells.drop (off + v.cells.length) := by
  unfold sto
  split
  · rename_i hw
    obtain ⟨rfl, e⟩ := hw
    simp [e]
  · rfl
theorem flatL_set {sz : Nat} : ∀ {l : List HV} {i : Nat} {y z : HV}, Uni sz l → l[i]? = some y → flatL (l.set i z) = (flatL l).take (i * sz) ++ z.cells ++ (flatL l).drop (i * sz + sz)
  | [], i, y, z, _, h => by simp at h
  | x :: l, 0, y, z, hu, h => by
    have hx := hu x (by simp)
    simp only [List.set_cons_zero, List.flatMap_cons, Nat.zero_mul, List.take_zero, List.nil_append, Nat.zero_add]
    rw [← hx, List.drop_left']
    rfl
  | x :: l, i + 1, y, z, hu, h => by
    have hx := hu x (by simp)
    simp only [List.set_cons_succ, List.flatMap_cons]
    have ih := flatL_set (l := l) (i := i) (y := y) (z := z) (fun w hw => hu w (by simp [hw])) (by simpa using h)
    simp only [flatL] at ih
    rw [ih, show (i + 1) * sz = x.cells.length + i * sz by rw [hx, Nat.add_mul]; omega]
    rw [List.take_length_add_append, show x.cells.length + i * sz + sz = x.cells.length + (i * sz + sz) by omega, List.drop_length_add_append]
    simp
theorem take_drop_rest {α : Type} (L : List α) {s q : Nat} (hq : q ≤ s) (hs : s ≤ L.length) : (L.take s).drop q ++ L.drop s = L.drop q := by
  conv => rhs; rw [← List.take_append_drop s L]
  rw [List.drop_append_of_le_length (by simp; omega)]
theorem splice_seg {α : Type} (F V : List α) {a s off m : Nat} (hs : a + s ≤ F.length) (ho : off + m ≤ s) :
    F.take a ++ ((((F.drop a).take s).take off) ++ V ++ (((F.drop a).take s).drop (off + m))) ++ F.drop (a + s) = F.take (a + off) ++ V ++ F.drop (a + off + m) := by
  have h1 : F.take (a + off) = F.take a ++ (F.drop a).take off := by rw [List.take_add]
  have h2 : ((F.drop a).take s).take off = (F.drop a).take off := by rw [List.take_take]; congr 1; omega
  have h3 : ((F.drop a).take s).drop (off + m) ++ F.drop (a + s) = F.drop (a + off + m) := by
    have := take_drop_rest (F.drop a) (s := s) (q := off + m) ho (by simp; omega)
    rw [List.drop_drop, List.drop_drop] at this
    rw [this]; congr 1; omega
  rw [h1, h2, ← h3]
  simp only [List.append_assoc]
theorem do_store {t : TypeId} {x y : Operand} {hx hy : HArg} {n : Nat} (ho : o.op = .store t x y) (htz : szT P t = some n) (ha : arg x = some hx) (hb : arg y = some hy)
    (hv : vcOp P fz env st (.store n hx hy) k) (hr : Rel P G st w) (he : REnv N G a env) : Does P o a G w k := by
  simp only [vcOp] at hv
  split at hv
  · rename_i id m i off v hev1 hev2
    split at hv
    · rename_i ob hob
      split at hv
      · rename_i l mu hlive
        obtain ⟨rfl, rfl, rfl, htup, y0, hy0, hoff, hk⟩ := hv
        have r := he.ev ha hev1
        have rv := he.ev hb hev2
        have rc := rv.cells htup
        have rf := rv.cells_flat htup
        cases hx' : a.eval x with
        | pointer p =>
          rw [hx'] at r
          cases r with
          | ptr hi hn hp =>
            rename_i p info
            obtain ⟨hz, hf⟩ := hr.obj id _ _ hi hob
            have rl := hf l true hlive
            obtain ⟨b, hblk, rfl⟩ := hp rl.n
            obtain ⟨c, t', us, h1, h2, h3, h4, h5, h6, h7⟩ := rl.row b hblk
            have hy0l : y0.cells.length = info.sz := rl.uni y0 (List.mem_of_getElem? hy0)
            have hil : i < l.length := by
              rcases Nat.lt_or_ge i l.length with h | h
              · exact h
              · simp [List.getElem?_eq_none h] at hy0
            have hul : us.length = l.length * info.sz := by rw [h3.vals_length, flatL_length rl.uni]
            have hvl : (a.eval y).cells.toList.length = v.cells.length := rc.vals_length
            have hbd : i * info.sz + info.sz ≤ l.length * info.sz := by
              have := Nat.mul_le_mul_right info.sz (show i + 1 ≤ l.length from hil)
              rw [Nat.add_mul] at this
              omega
            have hcap : l.length * info.sz ≤ info.cap * info.sz := Nat.mul_le_mul_right _ rl.cap
            have hone : ∀ u ∈ (a.eval y).cells.toList, u.oneCell' = true := by
              intro u hu
              obtain ⟨j, hj⟩ := List.getElem?_of_mem hu
              obtain ⟨hh, hj1, hj2⟩ := rc.vals_get' j u hj
              exact hj2.one (rf hh (List.mem_of_getElem? hj1))
            have hst := run_storeCells_at P b (i * info.sz + off) t' (a.eval y).cells.toList 0 c w h1 (by rw [hvl]; omega) hone
            simp only [Nat.add_zero] at hst
            have hrun : (execOp a.eval o).run P w = .ok .skip (w.setRow b (c.toList.take (i * info.sz + off) ++ (a.eval y).cells.toList ++ c.toList.drop (i * info.sz + off + (a.eval y).cells.toList.length)).toArray) := by
              have hsz : (a.eval y).cells.size = v.cells.length := by simpa using hvl
              simp [execOp, ho, hx', Instr.storeAt, Instr.sureAddr, storeVar, run_sizeOf htz, hsz]
              rw [show (Go.storeCells ⟨b, i * info.sz + off, none⟩ (a.eval y).cells.toList) = Go.storeCells ⟨b, i * info.sz + off, none⟩ (a.eval y).cells.toList 0 from rfl, hst]
              simp [hsz]
            generalize hcc : (c.toList.take (i * info.sz + off) ++ (a.eval y).cells.toList ++ c.toList.drop (i * info.sz + off + (a.eval y).cells.toList.length)) = cc at hrun
            let us' := us.take (i * info.sz + off) ++ (a.eval y).cells.toList ++ us.drop (i * info.sz + off + v.cells.length)
            have hccl : cc.length = c.size := by
              rw [← hcc]
              simp only [List.length_append, List.length_take, List.length_drop, Array.length_toList, hvl]
              omega
            have hsto := sto_cells (y := y0) (v := v) (off := off) hoff
            have hstol : (sto y0 off v).cells.length = info.sz := by
              rw [hsto]
              simp only [List.length_append, List.length_take, List.length_drop]
              omega
            have hlive' : (setItem ob i (sto y0 off v)).live = some (l.set i (sto y0 off v), true) := by
              cases ob with
              | box z => simp [HO.live] at hlive; subst hlive; simp at hil; subst hil; simp [setItem, HO.live]
              | arr s l0 m0 => simp [HO.live] at hlive; obtain ⟨rfl, rfl⟩ := hlive; simp [setItem, HO.live]
              | dead => simp [HO.live] at hlive
            have hsz' : szOf (setItem ob i (sto y0 off v)) info.sz := by
              cases ob with
              | box z => simp [szOf, setItem, hstol]
              | arr s l0 m0 => exact hz
              | dead => simp [HO.live] at hlive
            have hseg := flatL_seg rl.uni hy0
            have hflat : flatL (l.set i (sto y0 off v)) = (flatL l).take (i * info.sz + off) ++ v.cells ++ (flatL l).drop (i * info.sz + off + v.cells.length) := by
              rw [flatL_set rl.uni hy0, hsto, ← hseg]
              exact splice_seg (flatL l) v.cells (by rw [flatL_length rl.uni]; omega) (by omega)
            have hus' : us'.length = us.length := by
              simp only [us', List.length_append, List.length_take, List.length_drop, hvl]
              omega
            have hR' : R G (.vals us' (flatL (l.set i (sto y0 off v)))) := by
              rw [hflat]
              exact ((h3.vals_take _).vals_append rc).vals_append (h3.vals_drop _)
            have hcell : ∀ (k : Nat) (u : Value), us'[k]? = some u → cc.toArray[k]? = some u := by
              intro k u hku
              rw [← hcc]
              simp only [us', List.getElem?_append, List.length_append, List.length_take, List.getElem?_take, List.getElem?_drop, hvl] at hku
              simp only [List.getElem?_toArray, List.getElem?_append, List.length_append, List.length_take, List.getElem?_take, List.getElem?_drop, hvl, Array.length_toList, Array.getElem?_toList]
              have m1 : min (i * info.sz + off) us.length = i * info.sz + off := by omega
              have m2 : min (i * info.sz + off) c.size = i * info.sz + off := by omega
              rw [m1] at hku
              rw [m2]
              by_cases q1 : k < i * info.sz + off + v.cells.length
              · rw [if_pos q1] at hku ⊢
                by_cases q2 : k < i * info.sz + off
                · rw [if_pos q2, if_pos q2] at hku ⊢
                  exact h4 k u hku
                · rw [if_neg q2] at hku ⊢
                  simpa using hku
              · rw [if_neg q1] at hku ⊢
                exact h4 _ u hku
            have hset : G.s.set id info = G.s := by
              apply List.ext_getElem?
              intro j
              by_cases e : id = j
              · subst e
                have hlt : id < G.s.length := by
                  rcases Nat.lt_or_ge id G.s.length with h | h
                  · exact h
                  · simp [List.getElem?_eq_none h] at hi
                simp [hlt]
                rw [List.getElem?_eq_getElem hlt] at hi
                exact (Option.some.inj hi).symm
              · rw [List.getElem?_set_ne e]
            have hKb : ∀ i' u, G.K b i' = some u → (w.setRow b cc.toArray).cell? ⟨b, i', none⟩ = some u := by
              intro i' u hu
              have hno : ¬ i' < info.cap * info.sz := by
                intro hlt
                by_cases q : i' < l.length * info.sz
                · rw [h6 rfl i' q] at hu; cases hu
                · rw [h5 i' (by omega) hlt] at hu; cases hu
              have hcell0 := hr.kc _ _ _ hu
              have hc0 : c[i']? = some u := by simpa [World.cell?, h1] using hcell0
              refine cell_of_row (setRow_heap w b c _ t' _ h1) ?_
              rw [← hcc]
              simp only [List.getElem?_toArray, List.getElem?_append, List.length_append, List.length_take, List.getElem?_drop, hvl, Array.length_toList, Array.getElem?_toList]
              have m2 : min (i * info.sz + off) c.size = i * info.sz + off := by omega
              rw [m2, if_neg (by omega), show i * info.sz + off + v.cells.length + (i' - (i * info.sz + off + v.cells.length)) = i' by omega]
              exact hc0
            have hput := Rel.put hr (w' := w.setRow b cc.toArray) (K' := G.K) (info' := info) (o' := setItem ob i (sto y0 off v)) (l' := l.set i (sto y0 off v)) (m' := true) hi hob hlive hlive' hsz'
              rfl rfl rfl (by simp) (fun j hj hne => setRow_other w b j _ (fun e => hne (by rw [hblk, e])))
              (fun _ _ _ h => h) (fun _ _ _ h => .inl h)
              (fun b' i' u hu hb' => by
                have : b' = b := by rcases hb' with e | e <;> (rw [hblk] at e; exact (Option.some.inj e).symm)
                subst this
                exact hKb i' u hu)
              (.inl rfl) (Nat.le_refl _) rfl (fun _ => rfl)
              ⟨by simp [rl.n], by simp [rl.cap], by simpa using rl.lm, by
                intro z hz'
                rcases List.mem_or_eq_of_mem_set hz' with h | h
                · exact rl.uni z h
                · subst h; exact hstol, by
                intro q hq
                rw [hflat] at hq
                simp only [List.mem_append] at hq
                rcases hq with (hq | hq) | hq
                · exact rl.flat q (List.mem_of_mem_take hq)
                · exact rf q hq
                · exact rl.flat q (List.mem_of_mem_drop hq), rl.nil, fun b' hb' => by
                rw [hblk] at hb'
                cases hb'
                refine ⟨cc.toArray, t', us', setRow_heap w b c _ t' _ h1, by simp [hccl]; omega, by rw [hset]; exact hR', hcell, ?_, ?_, fun e => by cases e⟩
                · intro j hj1 hj2
                  exact h5 j (by simpa using hj1) hj2
                · intro _ j hj
                  exact h6 rfl j (by simpa using hj)⟩
            rw [hset] at hput
            exact ⟨undef, _, .inr ⟨hrun, rfl⟩, undefH, _, _, hk, hput.1, .tup (vs := []) .vnil, hput.2⟩
        | _ => rw [hx'] at r; cases r
      · exact hv.elim
    · exact hv.elim
  · exact hv.elim
end
end HL
