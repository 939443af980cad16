/- HL: operations, sixth part: structs and slices made, append. -/
import Derived.Test.YtamneeogomklgaaGreatHLSound5
set_option linter.unusedSimpArgs false
set_option linter.unusedVariables false
set_option linter.unusedSectionVars false
namespace HL
open Go
theorem getElem?_replicate_flatten {α : Type} (L : List α) : ∀ (n k : Nat), k < n * L.length → ((List.replicate n L).flatten)[k]? = L[k % L.length]?
  | 0, k, h => by simp at h
  | n + 1, k, h => by
    simp only [List.replicate_succ, List.flatten_cons]
    by_cases q : k < L.length
    · rw [List.getElem?_append_left q, Nat.mod_eq_of_lt q]
    · have hq : L.length ≤ k := by omega
      rw [List.getElem?_append_right hq, getElem?_replicate_flatten L n (k - L.length) (by rw [Nat.add_mul] at h; omega)]
      rw [Nat.mod_eq_sub_mod hq]
theorem madeCells_toList (z : Array Value) (n : Nat) : (madeCells z (n * z.size)).toList = (List.replicate n z.toList).flatten := by
  apply List.ext_getElem?
  intro k
  have hl : ((List.replicate n z.toList).flatten).length = n * z.size := by simp
  by_cases q : k < n * z.size
  · rw [getElem?_replicate_flatten z.toList n k (by simpa using q)]
    have hpos : 0 < z.size := by
      rcases Nat.eq_zero_or_pos z.size with h | h
      · rw [h] at q; simp at q
      · exact h
    have hm : k % z.size < z.size := Nat.mod_lt _ hpos
    simp [madeCells, q, hm]
  · rw [List.getElem?_eq_none (by simp [madeCells]; omega), List.getElem?_eq_none (by rw [hl]; omega)]
section
variable {G : Gh} {st : St} {w : World}
theorem K_new {P : Program} (hr : Rel P G st w) (i : Nat) : G.K w.heap.size i = none := by
  cases h : G.K w.heap.size i with
  | none => rfl
  | some u => have := hr.K_lt h; omega
theorem new_arr {P : Program} (hr : Rel P G st w) {sz cap : Nat} {l : List HV} {us : List Value} {c : Array Value} {t : TypeId} {w' : World} (hU : Uni sz l) (hR : R G (.vals us (flatL l))) (hF : ∀ c ∈ flatL l, c.flat = true)
    (hc : ∀ (k : Nat) (u : Value), us[k]? = some u → c[k]? = some u) (hcap : l.length ≤ cap) (hl : l.length ≤ lim) (hsize : cap * sz ≤ c.size) (hcm : cap ≤ 9223372036854775807) (hw : w' = w.alloc (.cells c t) ∨ w' = w.drew.alloc (.cells c t)) :
    ∃ G', Rel P G' (st ++ [.arr sz l true]) w' ∧ R G' (.val (.slice (some ⟨w.heap.size, 0, none⟩) l.length cap) (.own st.length l.length)) ∧ Step G w G' w' := by
  let info : Info := ⟨some w.heap.size, sz, l.length, cap⟩
  have hh : w'.heap = w.heap.push (.cells c t) := by rcases hw with h | h <;> (rw [h]; rfl)
  have h1 : w'.os = w.os := by rcases hw with h | h <;> (rw [h]; rfl)
  have h2 : w'.tape = w.tape := by rcases hw with h | h <;> (rw [h]; rfl)
  have h3 : w'.output = w.output := by rcases hw with h | h <;> (rw [h]; rfl)
  have hnew := Rel.new hr (w' := w') (o := .arr sz l true) (l := l) (m := true) (info := info) rfl rfl h1 h2 h3 (by rw [hh]; simp)
    (fun k hk => by rw [hh, Array.getElem?_push_lt hk, Array.getElem?_eq_getElem hk])
    (fun b hb => by cases hb; exact Nat.le_refl _)
    ⟨rfl, hcap, hl, hU, hF, ⟨(fun h => by cases h), hcm⟩, fun b hb => by
      cases hb
      exact ⟨c, t, us, by rw [hh]; simp, hsize, hR, hc, fun k _ _ => K_new hr k, fun _ k _ => K_new hr k, (fun e => by cases e)⟩⟩
  exact ⟨_, hnew.1, .own (info := info) (by simp [hr.len]) (Nat.le_refl _) fun _ => ⟨fun b hb => by cases hb; rfl, rfl⟩, hnew.2⟩
end
section
variable {P : Program} {N : Nat} {fz : Bool} {env : Env} {st : St} {k : HV → St → Prop} {G : Gh} {w : World} {a : Act} {o : Oper}
theorem R_replicate {z : Value} {x : HV} (h : R G (.vals z.cells.toList x.cells)) : ∀ n, R G (.vals (List.replicate n z.cells.toList).flatten (flatL (List.replicate n x)))
  | 0 => by simpa using R.vnil
  | n + 1 => by
    simp only [List.replicate_succ, List.flatten_cons, List.flatMap_cons]
    exact h.vals_append (R_replicate h n)
theorem hvOf_not_tup_cells {z : Value} {x : HV} (h : hvOf z = some x) (hn : ∀ l, x ≠ .tup l) : R G (.vals z.cells.toList x.cells) ∧ ∀ c ∈ x.cells, c.flat = true :=
  ⟨(R_hvOf h).cells hn, (R_hvOf (G := G) h).cells_flat hn⟩
theorem zf1_cells (h : HV) : ∀ vs, R G (.vals vs h.cells) → h.isAgg = false → R G (.vals vs (zf1 h).cells) := by
  intro vs hr _
  cases h <;> try exact hr
  simp only [zf1, HV.cells] at hr ⊢
  cases hr with
  | vcons h1 h2 => cases h2; cases h1; exact .vcons .sl0 .vnil
theorem zf1_list : ∀ {cs : List HV} {vs : List Value}, R G (.vals vs cs) → R G (.vals vs (cs.map zf1))
  | [], vs, h => h
  | c :: cs, vs, h => by
    cases h with
    | vcons h1 h2 =>
      refine .vcons ?_ (zf1_list h2)
      cases c <;> try exact h1
      cases h1; exact .sl0
theorem zfz_ok {z : HV} {vs : List Value} (fz : Bool) (hR : R G (.vals vs z.cells)) (hF : ∀ c ∈ z.cells, c.flat = true) (hn : ∀ l, z ≠ .tup l) :
    R G (.vals vs (zfz fz z).cells) ∧ (∀ c ∈ (zfz fz z).cells, c.flat = true) ∧ (zfz fz z).cells.length = z.cells.length := by
  have zflat : ∀ c : HV, c.flat = true → (zf1 c).flat = true := by intro c hc; cases c <;> first | exact hc | rfl
  cases fz with
  | false => exact ⟨hR, hF, rfl⟩
  | true =>
    cases z with
    | agg cs =>
      refine ⟨zf1_list hR, ?_, by simp [zfz, HV.cells]⟩
      intro c hc
      simp only [zfz, HV.cells, if_true, List.mem_map] at hc
      obtain ⟨c', hc', rfl⟩ := hc
      exact zflat c' (hF c' hc')
    | tup l => exact absurd rfl (hn l)
    | nils =>
      refine ⟨zf1_cells _ _ hR rfl, ?_, rfl⟩
      intro c hc; simp [zfz, zf1, HV.cells] at hc; subst hc; rfl
    | _ => exact ⟨hR, hF, rfl⟩
theorem do_mkslice {t e : TypeId} {n c : Operand} {hn hc : HArg} {sz bytes : Nat} {z : HV} (ho : o.op = .makeSlice t n c) (hte : elemT P t = some e) (hsz : szT P e = some sz) (hby : bytesT P e = some bytes) (hz : zeroT P e = some z)
    (ha : arg n = some hn) (hb : arg c = some hc) (hv : vcOp P fz env st (.mkslice sz bytes z hn hc) k) (hr : Rel P G st w) (he : REnv N G a env) : Does P o a G w k := by
  have hu := elem_of hte
  simp only [vcOp] at hv
  split at hv
  · rename_i k1 x k2 y e1 e2
    obtain ⟨rfl, q1, q2, q3, hzc, hnt, hk⟩ := hv
    have r1 := int_of he ha e1
    have r2 := int_of he hb e2
    unfold zeroT at hz
    simp only [Option.bind_eq_some_iff] at hz
    obtain ⟨i, i1, zv, i2, i3⟩ := hz
    obtain ⟨i', i1', hbb⟩ : ∃ i', P.info? e = some i' ∧ i'.bytes = bytes := by
      unfold bytesT at hby
      simpa [Option.map_eq_some_iff] using hby
    rw [i1] at i1'
    cases i1'
    obtain ⟨i', i1', hss⟩ := info_of hsz
    rw [i1] at i1'
    cases i1'
    have hrun := run_make (P := P) w t e i zv hu i1 i2 k1 k2 x x q1 (Int.le_refl _) (by rw [hbb]; have : (bytes : Int) * x ≤ 256 * 1099511627776 := Int.mul_le_mul (by omega) q2 q1 (by omega); omega) (by omega)
    obtain ⟨hR0, hF0⟩ := hvOf_not_tup_cells (G := G) i3 hnt
    obtain ⟨hR, hF, hzq⟩ := zfz_ok fz hR0 hF0 hnt
    rw [← hzq] at hzc
    have hzl : zv.cells.size = sz := by have := hR.vals_length; rw [Array.length_toList] at this; omega
    have hm : (madeCells zv.cells (x.toNat * i.size)).toList = (List.replicate x.toNat zv.cells.toList).flatten := by
      rw [hss, ← hzl, madeCells_toList]
    have hlen : (List.replicate x.toNat (zfz fz z)).length = x.toNat := by simp
    have := new_arr hr (sz := sz) (cap := x.toNat) (l := List.replicate x.toNat (zfz fz z)) (us := (List.replicate x.toNat zv.cells.toList).flatten) (c := madeCells zv.cells (x.toNat * i.size)) (t := e)
      (fun y hy => by rw [List.eq_of_mem_replicate hy]; exact hzc) (R_replicate hR _)
      (fun c hc' => by
        obtain ⟨y, hy, hc'⟩ := List.mem_flatMap.1 hc'
        rw [List.eq_of_mem_replicate hy] at hc'
        exact hF c hc')
      (fun k u hu => by rw [← hm] at hu; simpa using hu) (by simp) (by simp [lim]; omega) (by rw [size_madeCells, hss]; exact Nat.le_refl _) (by omega) (.inl rfl)
    obtain ⟨G', g1, g2, g3⟩ := this
    rw [hlen] at g2
    refine ⟨_, _, .inl ?_, _, G', _, hk, g1, g2, g3⟩
    simp [execOp, ho, r1, r2, hrun]
  · exact hv.elim
theorem fold_set (off : Nat) : ∀ (vs : List Value) (j : Nat) (cs : Array Value), off + j + vs.length ≤ cs.size →
    ((vs.zipIdx j).foldl (fun (cs : Array Value) (p : Value × Nat) => cs.setIfInBounds (off + p.2) p.1) cs).toList = cs.toList.take (off + j) ++ vs ++ cs.toList.drop (off + j + vs.length)
  | [], j, cs, _ => by simp
  | v :: vs, j, cs, h => by
    simp only [List.length_cons] at h
    rw [List.zipIdx_cons, List.foldl_cons, fold_set off vs (j + 1) _ (by simp; omega)]
    simp only [Array.toList_setIfInBounds, List.length_cons]
    have := list_seg_step cs.toList (off + j) v vs (by simp; omega)
    rw [show off + (j + 1) = off + j + 1 by omega, this]
theorem fill_step {place : Nat → Option (Nat × Nat)} {cs : Array Value} {i off sz : Nat} {v : Value} {rest : List (Nat × Value)} (hp : place i = some (off, sz)) (hs : v.cells.size = sz) (hl : off + sz ≤ cs.size) :
    ∃ cs' : Array Value, cs'.toList = cs.toList.take off ++ v.cells.toList ++ cs.toList.drop (off + sz) ∧ Instr.fill place cs ((i, v) :: rest) = Instr.fill place cs' rest := by
  refine ⟨v.cells.zipIdx.foldl (fun (cs : Array Value) (p : Value × Nat) => cs.setIfInBounds (off + p.2) p.1) cs, ?_, ?_⟩
  · have hg := fold_set off v.cells.toList 0 cs (by simp [hs]; omega)
    rw [← Array.foldl_toList, Array.toList_zipIdx]
    simp only [Nat.add_zero, Array.length_toList, hs] at hg
    exact hg
  · simp only [Instr.fill, hp]
    rw [if_neg (by simp [hs]; omega)]
theorem fill_sound {place : Nat → Option (Nat × Nat)} : ∀ {ps : List (Nat × Value)} {hs : List (Nat × Nat × HV)} {cs : Array Value} {zs out : List HV},
    ps.length = hs.length → (∀ (j : Nat) p h, ps[j]? = some p → hs[j]? = some h → place p.1 = some (h.1, h.2.1) ∧ R G (.val p.2 h.2.2) ∧ ∀ l, h.2.2 ≠ .tup l) →
    R G (.vals cs.toList zs) → fillC zs hs = some out → (∀ c ∈ zs, c.flat = true) → ∃ cs', Instr.fill place cs ps = some cs' ∧ R G (.vals cs'.toList out) ∧ (∀ c ∈ out, c.flat = true) ∧ out.length = zs.length
  | [], hs, cs, zs, out, hl, _, hR, hf, hF => by
    have : hs = [] := List.eq_nil_of_length_eq_zero (by simpa using hl.symm)
    subst this
    simp [fillC] at hf
    subst hf
    exact ⟨cs, rfl, hR, hF, rfl⟩
  | p :: ps, [], cs, zs, out, hl, _, hR, hf, hF => by simp at hl
  | (i, v) :: ps, (off, sz, x) :: hs, cs, zs, out, hl, hp, hR, hf, hF => by
    obtain ⟨hpl, hRv, ht⟩ := hp 0 (i, v) (off, sz, x) rfl rfl
    simp only [fillC] at hf
    split at hf
    · rename_i hcond
      obtain ⟨hx, hle⟩ := hcond
      simp only at hRv ht hpl
      have hRc := hRv.cells ht
      have hvs : v.cells.size = sz := by have := hRc.vals_length; rw [Array.length_toList] at this; omega
      have hcl : cs.size = zs.length := by have := hR.vals_length; simpa using this
      obtain ⟨cs1, h1, h2⟩ := fill_step (place := place) (cs := cs) (rest := ps) hpl hvs (by rw [hcl]; exact hle)
      have hR1 : R G (.vals cs1.toList (zs.take off ++ x.cells ++ zs.drop (off + sz))) := by
        rw [h1]
        exact ((hR.vals_take _).vals_append hRc).vals_append (hR.vals_drop _)
      obtain ⟨cs', g1, g2, g3, g4⟩ := fill_sound (ps := ps) (hs := hs) (by simpa using hl) (fun j p h h3 h4 => hp (j + 1) p h (by simpa using h3) (by simpa using h4)) hR1 hf
        (fun c hc => by
          simp only [List.mem_append] at hc
          rcases hc with (hc | hc) | hc
          · exact hF c (List.mem_of_mem_take hc)
          · exact hRv.cells_flat ht c hc
          · exact hF c (List.mem_of_mem_drop hc))
      refine ⟨cs', by rw [h2]; exact g1, g2, g3, ?_⟩
      rw [g4]
      simp only [List.length_append, List.length_take, List.length_drop, hx]
      omega
    · cases hf
theorem run_mapM_fields {P : Program} {w : World} : ∀ {fs : List Field} {szs : List Nat}, fs.mapM (fun f => szT P f.type) = some szs →
    (fs.mapM (fun f => (do pure (f.offset, ← Go.sizeOf f.type) : Sem (Nat × Nat)))).run P w = .ok ((fs.zip szs).map fun p => (p.1.offset, p.2)) w
  | [], szs, h => by simp at h; subst h; rfl
  | f :: fs, szs, h => by
    simp only [List.mapM_cons, Option.pure_def, Option.bind_eq_bind, Option.bind_eq_some_iff] at h
    obtain ⟨n, h1, ns, h2, h⟩ := h
    cases h
    have ih := run_mapM_fields (w := w) h2
    simp only [List.mapM_cons, Sem.run_bind, run_sizeOf h1, Result.andThen_ok, Sem.run_pure] at ih ⊢
    rw [ih]
    rfl
theorem mapM_len {α β : Type} {f : α → Option β} : ∀ {l : List α} {r : List β}, l.mapM f = some r → r.length = l.length
  | [], r, h => by simp at h; subst h; rfl
  | x :: l, r, h => by
    simp only [List.mapM_cons, Option.pure_def, Option.bind_eq_bind, Option.bind_eq_some_iff] at h
    obtain ⟨n, h1, ns, h2, h⟩ := h
    cases h
    simp [mapM_len h2]
theorem mapM_get {α β : Type} {f : α → Option β} : ∀ {l : List α} {r : List β}, l.mapM f = some r → ∀ (j : Nat) x, l[j]? = some x → ∃ y, r[j]? = some y ∧ f x = some y
  | [], r, h, j, x, hx => by simp at hx
  | x0 :: l, r, h, j, x, hx => by
    simp only [List.mapM_cons, Option.pure_def, Option.bind_eq_bind, Option.bind_eq_some_iff] at h
    obtain ⟨n, h1, ns, h2, h⟩ := h
    cases h
    cases j with
    | zero => simp at hx; subst hx; exact ⟨n, rfl, h1⟩
    | succ j => simpa using mapM_get h2 j x (by simpa using hx)
theorem cnL'_sound {hs : List HV} {vs : List Value} (fz : Bool) (hr : Rel P G st w) (hv : R G (.vals vs hs)) :
    ∃ G', Rel P G' (vcOp.cnL' fz st hs).2 w ∧ R G' (.vals vs (vcOp.cnL' fz st hs).1) ∧ Step G w G' w := by
  unfold vcOp.cnL'
  cases fz with
  | false => exact ⟨G, hr, hv, Step.refl _ _⟩
  | true => exact cnLA_sound hr hv
theorem evs_len {env : Env} : ∀ {xs : List HArg} {vs : List HV}, evs env xs = some vs → vs.length = xs.length
  | [], vs, h => by simp [evs] at h; subst h; rfl
  | x :: xs, vs, h => by
    simp only [evs] at h
    split at h
    · rename_i v vs' h1 h2
      cases h
      simp [evs_len h2]
    · cases h
theorem do_build {t : TypeId} {parts : Array (Nat × Operand)} {z : HV} {fs : Array Field} {szs : List Nat} {ps : List (Nat × Nat × HArg)} (ho : o.op = .build t parts) (hz : zeroT P t = some z) (hfs : fieldsT P t = some fs)
    (hszs : fs.toList.mapM (fun f => szT P f.type) = some szs) (hps : parts.toList.mapM (fun p => do
      let f ← fs[p.1]?
      let n ← szs[p.1]?
      let x ← arg p.2
      pure (f.offset, n, x)) = some ps) (hag : z.isAgg = true)
    (hv : vcOp P fz env st (.build z.cells ps) k) (hr : Rel P G st w) (he : REnv N G a env) : Does P o a G w k := by
  have hu := fields_of hfs
  simp only [vcOp] at hv
  split at hv
  · rename_i vs hevs
    split at hv
    · rename_i cs hfill
      obtain ⟨hnt, hk⟩ := hv
      unfold zeroT at hz
      simp only [Option.bind_eq_some_iff] at hz
      obtain ⟨i, i1, zv, i2, i3⟩ := hz
      obtain ⟨cz, rfl⟩ : ∃ cz, z = .agg cz := by cases z <;> simp [HV.isAgg] at hag; exact ⟨_, rfl⟩
      obtain ⟨hR, hF⟩ := hvOf_not_tup_cells (G := G) i3 (by simp)
      -- the parts' operands
      have hargs : (parts.toList.map (·.2)).mapM arg = some (ps.map (·.2.2)) := by
        clear hfill hk hnt hevs
        generalize parts.toList = pl at hps
        induction pl generalizing ps with
        | nil => simp at hps; subst hps; rfl
        | cons p pl ih =>
          simp only [List.mapM_cons, Option.pure_def, Option.bind_eq_bind, Option.bind_eq_some_iff] at hps
          obtain ⟨q, ⟨f, h1, n, h2, x, h3, h4⟩, qs, h5, h6⟩ := hps
          cases h4
          cases h6
          have := ih h5
          simp only [List.map_cons, List.mapM_cons, h3, this]
          rfl
      have hRs := he.evs hargs hevs
      obtain ⟨G', g1, g2, g3⟩ := cnL'_sound fz hr hRs
      generalize hcn : vcOp.cnL' fz st vs = cn at g1 g2 hfill hk hnt
      have hcnl : cn.1.length = parts.size := by
        have := g2.vals_length
        simpa using this.symm
      have hpsl : ps.length = parts.size := by simpa using mapM_len hps
      have hz2 : R G' (.vals zv.cells.toList cz) := hR.mono g3
      have hfields : (fs.toList.mapM (fun f => (do pure (f.offset, ← Go.sizeOf f.type) : Sem (Nat × Nat)))).run P w = .ok ((fs.toList.zip szs).map fun p => (p.1.offset, p.2)) w := run_mapM_fields hszs
      have hsound := fill_sound (G := G') (place := fun i => (((fs.toList.zip szs).map fun p => (p.1.offset, p.2)).toArray)[i]?) (ps := (parts.map fun p => (p.1, a.eval p.2)).toList)
        (hs := (ps.zip cn.1).map fun p => (p.1.1, p.1.2.1, p.2)) (cs := zv.cells) (zs := cz) (out := cs) (by simp [hcnl, hpsl])
        (fun j p h hj1 hj2 => by
          simp only [Array.toList_map, List.getElem?_map, Option.map_eq_some_iff] at hj1 hj2
          obtain ⟨q, hq, rfl⟩ := hj1
          obtain ⟨⟨q2, x⟩, hq2, rfl⟩ := hj2
          rw [List.getElem?_zip_eq_some] at hq2
          obtain ⟨y, hy, hfy⟩ := mapM_get hps j q hq
          rw [hy] at hq2
          obtain ⟨e1, e2⟩ := hq2
          cases e1
          simp only [Option.pure_def, Option.bind_eq_bind, Option.bind_eq_some_iff] at hfy
          obtain ⟨f, f1, n, f2, xx, f3, f4⟩ := hfy
          cases f4
          refine ⟨?_, ?_, ?_⟩
          · simp only [List.getElem?_toArray, List.getElem?_map, Option.map_eq_some_iff]
            refine ⟨(f, n), ?_, rfl⟩
            rw [List.getElem?_zip_eq_some]
            exact ⟨by simpa using f1, f2⟩
          · obtain ⟨v, hv1, hv2⟩ := g2.vals_get j x e2
            simp only [List.getElem?_map, List.map_map, Option.map_eq_some_iff] at hv1
            obtain ⟨q', hq', rfl⟩ := hv1
            rw [hq] at hq'
            cases hq'
            exact hv2
          · exact hnt x (List.mem_of_getElem? e2)) hz2 (by simpa [HV.cells] using hfill) (fun c hc => hF c hc)
      obtain ⟨cs', f1, f2, f3, _⟩ := hsound
      have hcs' : cs' = cs'.toList.toArray := by simp
      refine ⟨.agg cs', w, .inl ?_, .agg cs, G', cn.2, hk, g1, by rw [hcs']; exact .agg f3 f2, g3⟩
      have hm : (fs.mapM (fun f => (do pure (f.offset, ← Go.sizeOf f.type) : Sem (Nat × Nat)))).run P w = .ok ((fs.toList.zip szs).map fun p => (p.1.offset, p.2)).toArray w := by
        have e : fs = fs.toList.toArray := by simp
        rw [e, List.mapM_toArray, Sem.run_map]
        simp only [hfields, Result.andThen_ok]
      simp only [execOp, ho, Instr.build, Sem.run_bind, zeroValue, typeInfo, run_program, Result.andThen_ok, i1, i2, Sem.run_pure, run_underlying hu, hm, f1]
    · exact hv.elim
  · exact hv.elim
end
end HL
