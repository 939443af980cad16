/- HL: operations, fifth part: parts of texts and slices; structs and slices made. -/
import Derived.Test.YtamneeogomklgaaGreatHLSound4
set_option linter.unusedSimpArgs false
set_option linter.unusedVariables false
set_option linter.unusedSectionVars false
namespace HL
open Go
section
variable {P : Program} {N : Nat} {fz : Bool} {env : Env} {st : St} {k : HV → St → Prop} {G : Gh} {w : World} {a : Act} {o : Oper}
theorem optArg_none {x : Option Operand} (h : optArg x = some none) : x = none := by
  cases x with
  | none => rfl
  | some y => simp [optArg] at h
theorem optArg_some {x : Option Operand} {y : HArg} (h : optArg x = some (some y)) : ∃ z, x = some z ∧ arg z = some y := by
  cases x with
  | none => simp [optArg] at h
  | some z => simp [optArg] at h; exact ⟨z, rfl, h⟩
theorem bound_run (he : REnv N G a env) {x : Option Operand} {hx : Option HArg} {d : Int} {b : Int} {y : Nat} {code : BoundsCode} (hx' : optArg x = some hx) (hb : boundOf env d hx = some b) :
    (x = none ∧ b = d) ∨ ∃ z v, x = some z ∧ a.eval z = v ∧ (0 ≤ b → b ≤ y → (Instr.sliceBound v y code).run P w = .ok b.toNat w) := by
  cases hx with
  | none =>
    simp [boundOf] at hb
    exact .inl ⟨optArg_none hx', hb.symm⟩
  | some q =>
    obtain ⟨z, rfl, hz⟩ := optArg_some hx'
    simp only [boundOf] at hb
    split at hb
    · rename_i kd i hev
      cases hb
      have := int_of he hz hev
      refine .inr ⟨z, _, rfl, this, fun h0 h1 => ?_⟩
      simp [Instr.sliceBound, asIntOf, h0, h1]
    · cases hb
theorem do_substr {t : TypeId} {x : Operand} {lo hi : Option Operand} {hx : HArg} {hlo hhi : Option HArg} (ho : o.op = .slice t x lo hi none) (ht : strT P t = true) (ha : arg x = some hx) (h1 : optArg lo = some hlo) (h2 : optArg hi = some hhi)
    (hv : vcOp P fz env st (.substr hx hlo hhi) k) (hr : Rel P G st w) (he : REnv N G a env) : Does P o a G w k := by
  have hu := str_of ht
  simp only [vcOp] at hv
  split at hv
  · rename_i s hev
    split at hv
    · rename_i l h e1 e2
      obtain ⟨q1, q2, q3, hk⟩ := hv
      obtain ⟨hs, hl⟩ := str_ofEnv he ha hev
      have hext : (s.extract l.toNat h.toNat).size ≤ lim := by
        have : (s.extract l.toNat h.toNat).size ≤ s.size := by simp [ByteArray.size_extract]; omega
        omega
      refine .val (v := .string (s.extract l.toNat h.toNat)) ?_ hk hr (.str hext)
      have b1 := bound_run (P := P) (w := w) (y := h.toNat) (code := .sliceB) he h1 e1
      have b2 := bound_run (P := P) (w := w) (y := s.size) (code := .sliceAlen) he h2 e2
      have main : (Instr.sliceBounds false s.size s.size (lo.map a.eval) (hi.map a.eval) none).run P w = .ok (l.toNat, h.toNat, s.size) w := by
        unfold Instr.sliceBounds
        rcases b1 with ⟨rfl, rfl⟩ | ⟨z, v, rfl, hz, r1⟩ <;> rcases b2 with ⟨rfl, rfl⟩ | ⟨z', v', rfl, hz', r2⟩
        · simp
        · simp [hz', r2 (by omega) (by omega)]
        · have := r1 q1 (by omega)
          simp at this
          simp [hz, this]
        · simp [hz, hz', r2 (by omega) (by omega), r1 q1 (by omega)]
      simp [execOp, ho, Instr.sliceAt, run_underlying hu, Instr.slice, hs, main]
    · exact hv.elim
  · exact hv.elim
theorem elemsOf_sound (he : REnv N G a env) (hr : Rel P G st w) {x : Operand} {hx : HArg} {v : HV} {l : List HV} (ha : arg x = some hx) (hev : ev env hx = some v) (hl : elemsOf st v = some l) :
    (∃ p, a.eval x = .slice p 0 0 ∧ True ∧ l = []) ∨ ∃ b base cap sz us, a.eval x = .slice (some ⟨b, base, none⟩) l.length cap ∧ Uni sz l ∧ R G (.vals us (flatL l)) ∧
      (∀ (k : Nat) (u : Value), us[k]? = some u → w.cell? ⟨b, base + k, none⟩ = some u) ∧ (∀ c ∈ flatL l, c.flat = true) ∧ l.length ≤ cap ∧ l.length ≤ lim := by
  unfold elemsOf at hl
  split at hl
  · cases hl
    have r := he.ev ha hev
    generalize a.eval x = v at r
    cases r with
    | nils => exact .inl ⟨_, rfl, trivial, rfl⟩
  · cases hl
    rcases sl_of he ha hev with h | ⟨b, base, cap, sz, us, h1, h2, h3, h4, h5, h6, h7⟩
    · exact .inl ⟨_, h.1.choose_spec, trivial, h.2⟩
    · exact .inr ⟨b, base, cap, sz, us, h1, h2, h3, fun k u hu => hr.kc _ _ _ (h4 k u hu), h5, h6, h7⟩
  · rename_i id n
    split at hl
    · rename_i sz l0 m hst
      split at hl
      · rename_i hn
        cases hl
        subst hn
        obtain ⟨info, g1, g2, g3, p, g4, gp⟩ := own_of he hr ha hev hst
        cases hb : info.blk with
        | none =>
          have h0 := g3.nil.1 hb
          have hl0 : l = [] := List.eq_nil_of_length_eq_zero (by have := g3.cap; omega)
          subst hl0
          rw [h0] at g4
          exact .inl ⟨_, g4, trivial, rfl⟩
        | some b =>
          obtain ⟨c, t, us, h1, h2, h3, h4, h5, h6, h7⟩ := g3.row b hb
          rw [gp b hb] at g4
          exact .inr ⟨b, 0, info.cap, info.sz, us, g4, g3.uni, h3, fun k u hu => by simpa using cell_of_row h1 (h4 k u hu), g3.flat, g3.cap, g3.lm⟩
      · cases hl
    · cases hl
  · cases hl
theorem flatL_take_drop {sz : Nat} {l : List HV} (hu : Uni sz l) (i j : Nat) : flatL ((l.take j).drop i) = ((flatL l).take (j * sz)).drop (i * sz) := by
  have ht : ∀ (j : Nat) (l : List HV), Uni sz l → flatL (l.take j) = (flatL l).take (j * sz) := by
    intro j
    induction j with
    | zero => intro l _; simp
    | succ j ih =>
      intro l hu
      cases l with
      | nil => simp
      | cons x l =>
        have hx := hu x (by simp)
        simp only [List.take_succ_cons, List.flatMap_cons]
        have := ih l (fun y hy => hu y (by simp [hy]))
        simp only [flatL] at this
        rw [this, show (j + 1) * sz = x.cells.length + j * sz by rw [hx, Nat.add_mul]; omega, List.take_length_add_append]
  have hd : ∀ (i : Nat) (l : List HV), Uni sz l → flatL (l.drop i) = (flatL l).drop (i * sz) := by
    intro i
    induction i with
    | zero => intro l _; simp
    | succ i ih =>
      intro l hu
      cases l with
      | nil => simp
      | cons x l =>
        have hx := hu x (by simp)
        simp only [List.drop_succ_cons]
        rw [ih l (fun y hy => hu y (by simp [hy]))]
        simp only [List.flatMap_cons]
        rw [show (i + 1) * sz = x.cells.length + i * sz by rw [hx, Nat.add_mul]; omega, List.drop_length_add_append]
  rw [hd i _ (fun y hy => hu y (List.mem_of_mem_take hy)), ht j l hu]
theorem do_slice {t e : TypeId} {x : Operand} {lo hi mx : Option Operand} {hx : HArg} {hlo hhi hmx : Option HArg} (ho : o.op = .slice t x lo hi mx) (hte : elemT P t = some e) {sz0 : Nat} (hz : szT P e = some sz0) (ha : arg x = some hx) (h1 : optArg lo = some hlo) (h2 : optArg hi = some hhi) (h3 : optArg mx = some hmx)
    (hv : vcOp P fz env st (.slice sz0 hx hlo hhi hmx) k) (hr : Rel P G st w) (he : REnv N G a env) : Does P o a G w k := by
  have hu := elem_of hte
  have runs : ∀ (p : Option Addr) (n cap : Nat) (l h m : Nat), a.eval x = .slice p n cap → (Instr.sliceBounds true n cap (lo.map a.eval) (hi.map a.eval) (mx.map a.eval)).run P w = .ok (l, h, m) w →
      (execOp a.eval o).run P w = .ok (.value (.slice (if m = l then p else p.map (·.add (l * sz0))) (h - l) (m - l))) w := by
    intro p n cap l h m hx' hb
    simp [execOp, ho, Instr.sliceAt, run_underlying hu, Instr.slice, hx', hb, run_sizeOf hz]
  simp only [vcOp] at hv
  split at hv
  · rename_i v hev
    split at hv
    · rename_i l hl
      split at hv
      · rename_i la hb e1 e2
        split at hv
        · -- no third index
          obtain ⟨q1, q2, q3, hk⟩ := hv
          have hmx0 : mx = none := optArg_none h3
          subst hmx0
          have bnds : ∀ cap, l.length ≤ cap → (Instr.sliceBounds true l.length cap (lo.map a.eval) (hi.map a.eval) none).run P w = .ok (la.toNat, hb.toNat, cap) w := by
            intro cap hcap
            have b1 := bound_run (P := P) (w := w) (y := hb.toNat) (code := .sliceB) he h1 e1
            have b2 := bound_run (P := P) (w := w) (y := cap) (code := .sliceAcap) he h2 e2
            unfold Instr.sliceBounds
            rcases b1 with ⟨rfl, rfl⟩ | ⟨z, v, rfl, hz, r1⟩ <;> rcases b2 with ⟨rfl, rfl⟩ | ⟨z', v', rfl, hz', r2⟩
            · simp
            · simp [hz', r2 (by omega) (by omega)]
            · have := r1 q1 (by omega)
              simp at this
              simp [hz, this]
            · simp [hz, hz', r2 (by omega) (by omega), r1 q1 (by omega)]
          -- a frozen row
          have frz : ∀ (b base cap sz : Nat) (us : List Value), a.eval x = .slice (some ⟨b, base, none⟩) l.length cap → Uni sz l → R G (.vals us (flatL l)) →
              (∀ (k : Nat) (u : Value), us[k]? = some u → G.K b (base + k) = some u) → (∀ c ∈ flatL l, c.flat = true) → l.length ≤ cap → l.length ≤ lim → (l ≠ [] → sz = sz0) →
              k (.sl ((l.take hb.toNat).drop la.toNat)) st → Does P o a G w k := by
            intro b base cap sz us hx' hU hR hK hF hcap hlim hsz hkk
            clear hk
            have hrun := runs _ _ _ _ _ _ hx' (bnds cap hcap)
            have hlen : ((l.take hb.toNat).drop la.toNat).length = hb.toNat - la.toNat := by simp; omega
            have hRs : R G (.vals ((us.take (hb.toNat * sz)).drop (la.toNat * sz)) (flatL ((l.take hb.toNat).drop la.toNat))) := by
              rw [flatL_take_drop hU]
              exact (hR.vals_take _).vals_drop _
            have hFs : ∀ c ∈ flatL ((l.take hb.toNat).drop la.toNat), c.flat = true := by
              intro c hc
              rw [flatL_take_drop hU] at hc
              exact hF c (List.mem_of_mem_take (List.mem_of_mem_drop hc))
            have hUs : Uni sz ((l.take hb.toNat).drop la.toNat) := fun y hy => hU y (List.mem_of_mem_take (List.mem_of_mem_drop hy))
            by_cases hc0 : cap = la.toNat
            · rw [if_pos hc0] at hrun
              have hnil : (l.take hb.toNat).drop la.toNat = [] := by
                apply List.eq_nil_of_length_eq_zero
                omega
              refine .val hrun hkk hr ?_
              rw [hnil, show hb.toNat - la.toNat = 0 by omega]
              exact .sl (sz := 0) (l := []) [] (fun x hx => by simp at hx) .vnil (by simp) (by simp) (Nat.zero_le _) rfl (by simp [lim])
            · rw [if_neg hc0] at hrun
              by_cases hl0 : l = []
              · subst hl0
                have h0 : hb.toNat = 0 := by simp at q3; omega
                have h0' : la.toNat = 0 := by omega
                refine .val hrun hkk hr ?_
                simp only [Option.map_some, h0, h0', Nat.zero_mul, Nat.sub_zero, Addr.add]
                exact .sl (sz := 0) (l := []) [] (fun x hx => by simp at hx) .vnil (by simp) (by simp) (Nat.zero_le _) rfl (by simp [lim])
              · have := hsz hl0
                subst this
                refine .val hrun hkk hr ?_
                simp only [Option.map_some, addr_add]
                refine .sl (sz := sz) _ hUs hRs (fun k u hku => ?_) hFs (by rw [hlen]; omega) hlen.symm (by rw [hlen]; omega)
                rw [List.getElem?_drop, List.getElem?_take] at hku
                split at hku
                · have := hK _ _ hku
                  rwa [← Nat.add_assoc] at this
                · cases hku
          split at hk
          · -- own
            rename_i id n
            simp only [elemsOf] at hl
            split at hk
            · rename_i sz l0 hst
              rw [hst] at hl
              simp only at hl
              split at hl
              · rename_i hn
                cases hl
                subst hn
                obtain ⟨info, g1, g2, g3, p, g4, gp⟩ := own_of he hr ha hev hst
                obtain ⟨hk0, hk⟩ := hk
                cases hb' : info.blk with
                | none =>
                  have h0 := g3.nil.1 hb'
                  have hl0 : l = [] := List.eq_nil_of_length_eq_zero (by have := g3.cap; omega)
                  subst hl0
                  rw [h0] at g4
                  have hrun := runs _ _ _ _ _ _ g4 (bnds 0 (by simp))
                  have e1' : hb.toNat = 0 := by simp at q3; omega
                  have e2' : la.toNat = 0 := by omega
                  refine .val hrun (by simpa using hk) hr ?_
                  simp only [e1', e2', Nat.sub_zero]
                  exact .sl0
                | some b =>
                  obtain ⟨c, t, us, i1, i2, i3, i4, i5, i6, i7⟩ := g3.row b hb'
                  rw [gp b hb'] at g4
                  exact frz b 0 info.cap info.sz us g4 g3.uni i3 (fun k u hu => by simpa using i7 rfl k u hu) g3.flat g3.cap g3.lm (fun _ => by rw [g2]; exact hk0) hk
              · cases hl
            · rename_i sz l0 hst
              rw [hst] at hl
              simp only at hl
              split at hl
              · rename_i hn
                cases hl
                subst hn
                obtain ⟨info, g1, g2, g3, p, g4, gp⟩ := own_of he hr ha hev hst
                split at hk
                · -- what lies behind
                  obtain ⟨rfl, rfl, hk⟩ := hk
                  have hhi : hi = none := optArg_none h2
                  subst hhi
                  have hb0 : hb = (l.length : Int) := by simpa [boundOf] using e2.symm
                  subst hb0
                  have hrun := runs _ _ _ _ _ _ g4 (bnds info.cap g3.cap)
                  refine .val hrun hk hr ?_
                  refine .otl g1 (by rw [g3.n]; exact Nat.le_refl _) fun _ => ⟨by omega, by simp, fun hm b hb' => ?_⟩
                  have hne : ¬ info.cap = la.toNat := by have := g3.cap; omega
                  rw [if_neg hne, gp b hb']
                  simp [Addr.add, g2]
                  intro h; exact h.symm
                obtain ⟨rfl, hk⟩ := hk
                have hrun := runs _ _ _ _ _ _ g4 (bnds info.cap g3.cap)
                have e : (if info.cap = Int.toNat 0 then p else p.map (·.add (Int.toNat 0 * sz0))) = p := by
                  cases p <;> simp [Addr.add]
                rw [e] at hrun
                obtain ⟨s1, s2⟩ := hr.shrink (n := hb.toNat) g1 hst (by omega)
                refine ⟨_, w, .inl hrun, _, _, _, hk, s1, ?_, s2⟩
                exact .own (info := { info with n := hb.toNat }) (by simp [hr.len]) (Nat.le_refl _) fun _ => ⟨gp, by simp⟩
              · cases hl
            · exact hk.elim
          · -- nils
            have r := he.ev ha hev
            generalize hq : a.eval x = u at r
            cases r with
            | nils =>
              rename_i p
              simp [elemsOf] at hl
              subst hl
              have hrun := runs _ _ _ _ _ _ hq (bnds 0 (by simp))
              have e1' : hb.toNat = 0 := by simp at q3; omega
              have e2' : la.toNat = 0 := by omega
              refine .val hrun hk hr ?_
              simp only [e1', e2', Nat.sub_zero, if_true]
              exact .nils
          · rename_i hno hno2
            have hes := elemsOf_sound he hr ha hev hl
            obtain ⟨hk0, hk⟩ := hk
            cases v with
            | sl l0 =>
              simp [elemsOf] at hl
              subst hl
              rcases sl_of he ha hev with ⟨⟨p0, hx'⟩, hl0⟩ | ⟨b, base, cap, sz, us, hx', hU, hR, hK, hF, hc, hlm⟩
              · subst hl0
                have hrun := runs _ _ _ _ _ _ hx' (bnds 0 (by simp))
                have e1' : hb.toNat = 0 := by simp at q3; omega
                have e2' : la.toNat = 0 := by omega
                refine .val hrun (by simpa using hk) hr ?_
                simp only [Option.map_none, e1', e2', Nat.sub_zero, ite_self]
                exact .sl0
              · refine frz b base cap sz us hx' hU hR hK hF hc hlm (fun hne => ?_) hk
                obtain ⟨y, ys, rfl⟩ := List.exists_cons_of_ne_nil hne
                rw [← hU y (by simp), hk0 y (by simp)]
            | nils => exact absurd rfl hno2
            | own id n => exact absurd rfl (hno id n)
            | _ => simp [elemsOf] at hl
        · -- three indexes
          rename_i m
          obtain ⟨hsome, rfl, q1, q2, em, hk⟩ := hv
          obtain ⟨zm, rfl, hzm⟩ := optArg_some h3
          have hes := elemsOf_sound he hr ha hev hl
          have hx' : ∃ p cap, a.eval x = .slice p l.length cap ∧ l.length ≤ cap := by
            rcases hes with ⟨p, h, hp, rfl⟩ | ⟨b, base, cap, sz, us, h, _, _, _, _, h2, _⟩
            · exact ⟨p, 0, h, Nat.le_refl _⟩
            · exact ⟨_, cap, h, h2⟩
          obtain ⟨p, cap, hx', hcap⟩ := hx'
          have bnds : (Instr.sliceBounds true l.length cap (lo.map a.eval) (hi.map a.eval) (some (a.eval zm))).run P w = .ok (la.toNat, la.toNat, la.toNat) w := by
            have b1 := bound_run (P := P) (w := w) (y := la.toNat) (code := .slice3C) he h1 e1
            have b2 := bound_run (P := P) (w := w) (y := la.toNat) (code := .slice3B) he h2 e2
            have b3 := bound_run (P := P) (w := w) (x := some zm) (hx := some m) (d := 0) (y := cap) (code := .slice3Acap) he (by simp [optArg, hzm]) em
            rcases b3 with ⟨h, _⟩ | ⟨z3, v3, hz3, hv3, r3⟩
            · cases h
            · cases hz3
              rcases b2 with ⟨rfl, hb2⟩ | ⟨z', v', rfl, hz', r2⟩
              · exfalso
                cases hhi with
                | none => simp at hsome
                | some q => obtain ⟨z, hz0, _⟩ := optArg_some h2; cases hz0
              · rcases b1 with ⟨rfl, hb1⟩ | ⟨z, v, rfl, hz, r1⟩
                · simp [Instr.sliceBounds, hv3, r3 (by omega) (by omega), hz', r2 (by omega) (by omega)]
                  omega
                · simp [Instr.sliceBounds, hv3, r3 (by omega) (by omega), hz', r2 (by omega) (by omega), hz, r1 (by omega) (by omega)]
          have hrun := runs _ _ _ _ _ _ hx' bnds
          refine .val hrun hk hr ?_
          simp only [Nat.sub_self]
          exact .nils
      · exact hv.elim
    · exact hv.elim
  · exact hv.elim
end
end HL
