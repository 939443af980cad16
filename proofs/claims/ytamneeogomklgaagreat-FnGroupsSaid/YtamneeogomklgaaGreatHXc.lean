/- HX: values and objects as a form asks for them. Nothing of a seat is named here. -/
import Derived.Test.YtamneeogomklgaaGreatHXb
set_option linter.unusedSimpArgs false
set_option linter.unusedVariables false
set_option linter.unusedSectionVars false
section
namespace HL
namespace X
open Go
section
variable {S : DSys}
theorem mtO_len {ent : Option (TSt S)} {st : TSt S} {I : List Nat} (hS : ∀ e, ent = some e → SameOk e st) :
    ∀ (os : List OS) (j : Nat) (ls : List (Lf S)), mtO ent st os j I = some ls → j + os.length = I.length ∧ 
      ∀ rest i o, (fixE os j (ent.getD []) (opOs os (ls ++ rest)))[i]? = some o → ∃ id, I[j + i]? = some id ∧ (os[i]? = some .dead ∧ o.isArr = false ∨ ∃ p, st[id]? = some p ∧ (p.isArr = true → o.len = p.len) ∧ (o.isArr = true → p.isArr = true))
  | [], j, ls, h => by
    simp only [mtO] at h
    have h' := cond_some h
    cases hb : Nat.beq j I.length with
    | true => exact ⟨by simpa using beq_t hb, fun rest i o ho => by simp [opOs, fixE] at ho⟩
    | false => rw [hb] at h; cases h
  | s :: r, j, ls, h => by
    simp only [mtO, nth_eq] at h
    split at h
    · cases h
    · rename_i id hid
      have fin : ∀ {ls' : List (Lf S)} {l1 : List (Lf S)} {o0 : List (Lf S) → TO S}, mtO ent st r (j + 1) I = some ls' → ls = l1 ++ ls' →
          (∀ rest, (fixE (s :: r) j (ent.getD []) (opOs (s :: r) (l1 ++ rest))) = o0 rest :: fixE r (j + 1) (ent.getD []) (opOs r rest)) →
          ((s = .dead ∧ ∀ rest, (o0 rest).isArr = false) ∨ ∃ p, st[id]? = some p ∧ (p.isArr = true → ∀ rest, (o0 rest).len = p.len) ∧ (∀ rest, (o0 rest).isArr = true → p.isArr = true)) →
          j + (s :: r).length = I.length ∧ 
          ∀ rest i o, (fixE (s :: r) j (ent.getD []) (opOs (s :: r) (ls ++ rest)))[i]? = some o → ∃ id, I[j + i]? = some id ∧ ((s :: r)[i]? = some .dead ∧ o.isArr = false ∨ ∃ p, st[id]? = some p ∧ (p.isArr = true → o.len = p.len) ∧ (o.isArr = true → p.isArr = true)) := by
        intro ls' l1 o0 h1 h2 h3 h4
        obtain ⟨a1, a2⟩ := mtO_len hS r (j + 1) ls' h1
        subst h2
        refine ⟨by simp only [List.length_cons]; omega, fun rest i o ho => ?_⟩
        rw [List.append_assoc, h3] at ho
        cases i with
        | zero =>
          simp only [List.getElem?_cons_zero, Option.some.injEq] at ho
          subst ho
          refine ⟨id, hid, ?_⟩
          rcases h4 with ⟨rfl, p1⟩ | ⟨p, p1, p2, p3⟩
          · exact .inl ⟨rfl, p1 _⟩
          · exact .inr ⟨p, p1, fun q => p2 q _, fun q => p3 _ q⟩
        | succ i =>
          rw [List.getElem?_cons_succ] at ho
          obtain ⟨id', q1, q2⟩ := a2 rest i o ho
          exact ⟨id', by rw [← q1]; congr 1; omega, by rw [List.getElem?_cons_succ]; exact q2⟩
      have list : ∀ {t : Tc}, (match st[id]? with
          | some (.arr t' l true _ _) => match Lf.to (.ls t) ⟨.ls t', l⟩, mtO ent st r (j + 1) I with
            | some x, some ls => some ((⟨.ls t, x⟩ : Lf S) :: ls)
            | _, _ => none
          | _ => none) = some ls → (s = .ro t ∨ s = .arr t) → j + (s :: r).length = I.length ∧ 
          ∀ rest i o, (fixE (s :: r) j (ent.getD []) (opOs (s :: r) (ls ++ rest)))[i]? = some o → ∃ id, I[j + i]? = some id ∧ ((s :: r)[i]? = some .dead ∧ o.isArr = false ∨ ∃ p, st[id]? = some p ∧ (p.isArr = true → o.len = p.len) ∧ (o.isArr = true → p.isArr = true)) := by
        intro t h hst
        split at h
        · rename_i t' l v c hob
          split at h
          · rename_i x ls' h1 h2
            cases h
            obtain ⟨e, rfl⟩ := lf_to h1
            subst e
            exact fin (l1 := [⟨.ls t', l⟩]) (o0 := fun _ => .arr t' l true 0 0) h2 rfl (fun rest => by rcases hst with rfl | rfl <;> rfl) (.inr ⟨_, hob, fun _ _ => rfl, fun _ _ => rfl⟩)
          · cases h
        · cases h
      cases s with
      | dead => exact fin (l1 := []) (o0 := fun _ => .dead) h rfl (fun rest => rfl) (.inl ⟨rfl, fun _ => rfl⟩)
      | same =>
        simp only at h
        split at h
        · rename_i e
          cases hb : (Nat.beq id j && sameO e[j]? st[id]?) with
          | false => rw [hb] at h; cases h
          | true =>
            rw [hb] at h
            simp only [cond_true] at h
            simp only [Bool.and_eq_true] at hb
            have hij := beq_t hb.1
            subst hij
            obtain ⟨t, l, v, v', e1, e2⟩ := hS e rfl id (by rw [nth_eq, nth_eq]; exact hb.2)
            refine fin (l1 := []) (o0 := fun _ => .arr t l true v 0) h rfl (fun rest => ?_) (.inr ⟨_, e2, fun _ _ => rfl, fun _ _ => rfl⟩)
            simp only [opOs, opO, fixE, nth_eq, List.nil_append, Option.getD_some, e1]
        · cases h
      | ro t =>
        replace h : cond (match ent with
          | some e => Nat.beq id j && sameO e[j]? st[id]?
          | none => true) (match st[id]? with
          | some (.arr t' l true _ _) => match Lf.to (.ls t) ⟨.ls t', l⟩, mtO ent st r (j + 1) I with
            | some x, some ls => some (⟨.ls t, x⟩ :: ls)
            | _, _ => none
          | _ => none) none = some ls := h
        exact list (cond_some h) (.inl rfl)
      | arr t => exact list h (.inr rfl)
      | box sh =>
        simp only at h
        split at h
        · rename_i v hv
          split at h
          · rename_i l1 ids1 h1
            have h' := cond_some h
            split at h'
            · rename_i l2 h2
              cases h'
              exact fin (l1 := l1) (o0 := fun rest => .box (opV sh (l1 ++ rest)).1) h2 rfl (fun rest => by simp only [opOs, opO, fixE, mtV_rest h1 rest]) (.inr ⟨_, getB_some hv, (fun q => by cases q), fun _ q => by cases q⟩)
            · cases h'
          · cases h
        · cases h
/-! ### objects as they are told -/
def canon : List Nat → List HO → St → St
  | i :: I, o :: os, st => canon I os (match o with
    | .dead => st
    | o => st.set i o)
  | _, _, st => st
theorem OLe.rel {P : Program} {G : Gh} {st : St} {w : World} {id : Nat} {x y : HO} (h : OLe x y) (hx : st[id]? = some x) (hr : Rel P G st w) : Rel P G (st.set id y) w := by
  cases h with
  | box e a b => exact Rel.boxLe hr hx a b e
  | arr e => exact Rel.arrLe hr hx e
theorem canon_s : ∀ {I : List Nat} {os : List HO} {st : St}, I.Nodup → (∀ (j : Nat) (o : HO), os[j]? = some o → o = .dead ∨ ∃ (id : Nat) (x : HO), I[j]? = some id ∧ st[id]? = some x ∧ OLe x o) →
    (∀ P G w, Rel P G st w → Rel P G (canon I os st) w) ∧ (canon I os st).length = st.length ∧ (∀ i, i ∉ I → (canon I os st)[i]? = st[i]?) ∧
    (∀ (j : Nat) (o : HO) (id : Nat), os[j]? = some o → I[j]? = some id → (o = .dead → (canon I os st)[id]? = st[id]?) ∧ (o ≠ .dead → (canon I os st)[id]? = some o))
  | [], os, st, hd, h => by
    simp only [canon]
    exact ⟨fun _ _ _ q => q, trivial, fun _ _ => trivial, fun j o id _ q => by simp at q⟩
  | i :: I, [], st, hd, h => by
    simp only [canon]
    exact ⟨fun _ _ _ q => q, trivial, fun _ _ => trivial, fun j o id q _ => by simp at q⟩
  | i :: I, o :: os, st, hd, h => by
    have hd' := List.nodup_cons.1 hd
    have main : ∀ st', canon (i :: I) (o :: os) st = canon I os st' → (∀ P G w, Rel P G st w → Rel P G st' w) → st'.length = st.length → (∀ k, k ≠ i → st'[k]? = st[k]?) → (o = .dead → st'[i]? = st[i]?) → (o ≠ .dead → st'[i]? = some o) →
        (∀ P G w, Rel P G st w → Rel P G (canon (i :: I) (o :: os) st) w) ∧ (canon (i :: I) (o :: os) st).length = st.length ∧ (∀ k, k ∉ i :: I → (canon (i :: I) (o :: os) st)[k]? = st[k]?) ∧
        (∀ (j : Nat) (p : HO) (id : Nat), (o :: os)[j]? = some p → (i :: I)[j]? = some id → (p = .dead → (canon (i :: I) (o :: os) st)[id]? = st[id]?) ∧ (p ≠ .dead → (canon (i :: I) (o :: os) st)[id]? = some p)) := by
      intro st' e h1 h2 h3 h4 h5
      obtain ⟨a1, a2, a3, a4⟩ := canon_s (I := I) (os := os) (st := st') hd'.2 fun j p hp => by
        rcases h (j + 1) p (by rw [List.getElem?_cons_succ]; exact hp) with q | ⟨id, x, q1, q2, q3⟩
        · exact .inl q
        · rw [List.getElem?_cons_succ] at q1
          exact .inr ⟨id, x, q1, by rw [h3 id fun e => hd'.1 (e ▸ List.mem_of_getElem? q1)]; exact q2, q3⟩
      rw [e]
      refine ⟨fun P G w q => a1 P G w (h1 P G w q), a2.trans h2, fun k hk => ?_, fun j p id hp hid => ?_⟩
      · simp only [List.mem_cons, not_or] at hk
        rw [a3 k hk.2, h3 k hk.1]
      · cases j with
        | zero =>
          simp only [List.getElem?_cons_zero, Option.some.injEq] at hp hid
          subst hp hid
          rw [a3 i hd'.1]
          exact ⟨h4, h5⟩
        | succ j =>
          rw [List.getElem?_cons_succ] at hp hid
          obtain ⟨b1, b2⟩ := a4 j p id hp hid
          refine ⟨fun q => ?_, b2⟩
          rw [b1 q, h3 id fun e => hd'.1 (e ▸ List.mem_of_getElem? hid)]
    have set : ∀ x, st[i]? = some x → OLe x o → o ≠ .dead → canon (i :: I) (o :: os) st = canon I os (st.set i o) → _ := fun x hx hle hnd e => main (st.set i o) e (fun P G w q => hle.rel hx q) (by simp) (fun k hk => by rw [List.getElem?_set_ne (fun e => hk e.symm)]) (fun q => absurd q hnd) (fun _ => by rw [List.getElem?_set_self (get_lt hx)])
    have h0 := h 0 o rfl
    cases o with
    | dead => exact main st rfl (fun _ _ _ q => q) rfl (fun _ _ => rfl) (fun _ => rfl) (fun q => absurd rfl q)
    | box x =>
      rcases h0 with q | ⟨id, y, q1, q2, q3⟩
      · cases q
      · simp only [List.getElem?_cons_zero, Option.some.injEq] at q1
        subst q1
        exact set y q2 q3 (by simp) rfl
    | arr sz l m =>
      rcases h0 with q | ⟨id, y, q1, q2, q3⟩
      · cases q
      · simp only [List.getElem?_cons_zero, Option.some.injEq] at q1
        subst q1
        exact set y q2 q3 (by simp) rfl
end
end X
end HL
end
section
namespace HL
namespace X
open Go
section
variable {S : DSys} (ok : S.Ok)
structure Cv (m : Nat) (ent : TSt S) (vs : List VS) (os : List OS) (st : TSt S) (xs : List HV) (hst : St) (c : Conv S) (y : List (TV S) × TSt S) (hst2 : St) : Prop where
  len : c.st.length = hst2.length
  ro : ∀ (i : Nat) (p : TO S) (ho : HO), c.st[i]? = some p → hst2[i]? = some ho → (i ∉ c.ids ∨ p.isArr = true) → RO c.st p ho
  mo : Mo st c.st
  fr : m = 0 → Fr [] c.ids hst hst2
  nd : c.ids.Nodup
  kd : ∀ (j : Nat) (o : TO S), y.2[j]? = some o → o.isArr = true → ∃ id p, c.ids[j]? = some id ∧ c.st[id]? = some p ∧ p.isArr = true
  pre : List.range m <+: c.ids
  sel : selS (at_ c.ids) c.ids (encSt y.2) hst2
  gh : ∀ P G w us, Rel P G hst w → R G (.vals us xs) → ∃ G', Rel P G' hst2 w ∧ R G' (.vals us (renL (at_ c.ids) (encVs y.2 y.1))) ∧ Step G w G' w
  ylen : y.2.length = os.length
  ilen : c.ids.length = os.length
  yv : RvL y.2 y.1 (encVs y.2 y.1)
  ys : RSt y.2 (encSt y.2)
  ysc : ScSt (encSt y.2)
  yvc : ScdL (encSt y.2).length (encVs y.2 y.1)
  dk : ∀ (i : Nat) (s : VS) (z : HV), vs[i]? = some s → xs[i]? = some z → isD s = true → Cl z → ∃ V, y.1[i]? = some V ∧ ∀ T : TSt S, Rv T V z
  wv : wfVs os.length vs = true
  wo : wfOs os.length os = true
  eo : EntOk ent os 0
  tys : c.ls.map (fun l => l.t) = tysL vs ++ tysO os
theorem selS_of {σ : Nat → Nat} {st : St} : ∀ {is : List Nat} {S : St}, is.length = S.length → (∀ (j : Nat) (o : HO), S[j]? = some o → o = .dead ∨ ∃ i, is[j]? = some i ∧ st[i]? = some (o.ren σ)) → selS σ is S st
  | [], [], _, _ => trivial
  | [], _ :: _, h, _ => by simp at h
  | _ :: _, [], h, _ => by simp at h
  | i :: is, o :: os, h, hs => by
    refine ⟨?_, selS_of (by simpa using h) fun j o' ho => ?_⟩
    · rcases hs 0 o rfl with q | ⟨i', q1, q2⟩
      · exact .inl q
      · simp only [List.getElem?_cons_zero, Option.some.injEq] at q1
        subst q1
        exact .inr q2
    · have := hs (j + 1) o' (by rw [List.getElem?_cons_succ]; exact ho)
      simpa using this
theorem encO_dead {T : TSt S} {o : TO S} {σ : Nat → Nat} (h : (encO T o).ren σ = .dead) : o = .dead := by
  cases o <;> first | rfl | cases h
include ok
theorem conv_sound {m : Nat} {ent : Option (TSt S)} {vs : List VS} {os : List OS} {vals : List (TV S)} {st : TSt S} {c : Conv S} {xs : List HV} {hst : St} (h : conv m ent vs os vals st = some c) (hr : RvL st vals xs) (hs : RSt st hst)
    (hS : ∀ e, ent = some e → ∀ st', Mo st st' → SameOk e st') : ∃ hst2, Cv m (ent.getD []) vs os st xs hst c (opE vs os (ent.getD []) c.ls) hst2 := by
  simp only [conv] at h
  split at h
  · cases h
  rename_i vals' st1 h1
  split at h
  · cases h
  rename_i lx ids1 h2
  split at h
  · cases h
  rename_i st2 I h3
  split at h
  · cases h
  rename_i l1 i3 h4
  cases hb : (Nat.beq i3.length I.length && deadOk (ownsL vs ++ ownsO os) os 0) with
  | false => rw [hb] at h; cases h
  | true =>
    rw [hb] at h
    simp only [cond_true] at h
    split at h
    · cases h
    rename_i l2 h5
    cases h
    simp only [Bool.and_eq_true] at hb
    obtain ⟨hb1, hb2⟩ := hb
    have h3e := pre_len (mtL_pre h4).1 (beq_t hb1)
    subst h3e
    -- ghost steps
    obtain ⟨xs', hst1, p1, p2, p3, p4, p6, p5⟩ := coL_sound ok vs vals vals' st st1 xs hst h1 hr hs
    obtain ⟨q0, qd⟩ := mtL_pre h2
    obtain ⟨hst2, r1, r2, r3, r4, r5, r6⟩ := coO_sound ok (I := i3) h3 (fun _ q => q) p2
    have hmo : Mo st st2 := p3.trans r2
    have hSS : ∀ e, ent = some e → SameOk e st2 := fun e he => hS e he st2 hmo
    have hnd : i3.Nodup := r6 (qd List.nodup_range)
    -- what is told
    have hT2 : (opE vs os (ent.getD []) (l1 ++ l2)).2 = fixE os 0 (ent.getD []) (opOs os l2) := by
      simp only [opE, opn]
      rw [mtL_rest h4]
    generalize hT : (opE vs os (ent.getD []) (l1 ++ l2)).2 = T at *
    have hV : (opE vs os (ent.getD []) (l1 ++ l2)).1 = (opL vs (l1 ++ l2)).1 := rfl
    have hTl : T.length = os.length := by rw [hT2, fixE_len, opOs_len]
    obtain ⟨w1, w2⟩ := mtO_len hSS os 0 l2 h5
    have hIl : i3.length = os.length := by omega
    have w2 := w2 []
    rw [List.append_nil, ← hT2] at w2
    have hL : Lens st2 T i3 (ownsL vs ++ ownsO os) := by
      intro j id ver o hj hi ho
      have hlt : j < T.length := by have := get_lt hi; omega
      obtain ⟨id', a1, a2⟩ := w2 j T[j] (List.getElem?_eq_getElem hlt)
      rw [Nat.zero_add, hi] at a1
      cases a1
      obtain ⟨b1, b2, _⟩ := getO_some ho
      rcases a2 with ⟨a2, _⟩ | ⟨p, a2, a3, _⟩
      · have := deadOk_s hb2 j a2
        rw [Nat.zero_add] at this
        exact absurd hj this
      · rw [b1] at a2
        cases a2
        simp only [lenAt, nth_eq, List.getElem?_eq_getElem hlt]
        exact a3 b2
    obtain ⟨a1, a2, a3⟩ := mtL_sound ok hL vs vals' i3 i3 l1 xs' h4 (List.prefix_refl _) (fun j hj => List.mem_append_left _ hj) (p1.mono r2)
    obtain ⟨_, b2, b3, b4, b5⟩ := mtO_sound ok hL hSS r1 (by omega) os 0 l2 h5 (fun j hj => List.mem_append_right _ hj)
    have b5 := b5 []
    rw [List.append_nil, ← hT2] at b5
    have htys : (l1 ++ l2).map (fun l => l.t) = tysL vs ++ tysO os := by rw [List.map_append, a1, b2]
    have ho := opE_ok ok (vs := vs) (os := os) (ent := ent.getD []) (ls := l1 ++ l2) ⟨[], by rw [htys, List.append_nil]⟩ (by rw [← hIl]; exact a2) (by rw [← hIl]; exact b3) b4
    simp only [hT] at ho
    obtain ⟨o1, o2, o3, o4, o5⟩ := ho
    -- the objects, as told
    have hcan : ∀ (j : Nat) (o : HO), ((encSt T).map (HO.ren (at_ i3)))[j]? = some o → o = .dead ∨ ∃ (id : Nat) (x : HO), i3[j]? = some id ∧ hst2[id]? = some x ∧ OLe x o := by
      intro j o hj
      simp only [encSt, List.map_map, List.getElem?_map, Option.map_eq_some_iff, Function.comp] at hj
      obtain ⟨t, t1, rfl⟩ := hj
      rcases b5 j t t1 with rfl | ⟨id, x, x1, x2, x3, _⟩
      · exact .inl rfl
      · rw [Nat.zero_add] at x1
        exact .inr ⟨id, x, x1, x2, x3⟩
    obtain ⟨c1, c2, c3, c4⟩ := canon_s hnd hcan
    refine ⟨canon i3 ((encSt T).map (HO.ren (at_ i3))) hst2, ?_⟩
    have hat : ∀ (j : Nat) (t : TO S), T[j]? = some t → ((encSt T).map (HO.ren (at_ i3)))[j]? = some ((encO T t).ren (at_ i3)) := by
      intro j t ht
      simp [encSt, ht]
    have hget : ∀ {j id : Nat}, i3[j]? = some id → ∃ t, T[j]? = some t := fun {j id} hj => ⟨T[j]'(by have := get_lt hj; omega), List.getElem?_eq_getElem _⟩
    refine { len := ?_, ro := fun i p ho h1 h2 h3 => ?_, mo := hmo, fr := fun h0 => ?_, nd := hnd, kd := fun j o ho ha => ?_, pre := q0.trans r5, sel := ?_, gh := fun P G w us hrel hR => ?_, ylen := ?_, ilen := hIl, yv := ?_, ys := ?_, ysc := ?_, yvc := ?_, dk := fun i s z g1 g2 g3 g4 => ?_, wv := by rw [← hIl]; exact a2, wo := by rw [← hIl]; exact b3, eo := b4, tys := htys }
    · rw [c2]; exact r1.1
    · by_cases hi : i ∈ i3
      · obtain ⟨j, hj⟩ := List.getElem?_of_mem hi
        obtain ⟨t, ht⟩ := hget hj
        have hp : p.isArr = true := by
          rcases h3 with h3 | h3
          · exact absurd hi h3
          · exact h3
        obtain ⟨d1, d2⟩ := c4 j _ i (hat j t ht) hj
        rcases b5 j t ht with rfl | ⟨id, x, x1, x2, x3, x4⟩
        · rw [d1 rfl] at h2
          exact r1.2 i p ho h1 h2
        · rw [Nat.zero_add, hj] at x1
          cases x1
          have hta : t.isArr = true := by
            obtain ⟨lh, e, _⟩ := (r1.2 i p x h1 x2).arr_of hp
            subst e
            cases t with
            | box => cases x3
            | dead => cases x3
            | _ => rfl
          obtain ⟨p', e1, e2⟩ := x4 hta
          rw [h1] at e1
          cases e1
          have hnd : (encO T t).ren (at_ i3) ≠ .dead := fun e => by have := encO_dead e; subst this; cases hta
          rw [d2 hnd] at h2
          cases h2
          exact e2
      · rw [c3 i hi] at h2
        exact r1.2 i p ho h1 h2
    · refine ((p4 h0).mono (fun _ q => by cases q) (fun _ q => by cases q)).trans ((r4 h0).trans ⟨by rw [c2]; exact Nat.le_refl _, fun j o hj hn => ?_⟩)
      exact ⟨o, by rw [c3 j hn]; exact hj, .refl o, fun _ => .refl o⟩
    · rw [hT] at ho
      obtain ⟨id, d1, d2⟩ := w2 j o ho
      rw [Nat.zero_add] at d1
      rcases d2 with ⟨_, d2⟩ | ⟨p, d2, _, d3⟩
      · rw [ha] at d2; cases d2
      · exact ⟨id, p, d1, d2, d3 ha⟩
    · refine selS_of (by rw [hT]; simp [encSt]; omega) fun j o hj => ?_
      rw [hT] at hj
      simp only [encSt, List.getElem?_map, Option.map_eq_some_iff] at hj
      obtain ⟨t, ht, rfl⟩ := hj
      by_cases hd : t = .dead
      · subst hd; exact .inl rfl
      · have hlt : j < i3.length := by have := get_lt ht; omega
        obtain ⟨d1, d2⟩ := c4 j _ _ (hat j t ht) (List.getElem?_eq_getElem hlt)
        exact .inr ⟨_, List.getElem?_eq_getElem hlt, d2 fun e => hd (encO_dead e)⟩
    · obtain ⟨G1, g1, g2, g3⟩ := p5.gh P G w us hrel hR
      obtain ⟨G2, k1, k2⟩ := r3 P G1 w g1
      refine ⟨G2, c1 P G2 w k1, ?_, g3.trans k2⟩
      rw [hV, hT]
      exact (a3 l2).2.vals (g2.mono k2)
    · rw [hT]; exact o1
    · rw [hT]; exact o2
    · rw [hT]; exact o3
    · rw [hT]; exact o4
    · rw [hT]; exact o5
    · obtain ⟨z', e1, e2⟩ := p6 i s z g1 g2 g3 g4
      exact mtL_dk ok h4 (p1.mono r2) l2 i s z' z g1 e1 g3 e2
omit ok
theorem mtO_ro {ent : Option (TSt S)} {st : TSt S} {I : List Nat} : ∀ {os : List OS} {j : Nat} {ls : List (Lf S)}, mtO ent st os j I = some ls →
    ∀ rest (i : Nat) (t : Tc), os[i]? = some (.ro t) → ∃ id l v cc, I[j + i]? = some id ∧ st[id]? = some (.arr t l true v cc) ∧ (opOs os (ls ++ rest))[i]? = some (.arr t l true 0 0) ∧
      ∀ e, ent = some e → id = j + i ∧ sameO (nth e (j + i)) (nth st (j + i)) = true
  | [], j, ls, h, rest, i, t, hi => by simp at hi
  | s :: r, j, ls, h, rest, i, t, hi => by
    simp only [mtO] at h
    split at h
    · cases h
    · rename_i id hid
      rw [nth_eq] at hid
      have tail : ∀ {ls' l1 : List (Lf S)} {i' : Nat}, mtO ent st r (j + 1) I = some ls' → ls = l1 ++ ls' → (∀ rest, (opOs (s :: r) (l1 ++ rest)) = (opO s (l1 ++ rest)).1 :: opOs r rest) → i = i' + 1 →
          ∃ id l v cc, I[j + i]? = some id ∧ st[id]? = some (.arr t l true v cc) ∧ (opOs (s :: r) (ls ++ rest))[i]? = some (.arr t l true 0 0) ∧ ∀ e, ent = some e → id = j + i ∧ sameO (nth e (j + i)) (nth st (j + i)) = true := by
        intro ls' l1 i' h1 h2 h3 h4
        subst h4 h2
        obtain ⟨id, l, v, cc, a1, a2, a3, a4⟩ := mtO_ro h1 rest i' t (by simpa using hi)
        rw [show j + 1 + i' = j + (i' + 1) by omega] at a1 a4
        exact ⟨id, l, v, cc, a1, a2, by rw [List.append_assoc, h3, List.getElem?_cons_succ]; exact a3, a4⟩
      have list : ∀ {t' : Tc}, (match nth st id with
          | some (.arr t'' l true _ _) => match Lf.to (.ls t') ⟨.ls t'', l⟩, mtO ent st r (j + 1) I with
            | some x, some ls => some ((⟨.ls t', x⟩ : Lf S) :: ls)
            | _, _ => none
          | _ => none) = some ls → (s = .ro t' ∨ s = .arr t') → ∃ ls' l v cc, mtO ent st r (j + 1) I = some ls' ∧ ls = [⟨.ls t', l⟩] ++ ls' ∧ st[id]? = some (.arr t' l true v cc) := by
        intro t' h _
        rw [nth_eq] at h
        split at h
        · rename_i t'' l v c hob
          split at h
          · rename_i x ls' h1 h2
            cases h
            obtain ⟨e, rfl⟩ := lf_to h1
            subst e
            exact ⟨ls', l, v, c, h2, rfl, hob⟩
          · cases h
        · cases h
      cases s with
      | dead =>
        cases i with
        | zero => simp at hi
        | succ i' => exact tail (l1 := []) h rfl (fun rest => rfl) rfl
      | same =>
        cases i with
        | zero => simp at hi
        | succ i' =>
          simp only at h
          split at h
          · exact tail (l1 := []) (cond_some h) rfl (fun rest => rfl) rfl
          · cases h
      | arr t' =>
        cases i with
        | zero => simp at hi
        | succ i' =>
          obtain ⟨ls', l, v, cc, h1, h2, h3⟩ := list h (.inr rfl)
          exact tail h1 h2 (fun rest => rfl) rfl
      | ro t' =>
        replace h : cond (match ent with
          | some e => Nat.beq id j && sameO (nth e j) (nth st id)
          | none => true) (match nth st id with
          | some (.arr t'' l true _ _) => match Lf.to (.ls t') ⟨.ls t'', l⟩, mtO ent st r (j + 1) I with
            | some x, some ls => some (⟨.ls t', x⟩ :: ls)
            | _, _ => none
          | _ => none) none = some ls := h
        obtain ⟨ls', l, v, cc, h1, h2, h3⟩ := list (cond_some h) (.inl rfl)
        cases i with
        | succ i' => exact tail h1 h2 (fun rest => rfl) rfl
        | zero =>
          simp only [List.getElem?_cons_zero, Option.some.injEq, OS.ro.injEq] at hi
          subst hi h2
          refine ⟨id, l, v, cc, hid, h3, rfl, fun e he => ?_⟩
          subst he
          cases hb : (Nat.beq id j && sameO (nth e j) (nth st id)) with
          | false => simp only [hb] at h; cases h
          | true =>
            simp only [Bool.and_eq_true] at hb
            have := beq_t hb.1
            subst this
            exact ⟨rfl, hb.2⟩
      | box sh =>
        cases i with
        | zero => simp at hi
        | succ i' =>
          simp only at h
          split at h
          · split at h
            · rename_i l1 ids1 h1
              have h' := cond_some h
              split at h'
              · rename_i l2 h2
                cases h'
                exact tail (l1 := l1) h2 rfl (fun rest => by simp only [opOs, opO, mtV_rest h1 rest]) rfl
              · cases h'
            · cases h
          · cases h
theorem conv_ro {m : Nat} {ent : Option (TSt S)} {vs : List VS} {os : List OS} {vals : List (TV S)} {st : TSt S} {c : Conv S} (h : conv m ent vs os vals st = some c) :
    ∀ (j : Nat) (t : Tc), os[j]? = some (.ro t) → ∃ i l v cc, c.ids[j]? = some i ∧ c.st[i]? = some (.arr t l true v cc) ∧ (opn vs os c.ls).2[j]? = some (.arr t l true 0 0) ∧
      ∀ e, ent = some e → i = j ∧ sameO (nth e j) (nth c.st j) = true := by
  simp only [conv] at h
  split at h
  · cases h
  split at h
  · cases h
  split at h
  · cases h
  split at h
  · cases h
  rename_i l1 i3 h4
  have h' := cond_some h
  split at h'
  · cases h'
  · rename_i l2 h5
    cases h'
    intro j t hj
    obtain ⟨id, l, v, cc, a1, a2, a3, a4⟩ := mtO_ro h5 [] j t hj
    rw [Nat.zero_add] at a1 a4
    rw [List.append_nil] at a3
    refine ⟨id, l, v, cc, a1, a2, ?_, a4⟩
    show (opOs os (opL vs (l1 ++ l2)).2)[j]? = _
    rw [mtL_rest h4]
    exact a3
end
end X
end HL
end
section
namespace HL
namespace X
open Go
section
variable {S : DSys}
theorem trenL_map (σ β : Nat → Nat) : ∀ l : List (TV S), trenL σ β l = l.map (TV.ren σ β)
  | [] => rfl
  | x :: l => by simp [trenL, trenL_map σ β l]
theorem ren_ttup (σ β : Nat → Nat) (v : TV S) : ttup (v.ren σ β) = ttup v := by cases v <;> rfl
theorem ren_tsz (σ β : Nat → Nat) (v : TV S) : tsz (v.ren σ β) = tsz v := by cases v <;> first | rfl | simp [TV.ren, tsz, trenL_map]
def RenOk (T st' : TSt S) (σ β : Nat → Nat) : Prop := ∀ j, j < T.length → σ j < st'.length ∧ ∀ o', st'[σ j]? = some o' → o'.isArr = true → ∃ o, T[j]? = some o ∧ o.isArr = true ∧ o'.ver = o.ver + β j ∧ o'.len = o.len
theorem OwnR.renT {T st' : TSt S} {σ β : Nat → Nat} (hk : RenOk T st' σ β) {id ver n : Nat} (h : OwnR T id ver n) : OwnR st' (σ id) (ver + β id) n := by
  obtain ⟨h1, h2⟩ := hk id h.1
  refine ⟨h1, fun o' a1 a2 => ?_⟩
  obtain ⟨o, b1, b2, b3, b4⟩ := h2 o' a1 a2
  obtain ⟨c1, c2⟩ := h.2 o b1 b2
  exact ⟨by omega, fun e => by rw [b4]; exact c2 (by omega)⟩
variable (ok : S.Ok)
include ok
theorem Rv.renT {T st' : TSt S} {σ β : Nat → Nat} (hk : RenOk T st' σ β) {v : TV S} {h : HV} (hr : Rv T v h) : Rv st' (v.ren σ β) (h.ren σ) := by
  have list : ∀ {l : List (TV S)} {hs : List HV}, l.length = hs.length → (∀ (i : Nat) (v : TV S) (x : HV), l[i]? = some v → hs[i]? = some x → Rv st' (v.ren σ β) (x.ren σ)) →
      (trenL σ β l).length = (renL σ hs).length ∧ ∀ (i : Nat) (v : TV S) (x : HV), (trenL σ β l)[i]? = some v → (renL σ hs)[i]? = some x → Rv st' v x := by
    intro l hs hl ih
    refine ⟨by simp [trenL_map, renL_map, hl], fun i v x hv hx => ?_⟩
    rw [trenL_map, List.getElem?_map, Option.map_eq_some_iff] at hv
    rw [renL_map, List.getElem?_map, Option.map_eq_some_iff] at hx
    obtain ⟨v', hv', rfl⟩ := hv
    obtain ⟨x', hx', rfl⟩ := hx
    exact ih i v' x' hv' hx'
  induction hr with
  | d e =>
    rw [TV.ren, (e.cl (encT_cl ok _ _)).1 σ]
    exact .d e
  | nilp => exact .nilp
  | nils => exact .nils
  | nilf => exact .nilf
  | und => exact .und
  | bp => exact .bp
  | ap h hi =>
    refine .ap (h.renT hk) fun o' a1 a2 a3 => ?_
    obtain ⟨o, b1, b2, b3, b4⟩ := (hk _ h.1).2 o' a1 a2
    exact hi o b1 b2 (by omega)
  | own h => exact .own (h.renT hk)
  | otl h => exact .otl (h.renT hk)
  | eptr hl he =>
    rename_i t l i off e lh
    have : renL σ lh = lh := (hl.cl (cll_of (fun y => encT_cl ok t y) l)).1 σ
    rw [TV.ren, HV.ren, this]
    exact .eptr hl he
  | slV hl _ ih => exact .slV (list hl ih).1 (list hl ih).2
  | agg hl _ ih => exact .agg (list hl ih).1 (list hl ih).2
  | tup hl _ ih => exact .tup (list hl ih).1 (list hl ih).2
  | fn hl _ hl' _ ih ih' => exact .fn (list hl ih).1 (list hl ih).2 (list hl' ih').1 (list hl' ih').2
theorem RO.renT {T st' : TSt S} {σ β : Nat → Nat} (hk : RenOk T st' σ β) {o : TO S} {ho : HO} (hr : RO T o ho) (b c : Nat) : RO st' (o.ren σ β b c) (ho.ren σ) := by
  cases hr with
  | box hv ht => exact .box (Rv.renT ok hk hv) (by rw [ren_ttup]; exact ht)
  | arr hl =>
    rename_i t l mu ver cv lh
    have : renL σ lh = lh := (hl.cl (cll_of (fun y => encT_cl ok t y) l)).1 σ
    rw [HO.ren, this]
    exact .arr hl
  | arrV hl hs =>
    rename_i l mu ver lh
    refine .arrV ⟨by simp [trenL_map, renL_map, hl.1], fun i v x hv hx => ?_⟩ fun v hv => ?_
    · rw [trenL_map, List.getElem?_map, Option.map_eq_some_iff] at hv
      rw [renL_map, List.getElem?_map, Option.map_eq_some_iff] at hx
      obtain ⟨v', hv', rfl⟩ := hv
      obtain ⟨x', hx', rfl⟩ := hx
      exact Rv.renT ok hk (hl.2 i v' x' hv' hx')
    · rw [trenL_map, List.mem_map] at hv
      obtain ⟨v', hv', rfl⟩ := hv
      rw [ren_tsz, ren_ttup]
      exact hs v' hv'
  | arrZ hv hs ht =>
    rename_i sz n z mu ver h
    have : HO.ren σ (.arr sz (List.replicate n h) mu) = .arr sz (List.replicate n (h.ren σ)) mu := by simp [HO.ren, renL_map]
    rw [this]
    exact .arrZ (Rv.renT ok hk hv) (by rw [ren_tsz]; exact hs) (by rw [ren_ttup]; exact ht)
  | dead => exact .dead
omit ok
/-! ### what a call is said to do -/
def fnIn (s : FS S) (x : Pk S.ty s.itys) : List (TV S) × TSt S := opn s.ain s.aos (unpk S s.itys x)
def fnOut (s : FS S) (x : Pk S.ty s.itys) (o : Pk S.ty s.otys) : List (TV S) × TSt S := opE s.rin s.ros (fnIn s x).2 (unpk S s.otys o)
structure ClaimF0 (P : Program) (s : FS S) (x : Pk S.ty s.itys) (o : Pk S.ty s.otys) : Prop where
  hc : HC P s.fid (encVs (fnIn s x).2 (fnIn s x).1) (encSt (fnIn s x).2) fun r st => r = encV (fnOut s x o).2 (one (fnOut s x o).1) ∧ st = encSt (fnOut s x o).2
  wv : wfVs s.ros.length s.rin = true
  wo : wfOs s.ros.length s.ros = true
  eo : EntOk (fnIn s x).2 s.ros 0
  len : s.aos.length ≤ s.ros.length
def ClaimF (P : Program) (s : FS S) (x : Pk S.ty s.itys) (o : Pk S.ty s.otys) : Prop :=
  RvL (fnIn s x).2 (fnIn s x).1 (encVs (fnIn s x).2 (fnIn s x).1) → RSt (fnIn s x).2 (encSt (fnIn s x).2) → ClaimF0 P s x o
theorem fixE_noent : ∀ {os : List OS} {j : Nat} {ls : List (Lf S)}, notDead os = true → fixE os j [] (opOs os ls) = opOs os ls
  | [], _, _, _ => rfl
  | .same :: r, _, _, h => by cases h
  | .dead :: r, _, _, h => by cases h
  | .box v :: r, j, ls, h => by simp only [opOs, opO, fixE]; rw [fixE_noent (os := r) h]
  | .arr t :: r, j, ls, h => by simp only [opOs, fixE]; rw [fixE_noent (os := r) h]
  | .ro t :: r, j, ls, h => by simp only [opOs, fixE]; rw [fixE_noent (os := r) h]
theorem opOs_live {T : TSt S} : ∀ {os : List OS} {ls : List (Lf S)}, notDead os = true → Has ls (tysO os) → (∀ sh : VS, ∀ ls : List (Lf S), Has ls sh.tys → (opV sh ls).2 = ls.drop sh.tys.length) → ∀ o ∈ opOs os ls, (encO T o).live.isSome = true
  | [], _, _, _, _, o, ho => by cases ho
  | .same :: r, _, h, _, _, _, _ => by cases h
  | .dead :: r, _, h, _, _, _, _ => by cases h
  | .box v :: r, ls, h, ht, hv, o, ho => by
    simp only [opOs, opO, List.mem_cons] at ho
    rcases ho with rfl | ho
    · rfl
    · exact opOs_live (os := r) h (by rw [hv v ls ht.left]; exact ht.drop) hv o ho
  | .arr t :: r, ls, h, ht, hv, o, ho => by
    obtain ⟨x, l, rfl, h2⟩ := Has.cons (ts := tysO r) ht
    simp only [opOs, opO, List.mem_cons] at ho
    rcases ho with rfl | ho
    · rfl
    · exact opOs_live (os := r) h h2 hv o ho
  | .ro t :: r, ls, h, ht, hv, o, ho => by
    obtain ⟨x, l, rfl, h2⟩ := Has.cons (ts := tysO r) ht
    simp only [opOs, opO, List.mem_cons] at ho
    rcases ho with rfl | ho
    · rfl
    · exact opOs_live (os := r) h h2 hv o ho
theorem HC.ghost {P : Program} {f : FuncId} {xs xs2 : List HV} {st st2 : St} {K : HV → St → Prop} (hg : ∀ G w us, Rel P G st w → R G (.vals us xs) → ∃ G', Rel P G' st2 w ∧ R G' (.vals us xs2) ∧ Step G w G' w) (h : HC P f xs2 st2 K) : HC P f xs st K := by
  refine ⟨h.1, fun G w us hr hR => ?_⟩
  obtain ⟨G', g1, g2, g3⟩ := hg G w us hr hR
  exact (h.2 G' w us g1 g2).mono fun e w' ⟨v, r, st', G1, a1, a2, a3, a4, a5⟩ => ⟨v, r, st', G1, a1, a2, a3, a4, g3.trans a5⟩
theorem outerT_eq (ids : List Nat) (n : Nat) : outerT ids n = outer ids n := by
  funext j
  simp only [outerT, nth_eq, outer]
  cases h : ids[j]? with
  | some i => simp [get_lt h, at_get h]
  | none =>
    have : ids.length ≤ j := by
      rcases Nat.lt_or_ge j ids.length with hlt | hge
      · rw [List.getElem?_eq_getElem hlt] at h; cases h
      · exact hge
    simp [Nat.not_lt.2 this]
theorem renOs_get {σ β γ : Nat → Nat} : ∀ {l : TSt S} {k i : Nat}, (renOs σ β γ k l)[i]? = (l[i]?).map fun o => o.ren σ β (β (k + i)) (γ (k + i))
  | [], k, i => by simp [renOs]
  | o :: l, k, 0 => by simp [renOs]
  | o :: l, k, i + 1 => by
    rw [renOs, List.getElem?_cons_succ, renOs_get]
    simp [Nat.add_assoc, Nat.add_comm 1 i]
theorem renOs_len {σ β γ : Nat → Nat} : ∀ {l : TSt S} {k : Nat}, (renOs σ β γ k l).length = l.length
  | [], _ => rfl
  | o :: l, k => by simp [renOs, renOs_len]
theorem fixS_len : ∀ {os : List OS} {ids : List Nat} {st l : TSt S}, (fixS os ids st l).length = l.length
  | [], _, _, l => by simp [fixS]
  | o :: r, [], st, l => by cases o <;> simp [fixS]
  | o :: r, i :: ids, st, [] => by cases o <;> simp [fixS]
  | o :: r, i :: ids, st, x :: l => by cases o <;> simp [fixS, fixS_len (os := r)]
theorem fixS_get : ∀ {os : List OS} {ids : List Nat} {st l : TSt S} {j : Nat} {o : TO S}, os.length = l.length → (fixS os ids st l)[j]? = some o →
    (∃ i, ids[j]? = some i ∧ os[j]? = some .same ∧ (st[i]? = some o ∨ st[i]? = none)) ∨ (∃ i p, ids[j]? = some i ∧ os[j]? ≠ some .same ∧ l[j]? = some p ∧ o = kdO p st[i]?) ∨ (ids.length ≤ j ∧ l[j]? = some o)
  | [], ids, st, l, j, o, hl, h => by cases l <;> simp_all [fixS]
  | s :: r, [], st, l, j, o, hl, h => by
    refine .inr (.inr ⟨Nat.zero_le _, ?_⟩)
    cases s <;> simpa [fixS] using h
  | s :: r, i :: ids, st, [], j, o, hl, h => by simp at hl
  | s :: r, i :: ids, st, x :: l, j, o, hl, h => by
    have hl' : r.length = l.length := by simpa using hl
    cases j with
    | zero =>
      by_cases hs : s = .same
      · subst hs
        refine .inl ⟨i, rfl, rfl, ?_⟩
        simp only [fixS, nth_eq, List.getElem?_cons_zero, Option.some.injEq] at h
        split at h
        · rename_i y hy; subst h; exact .inl hy
        · rename_i hy; exact .inr hy
      · refine .inr (.inl ⟨i, x, rfl, ?_, rfl, ?_⟩)
        · simp only [List.getElem?_cons_zero, ne_eq, Option.some.injEq]; exact hs
        · cases s <;> first | exact absurd rfl hs | (simp only [fixS, nth_eq, List.getElem?_cons_zero, Option.some.injEq] at h; exact h.symm)
    | succ j =>
      have h2 : (fixS r ids st l)[j]? = some o := by
        cases s <;> simpa [fixS] using h
      rcases fixS_get hl' h2 with ⟨i', a1, a2, a3⟩ | ⟨i', p, a1, a2, a3, a4⟩ | ⟨a1, a2⟩
      · exact .inl ⟨i', by simpa using a1, by simpa using a2, a3⟩
      · exact .inr (.inl ⟨i', p, by simpa using a1, by simpa using a2, by simpa using a3, a4⟩)
      · exact .inr (.inr ⟨by simpa using a1, by simpa using a2⟩)
theorem fixE_get : ∀ {os : List OS} {k : Nat} {ent l : TSt S} {j : Nat} {o : TO S}, (fixE os k ent l)[j]? = some o →
    (os[j]? = some .same ∧ (ent[k + j]? = some o ∨ ent[k + j]? = none)) ∨ (os[j]? ≠ some .same ∧ l[j]? = some o)
  | [], k, ent, l, j, o, h => .inr ⟨by simp, by simpa [fixE] using h⟩
  | s :: r, k, ent, [], j, o, h => by cases s <;> simp [fixE] at h
  | s :: r, k, ent, x :: l, j, o, h => by
    cases j with
    | zero =>
      by_cases hs : s = .same
      · subst hs
        simp only [fixE, nth_eq, List.getElem?_cons_zero, Option.some.injEq] at h
        refine .inl ⟨rfl, ?_⟩
        split at h
        · rename_i y hy; subst h; exact .inl hy
        · rename_i hy; exact .inr hy
      · refine .inr ⟨by simp only [List.getElem?_cons_zero, ne_eq, Option.some.injEq]; exact hs, ?_⟩
        cases s <;> first | exact absurd rfl hs | simpa [fixE] using h
    | succ j =>
      have h2 : (fixE r (k + 1) ent l)[j]? = some o := by cases s <;> simpa [fixE] using h
      rcases fixE_get h2 with ⟨a1, a2⟩ | ⟨a1, a2⟩
      · exact .inl ⟨by simpa using a1, by rw [show k + (j + 1) = k + 1 + j by omega]; exact a2⟩
      · exact .inr ⟨by simpa using a1, by simpa using a2⟩
theorem EntOk.get {ent : TSt S} : ∀ {os : List OS} {k j : Nat}, EntOk ent os k → os[j]? = some .same → ∃ t l v c, ent[k + j]? = some (.arr t l true v c)
  | [], k, j, h, hj => by simp at hj
  | s :: r, k, j, h, hj => by
    cases j with
    | zero =>
      simp only [List.getElem?_cons_zero, Option.some.injEq] at hj
      subst hj
      exact h.1
    | succ j =>
      have h2 : EntOk ent r (k + 1) := by cases s <;> first | exact h.2 | exact h
      obtain ⟨t, l, v, c, e⟩ := h2.get (by simpa using hj)
      exact ⟨t, l, v, c, by rw [show k + (j + 1) = k + 1 + j by omega]; exact e⟩
end
end X
end HL
end
section
namespace HL
namespace X
open Go
section
variable {S : DSys} (ok : S.Ok)
theorem ren_isArr (σ β : Nat → Nat) (b c : Nat) (o : TO S) : (o.ren σ β b c).isArr = o.isArr := by cases o <;> rfl
theorem ren_ver (σ β : Nat → Nat) (b c : Nat) {o : TO S} (h : o.isArr = true) : (o.ren σ β b c).ver = o.ver + b := by cases o <;> first | rfl | cases h
theorem ren_len (σ β : Nat → Nat) (b c : Nat) (o : TO S) : (o.ren σ β b c).len = o.len := by cases o <;> first | rfl | simp [TO.ren, TO.len, trenL_map]
theorem kdO_s {o : TO S} {r : Option (TO S)} : kdO o r = .dead ∨ (∃ p, r = some p ∧ kdO o r = o ∧ (o.isArr = true → p.isArr = true)) := by
  cases r with
  | none => exact .inl rfl
  | some p =>
    cases h : (o.isArr && !p.isArr) with
    | true => exact .inl (by simp only [kdO, h, cond_true])
    | false =>
      refine .inr ⟨p, rfl, by simp only [kdO, h, cond_false], fun q => ?_⟩
      rw [q] at h
      simpa using h
theorem opOs_ver {os : List OS} : ∀ {ls : List (Lf S)} {o : TO S}, o ∈ opOs os ls → o.ver = 0 ∧ (o.isArr = true → ∃ t l, o = .arr t l true 0 0) := by
  induction os with
  | nil => intro ls o h; cases h
  | cons s r ih =>
    intro ls o h
    simp only [opOs, List.mem_cons] at h
    rcases h with rfl | h
    · cases s with
      | box v => exact ⟨rfl, fun q => by cases q⟩
      | same => exact ⟨rfl, fun q => by cases q⟩
      | dead => exact ⟨rfl, fun q => by cases q⟩
      | arr t =>
        simp only [opO]
        split
        · exact ⟨rfl, fun _ => ⟨_, _, rfl⟩⟩
        · exact ⟨rfl, fun q => by cases q⟩
      | ro t =>
        simp only [opO]
        split
        · exact ⟨rfl, fun _ => ⟨_, _, rfl⟩⟩
        · exact ⟨rfl, fun q => by cases q⟩
    · exact ih h
mutual
theorem opV_drop : ∀ (sh : VS) (ls : List (Lf S)), Has ls sh.tys → (opV sh ls).2 = ls.drop sh.tys.length
  | .d t, ls, h => by
    obtain ⟨x, r, rfl, _⟩ := Has.cons h
    rfl
  | .own j t, ls, h => rfl
  | .ptr j off, ls, h => rfl
  | .nilp, ls, h => rfl
  | .nilf, ls, h => rfl
  | .fn f a b, ls, h => by
    simp only [VS.tys] at h
    have e1 := opL_drop a ls h.left
    have e2 := opL_drop b (opL a ls).2 (by rw [e1]; exact h.drop)
    show (opL b (opL a ls).2).2 = _
    rw [e2, e1, List.drop_drop, VS.tys, List.length_append]
  | .agg l, ls, h => opL_drop l ls h
theorem opL_drop : ∀ (sh : List VS) (ls : List (Lf S)), Has ls (tysL sh) → (opL sh ls).2 = ls.drop (tysL sh).length
  | [], ls, h => rfl
  | v :: r, ls, h => by
    simp only [tysL] at h
    have e1 := opV_drop v ls h.left
    have e2 := opL_drop r (opV v ls).2 (by rw [e1]; exact h.drop)
    show (opL r (opV v ls).2).2 = _
    rw [e2, e1, List.drop_drop, tysL, List.length_append]
end
theorem one_sound {T : TSt S} {V : List (TV S)} (h : RvL T V (encVs T V)) : Rv T (one V) (encV T (one V)) := by
  have tup : ∀ V : List (TV S), RvL T V (encVs T V) → Rv T (.tup V) (.tup (encVs T V)) := fun V h => .tup h.1 h.2
  match V, h with
  | [], h => exact tup [] h
  | [x], h => exact h.2 0 x _ rfl rfl
  | x :: y :: r, h => exact tup _ h
include ok
theorem call_sound {P : Program} {tab : List (FS S)} {c : (i : Q S) → i.In → Option i.Out} (hc : ∀ s ∈ tab, ∀ x o, c (.fn s) x = some o → ClaimF P s x o) : CallOk P tab c := by
  intro O r k g vals xs st hst K h hr hs hk
  induction tab with
  | nil => cases h
  | cons s tab ih =>
    cases hg : Nat.beq s.fid g with
    | false =>
      simp only [tcall, hg, cond_false] at h
      simp only [callIds, hg, cond_false] at hk
      exact ih (fun s' hs' => hc s' (List.mem_cons_of_mem _ hs')) h hk
    | true =>
      simp only [tcall, hg, cond_true] at h
      simp only [callIds, hg, cond_true] at hk
      cases hcv : conv 0 none s.ain s.aos vals st with
      | none =>
        rw [hcv] at h hk
        exact ih (fun s' hs' => hc s' (List.mem_cons_of_mem _ hs')) h hk
      | some C =>
        rw [hcv] at h hk
        simp only at h hk
        split at h
        · rename_i x hx
          replace h := cond_s h
          obtain ⟨hnd, h⟩ := h
          simp only [interp, Option.bind_eq_some_iff] at h
          obtain ⟨o, ho, h⟩ := h
          have hgf := beq_t hg
          obtain ⟨hst2, cv⟩ := conv_sound ok hcv hr hs (fun e he => by cases he)
          have hu := pack_unpk hx
          -- what is handed over
          have hin : opE s.ain s.aos ((none : Option (TSt S)).getD []) C.ls = fnIn s x := by
            simp only [opE, fnIn, opn, hu, Option.getD_none, fixE_noent hnd]
          rw [hin] at cv
          have hcl := hc s List.mem_cons_self x o ho cv.yv cv.ys
          have hin2 : (fnIn s x).2 = opOs s.aos (opL s.ain C.ls).2 := by simp only [fnIn, opn, hu]
          -- what comes back
          have hol : (unpk S s.otys o).map (fun l => l.t) = tysL s.rin ++ tysO s.ros := unpk_has _ _
          have hout := opE_ok ok (vs := s.rin) (os := s.ros) (ent := (fnIn s x).2) (ls := unpk S s.otys o) ⟨[], by rw [hol, List.append_nil]⟩ hcl.wv hcl.wo hcl.eo
          obtain ⟨z1, z2, z3, z4, z5⟩ := hout
          change (fnOut s x o).2.length = s.ros.length at z1
          change RvL (fnOut s x o).2 (fnOut s x o).1 (encVs (fnOut s x o).2 (fnOut s x o).1) at z2
          change RSt (fnOut s x o).2 (encSt (fnOut s x o).2) at z3
          change ScSt (encSt (fnOut s x o).2) at z4
          change ScdL (encSt (fnOut s x o).2).length (encVs (fnOut s x o).2 (fnOut s x o).1) at z5
          have hz2 : (fnOut s x o).2 = fixE s.ros 0 (fnIn s x).2 (opOs s.ros (opL s.rin (unpk S s.otys o)).2) := rfl
          have hz1 : (fnOut s x o).1 = (opn s.rin s.ros (unpk S s.otys o)).1 := rfl
          have hopn2 : (opn s.rin s.ros (unpk S s.otys o)).2 = opOs s.ros (opL s.rin (unpk S s.otys o)).2 := rfl
          rw [← hz1] at h
          generalize hz : fnOut s x o = z at *
          obtain ⟨V, Tz⟩ := z
          simp only at z1 z2 z3 z4 z5 hz2 h
          have hclc := hcl.hc
          rw [hz] at hclc
          simp only at hclc
          have hel : (encSt (fnIn s x).2).length = s.aos.length := by rw [← cv.ylen]; simp [encSt]
          have hez : (encSt Tz).length = s.ros.length := by rw [← z1]; simp [encSt]
          have hids : C.ids.length = s.aos.length := cv.ilen
          -- all of them live
          have htl := cv.tys
          have hlive : ∀ ob ∈ encSt (fnIn s x).2, ob.live.isSome = true := by
            intro ob hob
            simp only [encSt, List.mem_map] at hob
            obtain ⟨t, ht, rfl⟩ := hob
            have hh : Has C.ls (tysL s.ain ++ tysO s.aos) := ⟨[], by rw [htl, List.append_nil]⟩
            rw [hin2] at ht
            have hdr := opL_drop s.ain C.ls hh.left
            exact opOs_live hnd (by rw [hdr]; exact hh.drop) (fun sh ls q => opV_drop sh ls q) t ht
          have hlt : ∀ i ∈ C.ids, i < hst2.length := by
            intro i hi
            obtain ⟨j, hj⟩ := List.getElem?_of_mem hi
            have hjl : j < (encSt (fnIn s x).2).length := by rw [hel, ← hids]; exact get_lt hj
            obtain ⟨i', q1, q2⟩ := selS_get cv.sel j _ (List.getElem?_eq_getElem hjl)
            rw [hj] at q1
            cases q1
            have hl := hlive _ (List.getElem_mem hjl)
            rcases q2 with q2 | q2
            · rw [q2] at hl; cases hl
            · exact get_lt q2
          -- the stores behind the call
          let σ := outer C.ids hst2.length
          let β := verT s.ros C.st C.ids
          let γ := cvT C.st C.ids
          let L := renOs σ β γ 0 (opn s.rin s.ros (unpk S s.otys o)).2
          let N := fixS s.ros C.ids C.st L
          let st' := merge C.ids N C.st
          have hcl' : C.st.length = hst2.length := cv.len
          have hh : interp c (k ((one V).ren σ β) st') = some r := by
            have : outerT C.ids C.st.length = σ := by rw [outerT_eq, hcl']
            rw [this] at h
            exact h
          have hLl : L.length = s.ros.length := by simp only [L, renOs_len, hopn2, opOs_len]
          have hNl : N.length = s.ros.length := by simp only [N, fixS_len, hLl]
          have hlen' : C.ids.length ≤ s.ros.length := by rw [hids]; exact hcl.len
          have hst'l : st'.length = C.st.length + (s.ros.length - C.ids.length) := by simp only [st', merge_len, hNl]
          have hTl : Tz.length = s.ros.length := z1
          -- where an object lies
          have sat : ∀ {j i : Nat}, C.ids[j]? = some i → σ j = i := fun h => outer_lt h
          have snew : ∀ {j : Nat}, C.ids.length ≤ j → σ j = hst2.length + (j - C.ids.length) := fun h => by simp only [σ, outer, if_neg (Nat.not_lt.2 h)]
          have place : ∀ id, id < st'.length → (id < C.st.length ∧ id ∉ C.ids) ∨ ∃ j, j < s.ros.length ∧ σ j = id := by
            intro id hid
            rw [hst'l] at hid
            rcases Nat.lt_or_ge id C.st.length with hlt' | hge
            · by_cases hm : id ∈ C.ids
              · obtain ⟨j, hj⟩ := List.getElem?_of_mem hm
                exact .inr ⟨j, by have := get_lt hj; omega, sat hj⟩
              · exact .inl ⟨hlt', hm⟩
            · exact .inr ⟨C.ids.length + (id - C.st.length), by omega, by rw [snew (Nat.le_add_right _ _)]; omega⟩
          have getN : ∀ j, j < s.ros.length → st'[σ j]? = N[j]? ∧ σ j < st'.length := by
            intro j hj
            by_cases hjl : j < C.ids.length
            · have hg := List.getElem?_eq_getElem hjl
              have hi := hlt _ (List.getElem_mem hjl)
              rw [sat hg]
              refine ⟨?_, by rw [hst'l]; omega⟩
              rw [List.getElem?_eq_getElem (show j < N.length by omega)]
              exact merge_mem cv.nd (by omega) hg (List.getElem?_eq_getElem _)
            · rw [snew (Nat.le_of_not_lt hjl), ← hcl']
              refine ⟨?_, by rw [hst'l]; omega⟩
              show (merge C.ids N C.st)[_]? = _
              rw [merge_new (by omega)]
              congr 1
              omega
          let Hn := (encSt Tz).map (HO.ren σ)
          have hHl : Hn.length = s.ros.length := by simp only [Hn, List.length_map]; exact hez
          have getH : ∀ j, j < s.ros.length → (merge C.ids Hn hst2)[σ j]? = Hn[j]? := by
            intro j hj
            by_cases hjl : j < C.ids.length
            · have hg := List.getElem?_eq_getElem hjl
              have hi := hlt _ (List.getElem_mem hjl)
              rw [sat hg, List.getElem?_eq_getElem (show j < Hn.length by omega)]
              exact merge_mem cv.nd hi hg (List.getElem?_eq_getElem _)
            · rw [snew (Nat.le_of_not_lt hjl), merge_new (by omega)]
              congr 1
              omega
          have keepN : ∀ id, id < C.st.length → id ∉ C.ids → st'[id]? = C.st[id]? := fun id h1 h2 => merge_not h1 h2
          have keepH : ∀ id, id < C.st.length → id ∉ C.ids → (merge C.ids Hn hst2)[id]? = hst2[id]? := fun id h1 h2 => merge_not (by omega) h2
          have old : ∀ {j i : Nat}, C.ids[j]? = some i → ∃ p, C.st[i]? = some p := fun {j i} hj => by
            have := hlt i (List.mem_of_getElem? hj)
            exact ⟨C.st[i]'(by omega), List.getElem?_eq_getElem _⟩
          have hLget : ∀ {j : Nat} {p : TO S}, L[j]? = some p → ∃ o0, (opOs s.ros (opL s.rin (unpk S s.otys o)).2)[j]? = some o0 ∧ p = o0.ren σ β (β j) (γ j) := by
            intro j p hp
            simp only [L, renOs_get, hopn2, Nat.zero_add, Option.map_eq_some_iff] at hp
            obtain ⟨o0, h1, h2⟩ := hp
            exact ⟨o0, h1, h2.symm⟩
          -- what lies at a place
          have cases3 : ∀ j o', j < s.ros.length → N[j]? = some o' →
              (∃ i t l v cc, C.ids[j]? = some i ∧ s.ros[j]? = some .same ∧ C.st[i]? = some o' ∧ o'.isArr = true ∧ Tz[j]? = some (.arr t l true v cc) ∧ v = 0 ∧ hst2[i]? = some (.arr (szT S t) (l.map (encT S t)) true)) ∨
              (∃ o0, Tz[j]? = some o0 ∧ (o0.isArr = true → ∃ t l, o0 = .arr t l true 0 0) ∧ s.ros[j]? ≠ some .same ∧ (o' = .dead ∨ o' = o0.ren σ β (β j) (γ j) ∧ (∀ i, C.ids[j]? = some i → ∃ p, C.st[i]? = some p ∧ (o'.isArr = true → p.isArr = true)))) := by
            intro j o' hj hn
            have htz : ∃ o, Tz[j]? = some o := ⟨Tz[j]'(by omega), List.getElem?_eq_getElem _⟩
            obtain ⟨oz, hoz⟩ := htz
            have hfe := hoz
            rw [hz2] at hfe
            have hfe := fixE_get hfe
            rw [Nat.zero_add] at hfe
            rcases fixS_get (by rw [hLl]) hn with ⟨i, a1, a2, a3⟩ | ⟨i, p, a1, a2, a3, a4⟩ | ⟨a1, a2⟩
            · obtain ⟨p, hp⟩ := old a1
              rcases a3 with a3 | a3
              · obtain ⟨t, l, v, cc, e⟩ := hcl.eo.get a2
                rw [Nat.zero_add] at e
                have e0 : v = 0 := (opOs_ver (o := .arr t l true v cc) (by rw [← hin2]; exact List.mem_of_getElem? e)).1
                rcases hfe with ⟨_, hfe⟩ | ⟨hfe, _⟩
                · rcases hfe with hfe | hfe
                  · rw [e] at hfe
                    cases hfe
                    obtain ⟨id', p', k1, k2, k3⟩ := cv.kd j _ e rfl
                    rw [a1] at k1
                    cases k1
                    rw [a3] at k2
                    cases k2
                    obtain ⟨i', s1, s2⟩ := selS_get cv.sel j (encO (fnIn s x).2 (.arr t l true v cc)) (by simp [encSt, e])
                    rw [a1] at s1
                    cases s1
                    rcases s2 with s2 | s2
                    · cases s2
                    · have hren : (encO (fnIn s x).2 (.arr t l true v cc)).ren (at_ C.ids) = .arr (szT S t) (l.map (encT S t)) true := by
                        show HO.arr (szT S t) (renL (at_ C.ids) (l.map (encT S t))) true = _
                        rw [(cll_of (fun y => encT_cl ok t y) l).1]
                      rw [hren] at s2
                      exact .inl ⟨i, t, l, v, cc, a1, a2, a3, k3, hoz, e0, s2⟩
                  · rw [e] at hfe; cases hfe
                · exact absurd a2 hfe
              · rw [hp] at a3; cases a3
            · rcases hfe with ⟨hfe, _⟩ | ⟨_, hfe⟩
              · exact absurd hfe a2
              · obtain ⟨o0, e1, e2⟩ := hLget a3
                rw [hfe] at e1
                cases e1
                refine .inr ⟨oz, hoz, (opOs_ver (List.mem_of_getElem? hfe)).2, a2, ?_⟩
                rcases kdO_s (o := p) (r := C.st[i]?) with q | ⟨p', q1, q2, q3⟩
                · exact .inl (a4.trans q)
                · refine .inr ⟨by rw [a4, q2, e2], fun i' hi' => ?_⟩
                  rw [a1] at hi'
                  cases hi'
                  exact ⟨p', q1, by rw [a4, q2]; exact q3⟩
            · rcases hfe with ⟨hfe, hfe'⟩ | ⟨hfe0, hfe⟩
              · obtain ⟨t, l, v, cc, e⟩ := hcl.eo.get hfe
                have := get_lt e
                rw [Nat.zero_add, cv.ylen, ← hids] at this
                omega
              · obtain ⟨o0, e1, e2⟩ := hLget a2
                rw [hfe] at e1
                cases e1
                refine .inr ⟨oz, hoz, (opOs_ver (List.mem_of_getElem? hfe)).2, hfe0, .inr ⟨e2, fun i hi => ?_⟩⟩
                have := get_lt hi
                omega
          have hren : RenOk Tz st' σ β := by
            intro j hj
            rw [hTl] at hj
            obtain ⟨g1, g2⟩ := getN j hj
            refine ⟨g2, fun o' ho' ha => ?_⟩
            rw [g1] at ho'
            rcases cases3 j o' hj ho' with ⟨i, t, l, v, cc, a1, a2, a3, a4, a5, a6, a7⟩ | ⟨o0, a1, a2, a3, a4⟩
            · refine ⟨_, a5, rfl, ?_, ?_⟩
              · simp only [β, verT, nth_eq, a1, a3, a2, TO.ver, a6, Nat.zero_add]
              · obtain ⟨lh, e1, e2⟩ := (cv.ro i o' _ a3 a7 (.inr a4)).arr_of a4
                simp only [HO.arr.injEq] at e1
                rw [← e2, ← e1.2.1]
                simp [TO.len]
            · rcases a4 with rfl | ⟨rfl, _⟩
              · cases ha
              · rw [ren_isArr] at ha
                exact ⟨o0, a1, ha, ren_ver _ _ _ _ ha, ren_len _ _ _ _ _⟩
          have hmo : Mo C.st st' := by
            refine ⟨⟨by rw [hst'l]; omega, fun id o' hid ho' ha => ?_⟩, fun id o' hid ho' ha => ?_⟩
            · rcases place id (get_lt ho') with ⟨p1, p2⟩ | ⟨j, hj, rfl⟩
              · rw [keepN id p1 p2] at ho'
                exact ⟨o', ho', .refl ha⟩
              · rw [(getN j hj).1] at ho'
                rcases cases3 j o' hj ho' with ⟨i, t, l, v, cc, a1, a2, a3, a4, a5, a6, a7⟩ | ⟨o0, a1, a2, a3, a4⟩
                · rw [sat a1]
                  exact ⟨o', a3, .refl ha⟩
                · rcases a4 with rfl | ⟨rfl, a4⟩
                  · cases ha
                  · have hjl : j < C.ids.length := by
                      rcases Nat.lt_or_ge j C.ids.length with q | q
                      · exact q
                      · rw [snew q] at hid; omega
                    have hg := List.getElem?_eq_getElem hjl
                    obtain ⟨p, p1, p2⟩ := a4 _ hg
                    rw [sat hg]
                    have ha' := ha
                    rw [ren_isArr] at ha'
                    obtain ⟨t, l, rfl⟩ := a2 ha'
                    have hb : β j = p.ver + 1 := by
                      simp only [β, verT, nth_eq, hg, p1]
                    have hgm : γ j = p.cv + 1 := by simp only [γ, cvT, nth_eq, hg, p1]
                    refine ⟨p, p1, p2 ha, ?_, fun e => ?_, ?_, fun t' l' mu v' c' e1 e2 => ?_⟩
                    · simp only [TO.ren, TO.ver, hb]; omega
                    · simp only [TO.ren, TO.ver, hb] at e; omega
                    · simp only [TO.ren, TO.cv, hgm]; omega
                    · subst e1
                      simp only [TO.ren, TO.cv, hgm] at e2
                      omega
            · rcases place id (get_lt ho') with ⟨p1, p2⟩ | ⟨j, hj, rfl⟩
              · omega
              · rw [(getN j hj).1] at ho'
                rcases cases3 j o' hj ho' with ⟨i, t, l, v, cc, a1, a2, a3, a4, a5, a6, a7⟩ | ⟨o0, a1, a2, a3, a4⟩
                · rw [sat a1] at hid
                  have := get_lt a3
                  omega
                · rcases a4 with rfl | ⟨rfl, a4⟩
                  · cases ha
                  · have ha' := ha
                    rw [ren_isArr] at ha'
                    obtain ⟨t, l, rfl⟩ := a2 ha'
                    have hjl : C.ids.length ≤ j := by
                      rcases Nat.lt_or_ge j C.ids.length with q | q
                      · have hg := List.getElem?_eq_getElem q
                        have := hlt _ (List.getElem_mem q)
                        rw [sat hg] at hid
                        omega
                      · exact q
                    have hgm : γ j = 1 := by simp only [γ, cvT, nth_eq, List.getElem?_eq_none hjl]
                    simp only [TO.ren, TO.cv, hgm]; omega
          have hrs : RSt st' (merge C.ids Hn hst2) := by
            refine ⟨by rw [hst'l, merge_len, hHl, hcl'], fun i o' ho' h1 h2 => ?_⟩
            rcases place i (get_lt h1) with ⟨p1, p2⟩ | ⟨j, hj, rfl⟩
            · rw [keepN i p1 p2] at h1
              rw [keepH i p1 p2] at h2
              exact (cv.ro i o' ho' h1 h2 (.inl p2)).mono hmo
            · rw [(getN j hj).1] at h1
              rw [getH j hj] at h2
              rcases cases3 j o' hj h1 with ⟨i, t, l, v, cc, a1, a2, a3, a4, a5, a6, a7⟩ | ⟨o0, a1, a2, a3, a4⟩
              · simp only [Hn, encSt, List.map_map, List.getElem?_map, a5, Option.map_some, Option.some.injEq, Function.comp] at h2
                have hrn : (encO Tz (.arr t l true v cc)).ren σ = .arr (szT S t) (l.map (encT S t)) true := by
                  show HO.arr (szT S t) (renL σ (l.map (encT S t))) true = _
                  rw [(cll_of (fun y => encT_cl ok t y) l).1]
                rw [hrn] at h2
                subst h2
                exact (cv.ro i o' _ a3 a7 (.inr a4)).mono hmo
              · simp only [Hn, encSt, List.map_map, List.getElem?_map, a1, Option.map_some, Option.some.injEq, Function.comp] at h2
                subst h2
                rcases a4 with rfl | ⟨rfl, _⟩
                · exact .dead
                · obtain ⟨x', x1, x2⟩ := z3.get a1
                  simp only [encSt, List.getElem?_map, a1, Option.map_some, Option.some.injEq] at x1
                  subst x1
                  exact RO.renT ok hren x2 _ _
          have hfr : Fr [] C.ids hst (merge C.ids Hn hst2) := (cv.fr rfl).trans ⟨by rw [merge_len]; omega, fun j o hj hn => ⟨o, by rw [merge_not (get_lt hj) hn]; exact hj, .refl o, fun _ => .refl o⟩⟩
          have hK : K ((encV Tz (one V)).ren σ) (merge C.ids Hn hst2) := hk _ st' _ _ hh (Rv.renT ok hren (one_sound z2)) hrs (cv.mo.trans hmo) hfr
          rw [← hgf]
          refine HC.ghost (fun G w us a b => cv.gh P G w us a b) ?_
          refine HC.frame hclc C.ids cv.sel cv.nd hlt hlive rfl cv.ysc cv.yvc (by rw [hel, hez]; exact hcl.len) z4 ?_ hK
          have tup : ScdL (encSt Tz).length (encVs Tz V) → Scd (encSt Tz).length (encV Tz (one V)) := by
            intro q
            match V, q with
            | [], q => exact q
            | [x], q => exact q.1
            | x :: y :: r, q => exact q
          exact tup z5
        · cases h
end
end X
end HL
end
section
namespace HL
namespace X
open Go
section
variable {S : DSys} {P : Program} {N m : Nat}
/-! ### views -/
def View (P : Program) (N m : Nat) (E : Env) (T : St) (env : Env) (st : St) : Prop :=
  ∀ G a w, Rel P G st w → REnv N G a env → ∃ G', Rel P G' T w ∧ REnv N G' a E ∧ ∀ G0 w0, G0.s.length = m → Step G0 w0 G w → Step G0 w0 G' w
theorem View.refl (E : Env) (T : St) : View P N m E T E T := fun G _ _ h h' => ⟨G, h, h', fun _ _ _ q => q⟩
theorem View.trans {E1 E2 E3 : Env} {T1 T2 T3 : St} (h : View P N m E1 T1 E2 T2) (h' : View P N m E2 T2 E3 T3) : View P N m E1 T1 E3 T3 := fun G a w hr he => by
  obtain ⟨G1, a1, a2, a3⟩ := h' G a w hr he
  obtain ⟨G2, b1, b2, b3⟩ := h G1 a w a1 a2
  exact ⟨G2, b1, b2, fun G0 w0 hm hs => b3 G0 w0 hm (a3 G0 w0 hm hs)⟩
theorem SemF.view {hc : HCode} {E env : Env} {T st : St} {Q : HExit → Env → St → Prop} (hv : View P N m E T env st) (h : SemF P N m hc E T Q) : SemF P N m hc env st Q :=
  fun code hs G0 w0 G w a Q' hm hst hr he hQ => by
    obtain ⟨G', g1, g2, g3⟩ := hv G a w hr he
    exact h code hs G0 w0 G' w a Q' hm (g3 G0 w0 hm hst) g1 g2 hQ
theorem SemL.view {hc : HCode} {E env : Env} {T st : St} {Q : HExit → Env → St → Prop} (hv : View P N m E T env st) (h : SemL P N m hc E T Q) : SemL P N m hc env st Q :=
  fun code hs G0 w0 G w a Q' hm hst hr he hQ => by
    obtain ⟨G', g1, g2, g3⟩ := hv G a w hr he
    exact h code hs G0 w0 G' w a Q' hm (g3 G0 w0 hm hst) g1 g2 hQ
def QC (P : Program) (N m : Nat) (Q : HExit → Env → St → Prop) : Prop := ∀ e E T env st, View P N m E T env st → Q e E T → Q e env st
def Cls (P : Program) (N m : Nat) (Q : HExit → Env → St → Prop) : HExit → Env → St → Prop := fun e env st => ∃ E T, View P N m E T env st ∧ Q e E T
theorem Cls.qc (Q : HExit → Env → St → Prop) : QC P N m (Cls P N m Q) := fun e E T env st hv ⟨E', T', h1, h2⟩ => ⟨E', T', h1.trans hv, h2⟩
theorem SemF.ofCls {hc : HCode} {env : Env} {st : St} {Q : HExit → Env → St → Prop} (h : SemF P N m hc env st (Cls P N m Q)) : SemF P N m hc env st Q :=
  fun code hs G0 w0 G w a Q' hm hst hr he hQ => h code hs G0 w0 G w a Q' hm hst hr he fun e env' st' G' a' w' ⟨E, T, hv, q⟩ r1 r2 r3 => by
    obtain ⟨G2, g1, g2, g3⟩ := hv G' a' w' r1 r2
    exact hQ e E T G2 a' w' q g1 g2 (g3 G0 w0 hm r3)
theorem QC.seq {b : HCode} {Q : HExit → Env → St → Prop} (h : QC P N m Q) : QC P N m (seqQ P N m b Q) := fun e E T env st hv q => by
  cases e with
  | normal => exact SemF.view hv q
  | exit i => exact h _ _ _ _ _ hv q
  | ret => exact h _ _ _ _ _ hv q
theorem QC.blk {i : Nat} {Q : HExit → Env → St → Prop} (h : QC P N m Q) : QC P N m (blkQ i Q) := fun e E T env st hv q => by
  cases e with
  | normal => exact h _ _ _ _ _ hv q
  | exit j =>
    simp only [blkQ] at q ⊢
    split
    · rename_i e; rw [if_pos e] at q; exact h _ _ _ _ _ hv q
    · rename_i e; rw [if_neg e] at q; exact h _ _ _ _ _ hv q
  | ret => exact h _ _ _ _ _ hv q
theorem QC.loop {c : HCode} {Q : HExit → Env → St → Prop} (h : QC P N m Q) : QC P N m (loopQ P N m c Q) := fun e E T env st hv q => by
  cases e with
  | normal => exact SemL.view hv q
  | exit j => exact h _ _ _ _ _ hv q
  | ret => exact h _ _ _ _ _ hv q
/-! ### what stays known -/
def KeptC (no : List Nat) (a b : Env) : Prop := ∀ n z, n ∉ no → lk a n = some z → Cl z → lk b n = some z
theorem KeptC.refl (no : List Nat) (a : Env) : KeptC no a a := fun _ _ _ h _ => h
theorem KeptC.trans {no : List Nat} {a b d : Env} (h : KeptC no a b) (h' : KeptC no b d) : KeptC no a d := fun n z hn hz hc => h' n z hn (h n z hn hz hc) hc
theorem KeptC.mono {no no' : List Nat} {a b : Env} (h : KeptC no a b) (hs : ∀ n, n ∈ no → n ∈ no') : KeptC no' a b := fun n z hn hz hc => h n z (fun q => hn (hs n q)) hz hc
theorem Kept.c {no : List Nat} {a b : Env} (h : Kept no a b) : KeptC no a b := fun n z hn hz _ => by rw [h n hn]; exact hz
open Classical in
noncomputable def pickE (s : VS) (e z : HV) : HV := if isD s = true ∧ Cl z then z else e
noncomputable def zipE : List (Nat × VS) → List HV → List HV → Env
  | (n, s) :: r, e :: es, z :: zs => (n, pickE s e z) :: zipE r es zs
  | _, _, _ => []
open Classical in
noncomputable def ctxOf (env : Env) : Env := env.filter fun p => decide (lk env p.1 = some p.2 ∧ Cl p.2)
theorem lk_mem : ∀ {E : Env} {n : Nat} {z : HV}, lk E n = some z → (n, z) ∈ E
  | [], n, z, h => by cases h
  | (k, v) :: E, n, z, h => by
    simp only [lk] at h
    split at h
    · rename_i e; cases h; subst e; exact List.mem_cons_self
    · exact List.mem_cons_of_mem _ (lk_mem h)
theorem mem_lk : ∀ {E : Env} {n : Nat} {z : HV}, (n, z) ∈ E → ∃ z', lk E n = some z'
  | [], n, z, h => by cases h
  | (k, v) :: E, n, z, h => by
    simp only [lk]
    by_cases e : k = n
    · exact ⟨v, by rw [if_pos e]⟩
    · rcases List.mem_cons.1 h with h | h
      · cases h; exact absurd rfl e
      · obtain ⟨z', h'⟩ := mem_lk h
        exact ⟨z', by rw [if_neg e]; exact h'⟩
theorem ctx_lk {env : Env} {n : Nat} {z : HV} : lk (ctxOf env) n = some z ↔ lk env n = some z ∧ Cl z := by
  constructor
  · intro h
    have := lk_mem h
    simp only [ctxOf, List.mem_filter, decide_eq_true_eq] at this
    exact this.2
  · rintro ⟨h1, h2⟩
    have hm : (n, z) ∈ ctxOf env := by
      simp only [ctxOf, List.mem_filter, decide_eq_true_eq]
      exact ⟨lk_mem h1, h1, h2⟩
    obtain ⟨z', h3⟩ := mem_lk hm
    have := lk_mem h3
    simp only [ctxOf, List.mem_filter, decide_eq_true_eq] at this
    rw [h1] at this
    cases this.2.1
    exact h3
theorem lk_append {A B : Env} {n : Nat} : lk (A ++ B) n = (lk A n).or (lk B n) := by
  induction A with
  | nil => simp [lk]
  | cons p A ih =>
    obtain ⟨k, v⟩ := p
    simp only [List.cons_append, lk]
    split
    · simp
    · exact ih
theorem tlk_append {A B : TEnv S} {n : Nat} : tlk (A ++ B) n = (tlk A n).or (tlk B n) := by
  induction A with
  | nil => simp [tlk]
  | cons p A ih =>
    obtain ⟨k, v⟩ := p
    rw [List.cons_append, tlk_cons, tlk_cons]
    split
    · simp
    · exact ih
theorem zip_lk : ∀ {vs : List (Nat × VS)} {es zs : List HV} {n : Nat} {x : HV}, lk (zipE vs es zs) n = some x → ∃ (i : Nat) (s : VS) (e z : HV), vs[i]? = some (n, s) ∧ es[i]? = some e ∧ zs[i]? = some z ∧ x = pickE s e z
  | [], es, zs, n, x, h => by simp [zipE, lk] at h
  | (k, s) :: r, [], zs, n, x, h => by simp [zipE, lk] at h
  | (k, s) :: r, e :: es, [], n, x, h => by simp [zipE, lk] at h
  | (k, s) :: r, e :: es, z :: zs, n, x, h => by
    simp only [zipE, lk] at h
    split at h
    · rename_i q; cases h; subst q; exact ⟨0, s, e, z, rfl, rfl, rfl, rfl⟩
    · obtain ⟨i, s', e', z', a, b, c, d⟩ := zip_lk h
      exact ⟨i + 1, s', e', z', by simpa using a, by simpa using b, by simpa using c, d⟩
theorem zip_re {T : TSt S} : ∀ {vs : List (Nat × VS)} {V : List (TV S)} {es zs : List HV}, V.length = vs.length → es.length = vs.length → zs.length = vs.length →
    (∀ (i n : Nat) (s : VS) (v : TV S) (e z : HV), vs[i]? = some (n, s) → V[i]? = some v → es[i]? = some e → zs[i]? = some z → Rv T v (pickE s e z)) → RE T (numV vs V) (zipE vs es zs)
  | [], V, es, zs, _, _, _, _ => fun n v h => by cases V <;> simp [numV, tlk] at h
  | (k, s) :: r, [], es, zs, h, _, _, _ => by simp at h
  | (k, s) :: r, v :: V, [], zs, _, h, _, _ => by simp at h
  | (k, s) :: r, v :: V, e :: es, [], _, _, h, _ => by simp at h
  | (k, s) :: r, v :: V, e :: es, z :: zs, h1, h2, h3, h => by
    intro n w hw
    simp only [numV] at hw
    rw [tlk_cons] at hw
    simp only [zipE, lk]
    by_cases q : k = n
    · rw [if_pos q] at hw ⊢
      cases hw
      exact ⟨_, rfl, h 0 k s v e z rfl rfl rfl rfl⟩
    · rw [if_neg q] at hw ⊢
      exact zip_re (by simpa using h1) (by simpa using h2) (by simpa using h3) (fun i n s v e z a b c d => h (i + 1) n s v e z (by simpa using a) (by simpa using b) (by simpa using c) (by simpa using d)) n w hw
theorem zip_kept : ∀ {vs : List (Nat × VS)} {es zs : List HV} {n : Nat} {z : HV}, es.length = vs.length → zs.length = vs.length → n ∉ noV vs → (∀ (i : Nat) (s : VS), vs[i]? = some (n, s) → zs[i]? = some z) → Cl z →
    lk (zipE vs es zs) n = some z ∨ lk (zipE vs es zs) n = none
  | [], es, zs, n, z, _, _, _, _, _ => .inr (by simp [zipE, lk])
  | (k, s) :: r, [], zs, n, z, h, _, _, _, _ => by simp at h
  | (k, s) :: r, e :: es, [], n, z, _, h, _, _, _ => by simp at h
  | (k, s) :: r, e :: es, y :: zs, n, z, h1, h2, hn, hz, hc => by
    simp only [zipE, lk]
    by_cases q : k = n
    · subst q
      have hs : isD s = true := by
        cases hd : isD s with
        | true => rfl
        | false => simp [noV, hd] at hn
      have := hz 0 s rfl
      simp only [List.getElem?_cons_zero, Option.some.injEq] at this
      subst this
      rw [if_pos rfl]
      exact .inl (by rw [pickE, if_pos ⟨hs, hc⟩])
    · rw [if_neg q]
      refine zip_kept (by simpa using h1) (by simpa using h2) (fun hm => hn ?_) (fun i s hi => by simpa using hz (i + 1) s (by simpa using hi)) hc
      simp only [noV]
      cases isD s with
      | true => exact hm
      | false => exact List.mem_cons_of_mem _ hm
theorem vals_of {G : Gh} {a : Act} {env : Env} (he : REnv N G a env) : ∀ {vs : List (Nat × VS)} {xs : List HV}, xs.length = vs.length → (∀ (i n : Nat) (s : VS), vs[i]? = some (n, s) → ∃ z, xs[i]? = some z ∧ lk env n = some z) →
    ∃ us : List Value, R G (.vals us xs) ∧ ∀ (i n : Nat) (s : VS), vs[i]? = some (n, s) → ∃ u, us[i]? = some u ∧ a.tmps[n]? = some u
  | [], xs, hl, _ => by
    have : xs = [] := by cases xs <;> simp_all
    subst this
    exact ⟨[], .vnil, fun i n s h => by simp at h⟩
  | (n, s) :: r, [], hl, _ => by simp at hl
  | (n, s) :: r, x :: xs, hl, h => by
    obtain ⟨us, h1, h2⟩ := vals_of he (vs := r) (xs := xs) (by simpa using hl) fun i n s hi => by simpa using h (i + 1) n s (by simpa using hi)
    obtain ⟨z, e1, e2⟩ := h 0 n s rfl
    simp only [List.getElem?_cons_zero, Option.some.injEq] at e1
    subst e1
    obtain ⟨u, u1, u2⟩ := he.get n x e2
    refine ⟨u :: us, .vcons u2 h1, fun i n' s' hi => ?_⟩
    cases i with
    | zero => simp only [List.getElem?_cons_zero, Option.some.injEq, Prod.mk.injEq] at hi; obtain ⟨rfl, rfl⟩ := hi; exact ⟨u, rfl, u1⟩
    | succ i => obtain ⟨u', q1, q2⟩ := h2 i n' s' (by simpa using hi); exact ⟨u', by simpa using q1, q2⟩
theorem vsOf_get : ∀ {vs : List (Nat × VS)} {i n : Nat} {s : VS}, vs[i]? = some (n, s) → (vsOf vs)[i]? = some s
  | [], i, n, s, h => by simp at h
  | (k, v) :: r, 0, n, s, h => by simp at h; obtain ⟨rfl, rfl⟩ := h; rfl
  | (k, v) :: r, i + 1, n, s, h => by simpa [vsOf] using vsOf_get (vs := r) (by simpa using h)
theorem vsOf_len : ∀ {vs : List (Nat × VS)}, (vsOf vs).length = vs.length
  | [] => rfl
  | (k, v) :: r => by simp [vsOf, vsOf_len]
theorem opL_len : ∀ {vs : List VS} {ls : List (Lf S)}, (opL vs ls).1.length = vs.length
  | [], ls => rfl
  | v :: r, ls => by simp [opL, opL_len]
theorem encVs_map (T : TSt S) : ∀ l : List (TV S), encVs T l = l.map (encV T)
  | [] => rfl
  | v :: r => by simp [encVs, encVs_map T r]
theorem form_view {vs : List (Nat × VS)} {os : List OS} {st : TSt S} {henv : Env} {xs : List HV} {hst : St} {c : Conv S} {ent : TSt S} {hst2 : St}
    (cv : Cv m ent (vsOf vs) os st xs hst c (opE (vsOf vs) os ent c.ls) hst2) (hl : xs.length = vs.length) (hx : ∀ (i n : Nat) (s : VS), vs[i]? = some (n, s) → ∃ z, xs[i]? = some z ∧ lk henv n = some z) :
    ∃ E1, RE (opE (vsOf vs) os ent c.ls).2 (numV vs (opE (vsOf vs) os ent c.ls).1) E1 ∧ KeptC (noV vs) henv E1 ∧ View P N m E1 (encSt (opE (vsOf vs) os ent c.ls).2) henv hst := by
  have hVl : (opE (vsOf vs) os ent c.ls).1.length = vs.length := by
    show (opL (vsOf vs) c.ls).1.length = _
    rw [opL_len, vsOf_len]
  generalize hy : opE (vsOf vs) os ent c.ls = y at *
  have hel : (encVs y.2 y.1).length = vs.length := by rw [encVs_map, List.length_map, hVl]
  refine ⟨zipE vs (encVs y.2 y.1) xs ++ ctxOf henv, fun n v hv => ?_, fun n z hn hz hc => ?_, fun G a w hr he => ?_⟩
  · have hre : RE y.2 (numV vs y.1) (zipE vs (encVs y.2 y.1) xs) := zip_re hVl hel hl fun i n s v e z a1 a2 a3 a4 => by
      simp only [pickE]
      split
      · rename_i q
        obtain ⟨V, b1, b2⟩ := cv.dk i s z (vsOf_get a1) a4 q.1 q.2
        rw [a2] at b1
        cases b1
        exact b2 _
      · exact cv.yv.2 i v e a2 a3
    obtain ⟨h, h1, h2⟩ := hre n v hv
    exact ⟨h, by rw [lk_append, h1]; rfl, h2⟩
  · rw [lk_append]
    rcases zip_kept (z := z) hel hl hn (fun i s hi => by
      obtain ⟨z', q1, q2⟩ := hx i n s hi
      rw [hz] at q2
      cases q2
      exact q1) hc with q | q
    · rw [q]; rfl
    · rw [q]
      simp only [Option.none_or]
      exact ctx_lk.2 ⟨hz, hc⟩
  · obtain ⟨us, u1, u2⟩ := vals_of he hl hx
    obtain ⟨G1, g1, g2, g3⟩ := cv.gh P G w us hr u1
    have hsc := cv.ysc
    refine ⟨selG G1 c.ids, g1.sel cv.sel cv.nd hsc, ⟨he.size, he.defers, fun n x hn => ?_⟩, fun G0 w0 hm hs => (hs.trans g3).sel hm ?_⟩
    · have closed : ∀ {u : Value} {z : HV}, Cl z → R G (.val u z) → R (selG G1 c.ids) (.val u z) := fun {u z} hc hR =>
        unrenS cv.sel (j := .val u z) (by rw [J.ren, hc.1]; exact hR.mono g3) (hc.2 _)
      rw [lk_append] at hn
      cases hq : lk (zipE vs (encVs y.2 y.1) xs) n with
      | none =>
        rw [hq] at hn
        simp only [Option.none_or] at hn
        obtain ⟨a1, a2⟩ := ctx_lk.1 hn
        obtain ⟨v, b1, b2⟩ := he.get n x a1
        exact ⟨v, b1, closed a2 b2⟩
      | some x' =>
        rw [hq] at hn
        cases hn
        obtain ⟨i, s, e, z, a1, a2, a3, rfl⟩ := zip_lk hq
        obtain ⟨u, b1, b2⟩ := u2 i n s a1
        refine ⟨u, b2, ?_⟩
        simp only [pickE]
        split
        · rename_i q
          obtain ⟨u', d1, d2⟩ := u1.vals_get i z a3
          rw [b1] at d1
          cases d1
          exact closed q.2 d2
        · have hall : R (selG G1 c.ids) (.vals us (encVs y.2 y.1)) := unrenS cv.sel (j := .vals us (encVs y.2 y.1)) g2 cv.yvc
          obtain ⟨u', d1, d2⟩ := hall.vals_get i e a2
          rw [b1] at d1
          cases d1
          exact d2
    · obtain ⟨t, ht⟩ := cv.pre
      rw [← ht, List.take_left' (by simp)]
end
end X
end HL
end
section
namespace HL
namespace X
open Go
section
variable {S : DSys} {P : Program} {N m : Nat}
/-! ### objects that are as they were at first -/
def Zo (e st : TSt S) : Prop := ∀ (j : Nat) (o : TO S), st[j]? = some o → o.isArr = true → o.cv = 0 → ∃ t l v v' mu0 mu, e[j]? = some (.arr t l mu0 v 0) ∧ o = .arr t l mu v' 0
theorem Zo.mo {e st st' : TSt S} (h : Zo e st) (hm : Mo st st') : Zo e st' := fun j o' ho ha hc => by
  rcases Nat.lt_or_ge j st.length with hl | hl
  · obtain ⟨o, h1, h2⟩ := hm.1.2 j o' hl ho ha
    have hcv := h2.cv
    obtain ⟨t, l, v, v', mu0, mu, a1, rfl⟩ := h j o h1 h2.arr (by omega)
    obtain ⟨mu', v2, rfl⟩ := h2.same t l mu v' 0 rfl hc
    exact ⟨t, l, v, v2, mu0, mu', a1, rfl⟩
  · have := hm.2 j o' hl ho ha
    omega
theorem sameO_s {a b : Option (TO S)} (h : sameO a b = true) : ∃ t l v c t' l' v' c', a = some (.arr t l true v c) ∧ b = some (.arr t' l' true v' c') ∧ c = 0 ∧ c' = 0 := by
  unfold sameO at h
  split at h
  · rename_i t l v c t' l' v' c'
    simp only [Bool.and_eq_true] at h
    exact ⟨_, _, _, _, _, _, _, _, rfl, rfl, beq_t h.1, beq_t h.2⟩
  · cases h
theorem Zo.same {e e' st : TSt S} (h : Zo e st) (he : ∀ (j : Nat) (t : Tc) (l : List (T S.ty t)) (m : Bool) (v c : Nat), e'[j]? = some (.arr t l m v c) → ∃ v', e[j]? = some (.arr t l m v' 0) ∨ ∃ c', e[j]? = some (.arr t l m v' c')) : SameOk e' st := by
  intro j hj
  rw [nth_eq, nth_eq] at hj
  obtain ⟨t, l, v, c, t', l', v', c', h1, h2, rfl, rfl⟩ := sameO_s hj
  obtain ⟨t0, l0, v0, v0', mu0, mu, a1, a2⟩ := h j _ h2 rfl rfl
  cases a2
  have : ∃ v' c', e[j]? = some (.arr t l true v' c') := by
    obtain ⟨v', q | ⟨c', q⟩⟩ := he j t l true v 0 h1
    · exact ⟨v', 0, q⟩
    · exact ⟨v', c', q⟩
  obtain ⟨v2, c2, e2⟩ := this
  rw [a1] at e2
  cases e2
  exact ⟨t, l, v, v', h1, h2⟩
theorem zeroS_get : ∀ {st : TSt S} {j : Nat}, (zeroS st)[j]? = (st[j]?).map TO.cv0
  | [], j => by simp [zeroS]
  | o :: r, 0 => rfl
  | o :: r, j + 1 => by simpa [zeroS] using zeroS_get (st := r)
theorem ent0_get : ∀ {st : TSt S} {j : Nat}, (ent0 st)[j]? = (st[j]?).map TO.z0
  | [], j => by simp [ent0]
  | o :: r, 0 => rfl
  | o :: r, j + 1 => by simpa [ent0] using ent0_get (st := r)
theorem zeroS_len {st : TSt S} : (zeroS st).length = st.length := by
  induction st with
  | nil => rfl
  | cons o r ih => simp [zeroS, ih]
theorem zeroS_Z (st : TSt S) : Zo (zeroS st) (zeroS st) := fun j o ho ha hc => by
  rw [zeroS_get, Option.map_eq_some_iff] at ho
  obtain ⟨o', h1, rfl⟩ := ho
  cases o' with
  | arr t l mu v c => exact ⟨t, l, v, v, mu, mu, by rw [zeroS_get, h1]; rfl, rfl⟩
  | box => cases ha
  | dead => cases ha
  | arrV => simp [TO.cv0, TO.cv] at hc
  | arrZ => simp [TO.cv0, TO.cv] at hc
theorem RO.cv0 {st : TSt S} {o : TO S} {ho : HO} (h : RO st o ho) : RO st o.cv0 ho := by
  cases h with
  | box a b => exact .box a b
  | arr a => exact .arr a
  | arrV a b => exact .arrV a b
  | arrZ a b c => exact .arrZ a b c
  | dead => exact .dead
def Tw (a b : TSt S) : Prop := a.length = b.length ∧ ∀ (j : Nat) (o' : TO S), b[j]? = some o' → o'.isArr = true → ∃ o, a[j]? = some o ∧ o.isArr = true ∧ o.ver = o'.ver ∧ o.len = o'.len
theorem Tw.own {a b : TSt S} (h : Tw a b) {id ver n : Nat} (hn : OwnR a id ver n) : OwnR b id ver n := ⟨h.1 ▸ hn.1, fun o' h1 h2 => by
  obtain ⟨o, a1, a2, a3, a4⟩ := h.2 id o' h1 h2
  rw [← a3, ← a4]
  exact hn.2 o a1 a2⟩
theorem Tw.rv {a b : TSt S} (h : Tw a b) {v : TV S} {x : HV} (hr : Rv a v x) : Rv b v x := by
  induction hr with
  | d e => exact .d e
  | nilp => exact .nilp
  | nils => exact .nils
  | nilf => exact .nilf
  | und => exact .und
  | bp => exact .bp
  | ap hn hi =>
    refine .ap (h.own hn) fun o' h1 h2 h3 => ?_
    obtain ⟨o, a1, a2, a3, _⟩ := h.2 _ o' h1 h2
    exact hi o a1 a2 (by omega)
  | own hn => exact .own (h.own hn)
  | otl hn => exact .otl (h.own hn)
  | eptr a b => exact .eptr a b
  | slV hl _ ih => exact .slV hl ih
  | agg hl _ ih => exact .agg hl ih
  | tup hl _ ih => exact .tup hl ih
  | fn hl _ hl' _ ih ih' => exact .fn hl ih hl' ih'
theorem Tw.ro {a b : TSt S} (h : Tw a b) {o : TO S} {x : HO} (hr : RO a o x) : RO b o x := by
  cases hr with
  | box a b => exact .box (h.rv a) b
  | arr a => exact .arr a
  | arrV a b => exact .arrV ⟨a.1, fun i v x p q => h.rv (a.2 i v x p q)⟩ b
  | arrZ a b c => exact .arrZ (h.rv a) b c
  | dead => exact .dead
theorem zeroS_tw (st : TSt S) : Tw st (zeroS st) := ⟨zeroS_len.symm, fun j o' h1 h2 => by
  rw [zeroS_get, Option.map_eq_some_iff] at h1
  obtain ⟨o, a1, rfl⟩ := h1
  cases o <;> first | exact ⟨_, a1, rfl, rfl, rfl⟩ | cases h2⟩
theorem zeroS_rs {st : TSt S} {hst : St} (h : RSt st hst) : RSt (zeroS st) hst := ⟨by rw [zeroS_len]; exact h.1, fun i o ho h1 h2 => by
  rw [zeroS_get, Option.map_eq_some_iff] at h1
  obtain ⟨o', a1, rfl⟩ := h1
  exact (zeroS_tw st).ro (h.2 i o' ho a1 h2).cv0⟩
theorem zeroS_re {st : TSt S} {env : TEnv S} {henv : Env} (h : RE st env henv) : RE (zeroS st) env henv := fun n v hv => by
  obtain ⟨x, h1, h2⟩ := h n v hv
  exact ⟨x, h1, (zeroS_tw st).rv h2⟩
/-! ### behind exits -/
theorem behind_len : ∀ {os : List OS} {j : Nat} {ids : List Nat} {e l : TSt S}, os.length = l.length → (behind os j ids e l).length = l.length
  | [], j, ids, e, l, h => by cases l <;> simp_all [behind]
  | s :: r, j, ids, e, [], h => by simp at h
  | s :: r, j, ids, e, o :: l, h => by
    have := behind_len (os := r) (j := j + 1) (ids := ids) (e := e) (l := l) (by simpa using h)
    cases s <;> simp [behind, this]
theorem behind_get : ∀ {os : List OS} {k : Nat} {ids : List Nat} {e l : TSt S} {j : Nat} {o : TO S}, (behind os k ids e l)[j]? = some o →
    (os[j]? = some .same ∧ (o = .dead ∨ ∃ i t l' mu v c, ids[k + j]? = some i ∧ e[i]? = some (.arr t l' mu v c) ∧ o = .arr t l' mu 0 (cond (Nat.beq i (k + j)) c 1))) ∨
    (os[j]? ≠ some .same ∧ ∃ p, l[j]? = some p ∧ o = p.cv1)
  | [], k, ids, e, l, j, o, h => by cases l <;> simp [behind] at h
  | s :: r, k, ids, e, [], j, o, h => by cases s <;> simp [behind] at h
  | s :: r, k, ids, e, x :: l, j, o, h => by
    cases j with
    | zero =>
      by_cases hs : s = .same
      · subst hs
        refine .inl ⟨rfl, ?_⟩
        simp only [behind, nth_eq, List.getElem?_cons_zero, Option.some.injEq] at h
        split at h
        · rename_i i hi
          split at h
          · rename_i t l' mu v c he
            exact .inr ⟨i, t, l', mu, v, c, hi, he, h.symm⟩
          · exact .inl h.symm
        · exact .inl h.symm
      · refine .inr ⟨by simp only [List.getElem?_cons_zero, ne_eq, Option.some.injEq]; exact hs, x, rfl, ?_⟩
        cases s <;> first | exact absurd rfl hs | (simp only [behind, List.getElem?_cons_zero, Option.some.injEq] at h; exact h.symm)
    | succ j =>
      have h2 : (behind r (k + 1) ids e l)[j]? = some o := by cases s <;> simpa [behind] using h
      rcases behind_get h2 with ⟨a1, a2⟩ | ⟨a1, a2⟩
      · refine .inl ⟨by simpa using a1, ?_⟩
        rw [show k + (j + 1) = k + 1 + j by omega]
        exact a2
      · exact .inr ⟨by simpa using a1, by simpa using a2⟩
theorem behind_ok {os : List OS} {ids : List Nat} {e ent l : TSt S} (hl : os.length = l.length) (hcv : ∀ o ∈ l, o.isArr = true → o.ver = 0)
    (hs : ∀ (j i : Nat) (t : Tc) (l : List (T S.ty t)) (mu : Bool) (v c : Nat), os[j]? = some .same → ids[j]? = some i → e[i]? = some (.arr t l mu v c) → ∃ c', ent[j]? = some (.arr t l mu 0 c'))
    (hr : RSt (fixE os 0 ent l) (encSt (fixE os 0 ent l))) :
    Tw (fixE os 0 ent l) (behind os 0 ids e l) ∧ RSt (behind os 0 ids e l) (encSt (fixE os 0 ent l)) ∧ ∀ e0, Zo e0 e → Zo e0 (behind os 0 ids e l) := by
  have hlen : (fixE os 0 ent l).length = (behind os 0 ids e l).length := by rw [fixE_len, behind_len hl]
  have at' : ∀ {j : Nat} {o' : TO S}, (behind os 0 ids e l)[j]? = some o' → ∃ o, (fixE os 0 ent l)[j]? = some o ∧ (o' = .dead ∨ o' = o.cv1 ∧ (∀ q, o.isArr = true → o.ver = q → q = 0) ∨ ∃ t l mu v c' c, o' = .arr t l mu 0 c ∧ o = .arr t l mu 0 c' ∧ (c = 0 → e[j]? = some (.arr t l mu v 0))) := by
    intro j o' h
    have hj : j < (fixE os 0 ent l).length := by rw [hlen]; exact get_lt h
    refine ⟨_, List.getElem?_eq_getElem hj, ?_⟩
    have hf := fixE_get (List.getElem?_eq_getElem hj)
    rw [Nat.zero_add] at hf
    rcases behind_get h with ⟨a1, a2⟩ | ⟨a1, p, a2, a3⟩
    · rcases a2 with rfl | ⟨i, t, l', mu, v, c, b1, b2, b3⟩
      · exact .inl rfl
      · rw [Nat.zero_add] at b1 b3
        obtain ⟨c', d1⟩ := hs j i t l' mu v c a1 b1 b2
        rcases hf with ⟨_, hf⟩ | ⟨hf, _⟩
        · rw [d1] at hf
          rcases hf with hf | hf
          · refine .inr (.inr ⟨t, l', mu, v, c', _, b3, (Option.some.inj hf).symm, fun q => ?_⟩)
            cases hb : Nat.beq i j with
            | true =>
              rw [hb] at q
              have := beq_t hb
              subst this
              simp only [cond_true] at q
              subst q
              exact b2
            | false => rw [hb] at q; cases q
          · cases hf
        · exact absurd a1 hf
    · rcases hf with ⟨hf, _⟩ | ⟨_, hf⟩
      · exact absurd hf a1
      · rw [a2] at hf
        have := Option.some.inj hf
        rw [← this]
        exact .inr (.inl ⟨a3, fun q h1 h2 => by rw [← h2]; exact hcv p (List.mem_of_getElem? a2) h1⟩)
  have htw : Tw (fixE os 0 ent l) (behind os 0 ids e l) := ⟨hlen, fun j o' h1 h2 => by
    obtain ⟨o, a1, a2⟩ := at' h1
    refine ⟨o, a1, ?_⟩
    rcases a2 with rfl | ⟨rfl, _⟩ | ⟨t, l, mu, v, c', c, rfl, rfl, _⟩
    · cases h2
    · rw [cv1_arr] at h2
      exact ⟨h2, cv1_ver.symm, cv1_len.symm⟩
    · exact ⟨rfl, rfl, rfl⟩⟩
  refine ⟨htw, ⟨by rw [← hlen]; simp [encSt], fun i o' ho h1 h2 => ?_⟩, fun e0 hz j o' h1 h2 h3 => ?_⟩
  · obtain ⟨o, a1, a2⟩ := at' h1
    have hro := htw.ro (hr.2 i o ho a1 h2)
    rcases a2 with rfl | ⟨rfl, _⟩ | ⟨t, l, mu, v, c', c, rfl, rfl, _⟩
    · exact .dead
    · exact hro.cv1
    · cases hro with
      | arr e => exact .arr e
  · obtain ⟨o, a1, a2⟩ := at' h1
    rcases a2 with rfl | ⟨rfl, _⟩ | ⟨t, l, mu, v, c', c, rfl, rfl, a3⟩
    · cases h2
    · have := cv1_le h2
      omega
    · simp only [TO.cv] at h3
      subst h3
      obtain ⟨t2, l2, w, w', mu0, mu', b1, b2⟩ := hz j _ (a3 rfl) rfl rfl
      cases b2
      exact ⟨_, _, _, _, _, _, b1, rfl⟩
theorem keep_s : ∀ {env : TEnv S} {no : List Nat} {n : Nat} {v : TV S}, tlk (keep no env) n = some v → clK v = true ∧ n ∉ no ∧ tlk env n = some v
  | [], no, n, v, h => by simp [keep, tlk] at h
  | (k, w) :: r, no, n, v, h => by
    have elemN_t : ∀ {l : List Nat}, k ∈ l → elemN k l = true := by
      intro l hl
      induction l with
      | nil => cases hl
      | cons a l ih =>
        simp only [elemN]
        cases hb : Nat.beq a k with
        | true => rfl
        | false =>
          rcases List.mem_cons.1 hl with rfl | hl
          · rw [Nat.beq_refl] at hb; cases hb
          · exact ih hl
    simp only [keep] at h
    cases hc : (clK w && !elemN k no) with
    | true =>
      rw [hc] at h
      simp only [cond_true] at h
      rw [tlk_cons] at h
      rw [tlk_cons]
      by_cases e : k = n
      · rw [if_pos e] at h ⊢
        cases h
        subst e
        simp only [Bool.and_eq_true, Bool.not_eq_true'] at hc
        exact ⟨hc.1, fun q => by rw [elemN_t q] at hc; exact absurd hc.2 (by simp), rfl⟩
      · rw [if_neg e] at h ⊢
        exact keep_s h
    | false =>
      rw [hc] at h
      simp only [cond_false] at h
      obtain ⟨a1, a2, a3⟩ := keep_s h
      simp only [List.mem_cons, not_or] at a2
      refine ⟨a1, a2.2, ?_⟩
      rw [tlk_cons, if_neg fun e => a2.1 e.symm]
      exact a3
theorem Rv.clk {st st' : TSt S} {v : TV S} {z : HV} (h : Rv st v z) (hk : clK v = true) : Rv st' v z := by
  cases h <;> first | exact .d (by assumption) | exact .nilp | exact .nilf | cases hk
theorem Rv.clkc (ok : S.Ok) {st : TSt S} {v : TV S} {z : HV} (h : Rv st v z) (hk : clK v = true) : Cl z := by
  cases h with
  | d e => exact e.cl (encT_cl ok _ _)
  | nilp => exact ⟨fun _ => rfl, fun _ => trivial⟩
  | nilf => exact ⟨fun _ => rfl, fun _ => trivial⟩
  | _ => cases hk
end
end X
end HL
end
section
namespace HL
namespace X
open Go
section
variable {S : DSys}
/-! ### places in code -/
theorem bits_fuel : ∀ {f g p : Nat}, p ≤ f → p ≤ g → bits f p = bits g p
  | 0, g, p, h, h' => by
    have : p = 0 := by omega
    subst this
    cases g <;> rfl
  | f + 1, 0, p, h, h' => by
    have : p = 0 := by omega
    subst this
    rfl
  | f + 1, g + 1, p, h, h' => by
    simp only [bits]
    cases hb : Nat.ble p 1 with
    | true => rfl
    | false =>
      have hp : 1 < p := by
        rcases Nat.lt_or_ge 1 p with q | q
        · exact q
        · rw [Nat.ble_eq_true_of_le q] at hb; cases hb
      simp only [cond_false]
      rw [bits_fuel (f := f) (g := g) (p := p / 2) (by omega) (by omega)]
theorem subAt_0 {c : HCode} {p : Nat} (h : 1 ≤ p) : subAt c (2 * p) = child false (subAt c p) := by
  obtain ⟨q, rfl⟩ : ∃ q, p = q + 1 := ⟨p - 1, by omega⟩
  have e : 2 * (q + 1) = (2 * q + 1) + 1 := by omega
  simp only [subAt]
  rw [e, bits]
  have h1 : Nat.ble (2 * q + 1 + 1) 1 = false := by
    cases hb : Nat.ble (2 * q + 1 + 1) 1 with
    | true => have := ble_t hb; omega
    | false => rfl
  have h2 : Nat.beq ((2 * q + 1 + 1) % 2) 1 = false := beq_f (by omega)
  have h3 : (2 * q + 1 + 1) / 2 = q + 1 := by omega
  rw [h1, h2, h3]
  simp only [cond_false, subR]
  rw [bits_fuel (f := 2 * q + 1) (g := q + 1) (by omega) (by omega)]
theorem subAt_1 {c : HCode} {p : Nat} (h : 1 ≤ p) : subAt c (2 * p + 1) = child true (subAt c p) := by
  obtain ⟨q, rfl⟩ : ∃ q, p = q + 1 := ⟨p - 1, by omega⟩
  have e : 2 * (q + 1) + 1 = (2 * q + 2) + 1 := by omega
  simp only [subAt]
  rw [e, bits]
  have h1 : Nat.ble (2 * q + 2 + 1) 1 = false := by
    cases hb : Nat.ble (2 * q + 2 + 1) 1 with
    | true => have := ble_t hb; omega
    | false => rfl
  have h2 : Nat.beq ((2 * q + 2 + 1) % 2) 1 = true := by
    have : (2 * q + 2 + 1) % 2 = 1 := by omega
    rw [this]
    rfl
  have h3 : (2 * q + 2 + 1) / 2 = q + 1 := by omega
  rw [h1, h2, h3]
  simp only [cond_false, subR]
  rw [bits_fuel (f := 2 * q + 2) (g := q + 1) (by omega) (by omega)]
/-! ### ways out -/
def ofO : (X : List XS) → Ot S.ty X → Option (Σ x : XS, Pk S.ty x.tys)
  | [], _ => none
  | [x], o => some ⟨x, o⟩
  | x :: y :: r, o => Sum.elim (fun a => some ⟨x, a⟩) (fun b => ofO (y :: r) b) o
theorem ofX_s {c : (i : Q S) → i.In → Option i.Out} {O : Type} {r : O} {ids : List Nat} {e : TSt S} : ∀ {X : List XS} {o : Ot S.ty X} {k : HExit → List (Nat × VS) → TEnv S → TSt S → Tree S O}, interp c (ofX ids e X o k) = some r →
    ∃ x p, ofO X o = some ⟨x, p⟩ ∧ x ∈ X ∧ interp c (k x.e x.vs (unX ids e x p).1 (unX ids e x p).2) = some r
  | [], o, k, h => by cases h
  | [x], o, k, h => ⟨x, o, rfl, by simp, h⟩
  | x :: y :: X, o, k, h => by
    cases o with
    | inl a => exact ⟨x, a, rfl, by simp, h⟩
    | inr b =>
      obtain ⟨x', p, h1, h2, h3⟩ := ofX_s (X := y :: X) (o := b) (k := k) h
      exact ⟨x', p, h1, List.mem_cons_of_mem _ h2, h3⟩
theorem exEq_t {a b : HExit} (h : exEq a b = true) : a = b := by
  cases a <;> cases b <;> first | rfl | cases h | skip
  rename_i i j
  rw [beq_t h]
theorem toX_s {m : Nat} {ent : TSt S} {e : HExit} {env : TEnv S} {st : TSt S} : ∀ {X : List XS} {o : Ot S.ty X}, toX m ent X e env st = some o → ∃ x p, ofO X o = some ⟨x, p⟩ ∧ x ∈ X ∧ e = x.e ∧ packX m ent x env st = some p
  | [], o, h => by cases h
  | [x], o, h => by
    simp only [toX] at h
    cases he : exEq x.e e with
    | true => rw [he] at h; exact ⟨x, o, rfl, by simp, (exEq_t he).symm, h⟩
    | false => rw [he] at h; cases h
  | x :: y :: X, o, h => by
    simp only [toX] at h
    cases he : exEq x.e e with
    | true =>
      rw [he] at h
      simp only [cond_true] at h
      split at h
      · rename_i a ha
        cases h
        exact ⟨x, a, rfl, by simp, (exEq_t he).symm, ha⟩
      · cases h
    | false =>
      rw [he] at h
      simp only [cond_false] at h
      split at h
      · rename_i b hb
        cases h
        obtain ⟨x', p, h1, h2, h3, h4⟩ := toX_s hb
        exact ⟨x', p, h1, List.mem_cons_of_mem _ h2, h3, h4⟩
      · cases h
theorem lkAll_s {st : TSt S} {env : TEnv S} {henv : Env} (he : RE st env henv) : ∀ {vs : List (Nat × VS)} {vals : List (TV S)}, lkAll env vs = some vals →
    ∃ xs, RvL st vals xs ∧ xs.length = vs.length ∧ ∀ (i n : Nat) (s : VS), vs[i]? = some (n, s) → ∃ z, xs[i]? = some z ∧ lk henv n = some z
  | [], vals, h => by cases h; exact ⟨[], .nil, rfl, fun i n s h => by simp at h⟩
  | (n, s) :: r, vals, h => by
    simp only [lkAll] at h
    split at h
    · rename_i v vs h1 h2
      cases h
      obtain ⟨x, x1, x2⟩ := he n v h1
      obtain ⟨xs, a1, a2, a3⟩ := lkAll_s he h2
      refine ⟨x :: xs, .cons x2 a1, by simp [a2], fun i n' s' hi => ?_⟩
      cases i with
      | zero => simp only [List.getElem?_cons_zero, Option.some.injEq, Prod.mk.injEq] at hi; obtain ⟨rfl, rfl⟩ := hi; exact ⟨x, rfl, x1⟩
      | succ i => obtain ⟨z, q1, q2⟩ := a3 i n' s' (by simpa using hi); exact ⟨z, by simpa using q1, q2⟩
    · cases h
def ExitOk (P : Program) (N m : Nat) (no : List Nat) (E0 : Env) (ent : TSt S) (x : XS) (p : Pk S.ty x.tys) (env : Env) (st : St) : Prop :=
  let z := opE (vsOf x.vs) x.os ent (unpk S x.tys p)
  ∃ E1, RE z.2 (numV x.vs z.1) E1 ∧ RSt z.2 (encSt z.2) ∧ KeptC no E0 E1 ∧ View P N m E1 (encSt z.2) env st ∧ EntOk ent x.os 0
variable {P : Program} {N m : Nat} (ok : S.Ok)
include ok
theorem packX_sound {ent : TSt S} {x : XS} {p : Pk S.ty x.tys} {env : TEnv S} {henv E0 : Env} {st : TSt S} {hst : St} {no : List Nat} (h : packX m ent x env st = some p) (he : RE st env henv) (hs : RSt st hst)
    (hS : ∀ st', Mo st st' → SameOk ent st') (hk : KeptC no E0 henv) (hn : ∀ n, n ∈ noV x.vs → n ∈ no) : ExitOk P N m no E0 ent x p henv hst := by
  simp only [packX] at h
  split at h
  · rename_i vals h1
    split at h
    · rename_i c h2
      obtain ⟨xs, a1, a2, a3⟩ := lkAll_s he h1
      obtain ⟨hst2, cv⟩ := conv_sound ok h2 a1 hs (fun e q => by cases q; exact hS)
      have hu := pack_unpk h
      simp only [Option.getD_some] at cv
      obtain ⟨E1, b1, b2, b3⟩ := form_view (P := P) (N := N) (henv := henv) cv a2 a3
      have ys := cv.ys
      have eo := cv.eo
      rw [← hu] at b1 b3 ys
      exact ⟨E1, b1, ys, hk.trans (b2.mono hn), b3, eo⟩
    · cases h
  · cases h
omit ok in
theorem roOnly_get : ∀ {os : List OS} {T : TSt S} {j : Nat} {o : TO S}, (roOnly os T)[j]? = some o → o.isArr = true → T[j]? = some o ∧ ∃ t, os[j]? = some (.ro t)
  | [], T, j, o, h, _ => by cases T <;> simp [roOnly] at h
  | s :: r, [], j, o, h, _ => by cases s <;> simp [roOnly] at h
  | s :: r, x :: T, j, o, h, ha => by
    cases j with
    | zero =>
      cases s <;> simp only [roOnly, List.getElem?_cons_zero, Option.some.injEq] at h <;> subst h <;> first | cases ha | exact ⟨rfl, _, rfl⟩
    | succ j =>
      have : (roOnly r T)[j]? = some o := by cases s <;> simpa [roOnly] using h
      obtain ⟨a1, t, a2⟩ := roOnly_get this ha
      exact ⟨by simpa using a1, t, by simpa using a2⟩
def lpIn (L : LS) (x : Pk S.ty L.tys) : List (TV S) × TSt S := opn (vsOf L.vs) L.os (unpk S L.tys x)
def LQ (P : Program) (N m : Nat) (no : List Nat) (E0 : Env) (L : LS) (x : Pk S.ty L.tys) (o : Ot S.ty L.outs) : HExit → Env → St → Prop := fun e env st =>
  ∃ X p, ofO L.outs o = some ⟨X, p⟩ ∧ X ∈ L.outs ∧ e = X.e ∧ ExitOk P N m (noV X.vs ++ no) E0 (roOnly L.os (lpIn L x).2) X p env st
def ClaimL (P : Program) (s : FS S) (L : LS) (x : Pk S.ty L.tys) (o : Ot S.ty L.outs) : Prop :=
  ∀ hf cb, stripF P s.fid = some hf → subAt hf.body L.p = .loop cb → noSame L.os = true → 1 ≤ L.p → RSt (lpIn L x).2 (encSt (lpIn L x).2) → ∀ E0, RE (lpIn L x).2 (numV L.vs (lpIn L x).1) E0 →
    SemL P hf.ntmps s.aos.length cb E0 (encSt (lpIn L x).2) (LQ P hf.ntmps s.aos.length (noV L.vs ++ asgJ s.loops s.joins cb (2 * L.p)) E0 L x o)
omit ok
theorem LQ.qc {no : List Nat} {E0 : Env} {L : LS} {x : Pk S.ty L.tys} {o : Ot S.ty L.outs} : QC P N m (LQ P N m no E0 L x o) := fun e E T env st hv ⟨X, p, h1, h2, h3, E1, g1, g2, g3, g4, g5⟩ => ⟨X, p, h1, h2, h3, E1, g1, g2, g3, g4.trans hv, g5⟩
theorem SemL.mono {hc : HCode} {env : Env} {st : St} {Q Q' : HExit → Env → St → Prop} (h : SemL P N m hc env st Q) (hq : ∀ e env st, e ≠ .normal → Q e env st → Q' e env st) : SemL P N m hc env st Q' :=
  fun code hs G0 w0 G w a Q2 hm hst hr he hQ => h code hs G0 w0 G w a Q2 hm hst hr he fun e env' st' G' a' w' hn q r1 r2 r3 => hQ e env' st' G' a' w' hn (hq e env' st' hn q) r1 r2 r3
theorem noX_mem {x : XS} : ∀ {X : List XS}, x ∈ X → ∀ n, n ∈ noV x.vs → n ∈ noX X
  | [], h => by cases h
  | y :: r, h => fun n hn => by
    simp only [noX, List.mem_append]
    rcases List.mem_cons.1 h with rfl | h
    · exact .inl hn
    · exact .inr (noX_mem h n hn)
theorem fixE_noSame : ∀ {os : List OS} {j : Nat} {ent l : TSt S}, noSame os = true → fixE os j ent l = l
  | [], _, _, l, _ => by simp [fixE]
  | .same :: r, _, _, _, h => by cases h
  | .dead :: r, j, ent, [], h => rfl
  | .box v :: r, j, ent, [], h => rfl
  | .arr t :: r, j, ent, [], h => rfl
  | .ro t :: r, j, ent, [], h => rfl
  | .dead :: r, j, ent, x :: l, h => by simp only [fixE]; rw [fixE_noSame (os := r) h]
  | .box v :: r, j, ent, x :: l, h => by simp only [fixE]; rw [fixE_noSame (os := r) h]
  | .arr t :: r, j, ent, x :: l, h => by simp only [fixE]; rw [fixE_noSame (os := r) h]
  | .ro t :: r, j, ent, x :: l, h => by simp only [fixE]; rw [fixE_noSame (os := r) h]
theorem findL_s {p : Nat} {L : LS} : ∀ {l : List LS}, findL p l = some L → L.p = p
  | [], h => by cases h
  | M :: r, h => by
    simp only [findL] at h
    cases hb : Nat.beq M.p p with
    | true => rw [hb] at h; cases h; exact beq_t hb
    | false => rw [hb] at h; exact findL_s h
include ok
theorem packL_sound {ent : Option (TSt S)} {L : LS} {env : TEnv S} {henv : Env} {st : TSt S} {hst : St} {C : Conv S} {x : Pk S.ty L.tys} (h : packL m ent L env st = some (C, x)) (he : RE st env henv) (hs : RSt st hst)
    (hS : ∀ e, ent = some e → ∀ st', Mo st st' → SameOk e st') : noSame L.os = true ∧ Mo st C.st ∧ RSt (lpIn L x).2 (encSt (lpIn L x).2) ∧
      (∃ E0, RE (lpIn L x).2 (numV L.vs (lpIn L x).1) E0 ∧ KeptC (noV L.vs) henv E0 ∧ View P N m E0 (encSt (lpIn L x).2) henv hst) ∧
      ∀ (j : Nat) (t : Tc), L.os[j]? = some (.ro t) → ∃ i l v cc, C.ids[j]? = some i ∧ C.st[i]? = some (.arr t l true v cc) ∧ (lpIn L x).2[j]? = some (.arr t l true 0 0) ∧ ∀ e, ent = some e → i = j ∧ sameO (nth e j) (nth C.st j) = true := by
  simp only [packL] at h
  cases hn : noSame L.os with
  | false => rw [hn] at h; cases h
  | true =>
    rw [hn] at h
    simp only [cond_true] at h
    split at h
    · rename_i vals h1
      split at h
      · rename_i c h2
        split at h
        · rename_i y hy
          cases h
          obtain ⟨xs, a1, a2, a3⟩ := lkAll_s he h1
          obtain ⟨hst2, cv⟩ := conv_sound ok h2 a1 hs hS
          have hu := pack_unpk hy
          obtain ⟨E0, b1, b2, b3⟩ := form_view (P := P) (N := N) (henv := henv) cv a2 a3
          have hin : opE (vsOf L.vs) L.os (ent.getD []) C.ls = lpIn L x := by
            simp only [opE, lpIn, opn, hu, fixE_noSame hn]
          have hys := cv.ys
          rw [hin] at b1 b3 hys
          refine ⟨rfl, cv.mo, hys, ⟨E0, b1, b2, b3⟩, fun j t hj => ?_⟩
          have := conv_ro h2 j t hj
          have hin2 : (opn (vsOf L.vs) L.os C.ls).2 = (lpIn L x).2 := by simp only [lpIn, hu]
          rw [hin2] at this
          exact this
        · cases h
      · cases h
    · cases h
end
end X
end HL
end
section
namespace HL
namespace X
open Go
section
variable {S : DSys} {P : Program} (ok : S.Ok)
include ok in
theorem exit_re {x : XS} {p : Pk S.ty x.tys} {ids : List Nat} {e ent st : TSt S} {env : TEnv S} {henv E0 E1 : Env} {no : List Nat}
    (he : RE st env henv) (hk0 : KeptC no henv E0) (hk : KeptC no E0 E1)
    (h1 : RE (opE (vsOf x.vs) x.os ent (unpk S x.tys p)).2 (numV x.vs (opE (vsOf x.vs) x.os ent (unpk S x.tys p)).1) E1) (h2 : RSt (opE (vsOf x.vs) x.os ent (unpk S x.tys p)).2 (encSt (opE (vsOf x.vs) x.os ent (unpk S x.tys p)).2))
    (hs : ∀ (j i : Nat) (t : Tc) (l : List (T S.ty t)) (mu : Bool) (v c : Nat), x.os[j]? = some .same → ids[j]? = some i → e[i]? = some (.arr t l mu v c) → ∃ c', ent[j]? = some (.arr t l mu 0 c')) {no' : List Nat} :
    KeptC no henv E1 ∧ RSt (unX ids e x p).2 (encSt (opE (vsOf x.vs) x.os ent (unpk S x.tys p)).2) ∧ (∀ e0, Zo e0 e → Zo e0 (unX ids e x p).2) ∧
      ((∀ n, n ∉ namesV x.vs ++ no' → n ∉ no) → RE (unX ids e x p).2 ((unX ids e x p).1 ++ keep (namesV x.vs ++ no') env) E1) := by
  have hkk := hk0.trans hk
  have hb := behind_ok (os := x.os) (ids := ids) (e := e) (ent := ent) (l := (opn (vsOf x.vs) x.os (unpk S x.tys p)).2) (by show _ = (opOs x.os _).length; rw [opOs_len])
    (fun o ho ha => (opOs_ver ho).1) hs h2
  obtain ⟨b1, b2, b3⟩ := hb
  refine ⟨hkk, b2, b3, fun hn n v hv => ?_⟩
  have hv' : tlk (numV x.vs (opn (vsOf x.vs) x.os (unpk S x.tys p)).1 ++ keep (namesV x.vs ++ no') env) n = some v := hv
  rw [tlk_append] at hv'
  cases hq : tlk (numV x.vs (opn (vsOf x.vs) x.os (unpk S x.tys p)).1) n with
  | some w =>
    rw [hq] at hv'
    cases hv'
    obtain ⟨z, z1, z2⟩ := h1 n _ hq
    exact ⟨z, z1, b1.rv z2⟩
  | none =>
    rw [hq] at hv'
    simp only [Option.none_or] at hv'
    obtain ⟨a1, a2, a3⟩ := keep_s hv'
    obtain ⟨z, z1, z2⟩ := he n v a3
    exact ⟨z, hkk n z (hn n a2) z1 (z2.clkc ok a1), z2.clk a1⟩
omit ok in
theorem names_noV : ∀ {vs : List (Nat × VS)} {n : Nat}, n ∈ noV vs → n ∈ namesV vs
  | [], n, h => by cases h
  | (k, v) :: r, n, h => by
    simp only [noV] at h
    simp only [namesV]
    cases hd : isD v with
    | true => rw [hd] at h; exact List.mem_cons_of_mem _ (names_noV h)
    | false =>
      rw [hd] at h
      simp only [cond_false] at h
      rcases List.mem_cons.1 h with rfl | h
      · exact List.mem_cons_self
      · exact List.mem_cons_of_mem _ (names_noV h)
include ok
theorem go_sound {tab : List (FS S)} {s : FS S} {hf : HFunc} {c : (i : Q S) → i.In → Option i.Out} (hsf : stripF P s.fid = some hf) (hcall : CallOk P tab c) (hloop : ∀ L x o, c (.lp s L) x = some o → ClaimL P s L x o) :
    ∀ (hc : HCode) (p : Nat), 1 ≤ p → subAt hf.body p = hc → ∀ {O : Type} {r : O} {env : TEnv S} {st : TSt S} {henv : Env} {hst : St} {k : HExit → TEnv S → TSt S → Tree S O} {Qq : HExit → Env → St → Prop},
      QC P hf.ntmps s.aos.length Qq → RE st env henv → RSt st hst → interp c (go tab s hc p env st k) = some r →
      (∀ e env' st' henv' hst', RE st' env' henv' → RSt st' hst' → KeptC (asgJ s.loops s.joins hc p) henv henv' → (∀ e0, Zo e0 st → Zo e0 st') → interp c (k e env' st') = some r → Qq e henv' hst') →
      SemF P hf.ntmps s.aos.length hc henv hst Qq
  | .skip, p, hp, hsub, O, r, env, st, henv, hst, k, Qq, hQ, he, hs, h, hk => SemF.skip rfl (hk _ _ _ _ _ he hs (.refl _ _) (fun _ q => q) h)
  | .exit i, p, hp, hsub, O, r, env, st, henv, hst, k, Qq, hQ, he, hs, h, hk => SemF.exit rfl (hk _ _ _ _ _ he hs (.refl _ _) (fun _ q => q) h)
  | .ret, p, hp, hsub, O, r, env, st, henv, hst, k, Qq, hQ, he, hs, h, hk => SemF.ret rfl (hk _ _ _ _ _ he hs (.refl _ _) (fun _ q => q) h)
  | .reg ops, p, hp, hsub, O, r, env, st, henv, hst, k, Qq, hQ, he, hs, h, hk =>
    SemF.reg s.fz rfl (tinss_sound ok hcall he hs h fun env' st' henv' hst' h1 h2 h3 h4 h5 => hk _ _ _ _ _ h2 h3 h4.c (fun _ q => q.mo h5) h1)
  | .dreg q, p, hp, hsub, O, r, env, st, henv, hst, k, Qq, hQ, he, hs, h, hk => fun code hcd =>
    SemF.dreg s.fz rfl (tplan_sound ok hcall he hs (strip_dreg hcd) (fun x hx => by cases hx) h fun env' st' henv' hst' h1 h2 h3 h4 h5 => hk _ _ _ _ _ h2 h3 h4.c (fun _ q => q.mo h5) h1) code hcd
  | .block id cb, p, hp, hsub, O, r, env, st, henv, hst, k, Qq, hQ, he, hs, h, hk =>
    SemF.block rfl (go_sound hsf hcall hloop cb (2 * p) (by omega) (by rw [subAt_0 hp, hsub]; rfl) hQ.blk he hs h fun e env' st' henv' hst' h1 h2 h3 h4 h5 => by
      cases e with
      | normal => exact hk _ _ _ _ _ h1 h2 h3 h4 h5
      | ret => exact hk _ _ _ _ _ h1 h2 h3 h4 h5
      | exit i =>
        simp only [blkQ]
        simp only at h5
        cases hb : Nat.beq i id with
        | true =>
          rw [hb] at h5
          rw [if_pos (beq_t hb)]
          exact hk _ _ _ _ _ h1 h2 h3 h4 h5
        | false =>
          rw [hb] at h5
          rw [if_neg (fun q => by subst q; rw [Nat.beq_refl] at hb; cases hb)]
          exact hk _ _ _ _ _ h1 h2 h3 h4 h5)
  | .cond a x y, p, hp, hsub, O, r, env, st, henv, hst, k, Qq, hQ, he, hs, h, hk => by
    have hx : subAt hf.body (2 * p) = x := by rw [subAt_0 hp, hsub]; rfl
    have hy : subAt hf.body (2 * p + 1) = y := by rw [subAt_1 hp, hsub]; rfl
    cases a with
    | t n =>
      simp only [go] at h
      replace h := topt_s h
      obtain ⟨v, e1, h⟩ := h
      replace h := tbool_s h
      obtain ⟨t, rfl, h⟩ := h
      obtain ⟨z, z1, z2⟩ := he n _ e1
      have := z2.bool
      subst this
      refine SemF.cond rfl ?_
      simp only [ev, z1, boolP, bP]
      rcases cnd_s h with ⟨rfl, h⟩ | ⟨rfl, h⟩
      · refine ⟨fun _ => ?_, fun q => by cases q⟩
        exact go_sound hsf hcall hloop x (2 * p) (by omega) hx hQ (he.over z1) hs h fun e env' st' henv' hst' h1 h2 h3 h4 h5 => hk _ _ _ _ _ h1 h2 (h3.mono fun n hn => by simp [asgJ, hn]) h4 h5
      · refine ⟨fun q => (by cases q), fun _ => ?_⟩
        exact go_sound hsf hcall hloop y (2 * p + 1) (by omega) hy hQ (he.over z1) hs h fun e env' st' henv' hst' h1 h2 h3 h4 h5 => hk _ _ _ _ _ h1 h2 (h3.mono fun n hn => by simp [asgJ, hn]) h4 h5
    | c cv =>
      simp only [go] at h
      replace h := topt_s h
      obtain ⟨v, e1, h⟩ := h
      replace h := tbool_s h
      obtain ⟨t, rfl, h⟩ := h
      obtain ⟨z, z1, z2⟩ := tev_sound he (a := .c cv) e1
      have := z2.bool
      subst this
      refine SemF.cond rfl ?_
      rw [z1]
      simp only [boolP, bP]
      rcases cnd_s h with ⟨rfl, h⟩ | ⟨rfl, h⟩
      · refine ⟨fun _ => ?_, fun q => by cases q⟩
        exact go_sound hsf hcall hloop x (2 * p) (by omega) hx hQ he hs h fun e env' st' henv' hst' h1 h2 h3 h4 h5 => hk _ _ _ _ _ h1 h2 (h3.mono fun n hn => by simp [asgJ, hn]) h4 h5
      · refine ⟨fun q => (by cases q), fun _ => ?_⟩
        exact go_sound hsf hcall hloop y (2 * p + 1) (by omega) hy hQ he hs h fun e env' st' henv' hst' h1 h2 h3 h4 h5 => hk _ _ _ _ _ h1 h2 (h3.mono fun n hn => by simp [asgJ, hn]) h4 h5
  | .seq a b, p, hp, hsub, O, r, env, st, henv, hst, k, Qq, hQ, he, hs, h, hk => by
    have ha : subAt hf.body (2 * p) = a := by rw [subAt_0 hp, hsub]; rfl
    have hb : subAt hf.body (2 * p + 1) = b := by rw [subAt_1 hp, hsub]; rfl
    refine SemF.seq rfl ?_
    simp only [go] at h
    split at h
    · rename_i hj
      have hA : ∀ n, n ∈ asgJ s.loops s.joins a (2 * p) → n ∈ asgJ s.loops s.joins (.seq a b) p := fun n hn => by simp [asgJ, hn]
      have hB : ∀ n, n ∈ asgJ s.loops s.joins b (2 * p + 1) → n ∈ asgJ s.loops s.joins (.seq a b) p := fun n hn => by simp [asgJ, hn]
      refine go_sound hsf hcall hloop a (2 * p) (by omega) ha hQ.seq he hs h fun e env' st' henv' hst' h1 h2 h3 h4 h5 => ?_
      cases e with
      | normal =>
        exact go_sound hsf hcall hloop b (2 * p + 1) (by omega) hb hQ h1 h2 h5 fun e env2 st2 henv2 hst2 g1 g2 g3 g4 g5 => hk _ _ _ _ _ g1 g2 ((h3.mono hA).trans (g3.mono hB)) (fun e0 q => g4 e0 (h4 e0 q)) g5
      | exit i => exact hk _ _ _ _ _ h1 h2 (h3.mono hA) h4 h5
      | ret => exact hk _ _ _ _ _ h1 h2 (h3.mono hA) h4 h5
    · rename_i X hj
      have hA : ∀ n, n ∈ asgJ s.loops s.joins a (2 * p) → n ∈ asgJ s.loops s.joins (.seq a b) p := fun n hn => by simp [asgJ, hn]
      have hB : ∀ n, n ∈ asgJ s.loops s.joins b (2 * p + 1) → n ∈ asgJ s.loops s.joins (.seq a b) p := fun n hn => by simp [asgJ, hn]
      have hX : ∀ n, n ∈ noX X → n ∈ asgJ s.loops s.joins (.seq a b) p := fun n hn => by simp [asgJ, hj, hn]
      simp only [interp, Option.bind_eq_some_iff] at h
      obtain ⟨o, ho, h⟩ := h
      obtain ⟨x, px, e1, hmem, h⟩ := ofX_s h
      refine go_sound hsf hcall hloop a (2 * p) (by omega) ha hQ.seq (zeroS_re he) (zeroS_rs hs) ho fun e env' st' henv' hst' h1 h2 h3 h4 h5 => ?_
      replace h5 := topt_s h5
      obtain ⟨o', h5, h6⟩ := h5
      cases h6
      obtain ⟨x', p', f1, f2, rfl, f4⟩ := toX_s h5
      rw [e1] at f1
      cases f1
      have hz : Zo (zeroS st) st' := h4 _ (zeroS_Z st)
      have hSame : ∀ st2, Mo st' st2 → SameOk (ent0 st) st2 := fun st2 hm => (hz.mo hm).same fun j t l m v c q => by
        rw [ent0_get, Option.map_eq_some_iff] at q
        obtain ⟨o0, q1, q2⟩ := q
        cases o0 <;> cases q2
        rename_i v0 c0
        exact ⟨v0, .inl (by rw [zeroS_get, q1]; rfl)⟩
      have hex := packX_sound (P := P) (N := hf.ntmps) ok f4 h1 h2 hSame (no := noV x.vs ++ asgJ s.loops s.joins a (2 * p)) (E0 := henv) (h3.mono fun n hn => List.mem_append_right _ hn) (fun n hn => List.mem_append_left _ hn)
      obtain ⟨E1, x1, x2, x3, x4, x5⟩ := hex
      have hre := exit_re ok (ids := List.range st.length) (e := st) (no' := asgJ s.loops s.joins a (2 * p)) he (.refl _ _) x3 x1 x2 (fun j i t l mu v cc q1 q2 q3 => by
        have := get_lt q2
        simp only [List.length_range] at this
        rw [List.getElem?_range this] at q2
        cases q2
        exact ⟨0, by rw [ent0_get, q3]; rfl⟩)
      obtain ⟨y1, y2, y3, y4⟩ := hre
      have y4 := y4 fun n hn hm => hn (by
        rcases List.mem_append.1 hm with q | q
        · exact List.mem_append_left _ (names_noV q)
        · exact List.mem_append_right _ q)
      have y1' : KeptC (asgJ s.loops s.joins (.seq a b) p) henv E1 := y1.mono fun n hn => by
        rcases List.mem_append.1 hn with q | q
        · exact hX n (noX_mem hmem n q)
        · exact hA n q
      refine hQ.seq _ _ _ _ _ x4 ?_
      cases hxe : x.e with
      | normal =>
        rw [hxe] at h
        exact go_sound hsf hcall hloop b (2 * p + 1) (by omega) hb hQ y4 y2 h fun e env2 st2 henv2 hst2 g1 g2 g3 g4 g5 => hk _ _ _ _ _ g1 g2 (y1'.trans (g3.mono hB)) (fun e0 q => g4 e0 (y3 e0 q)) g5
      | exit i =>
        rw [hxe] at h
        exact hk _ _ _ _ _ y4 y2 y1' y3 h
      | ret =>
        rw [hxe] at h
        exact hk _ _ _ _ _ y4 y2 y1' y3 h
  | .loop cb, p, hp, hsub, O, r, env, st, henv, hst, k, Qq, hQ, he, hs, h, hk => by
    refine SemF.loop rfl ?_
    simp only [go] at h
    replace h := topt_s h
    obtain ⟨L, hL, h⟩ := h
    replace h := topt_s h
    obtain ⟨⟨C, x⟩, hpk, h⟩ := h
    simp only [interp, Option.bind_eq_some_iff] at h
    obtain ⟨o, ho, h⟩ := h
    obtain ⟨X, px, e1, hmem, h⟩ := ofX_s h
    have hLp := findL_s hL
    obtain ⟨hns, hmo, hys, ⟨E0, r1, r2, r3⟩, hro⟩ := packL_sound (P := P) (N := hf.ntmps) (m := s.aos.length) ok hpk he hs (fun e q => by cases q)
    have hcl := hloop L x o ho hf cb hsf (by rw [hLp]; exact hsub) hns (by rw [hLp]; exact hp) hys E0 r1
    rw [hLp] at hcl
    refine SemL.view r3 (SemL.mono hcl fun e E' T' hne hq => ?_)
    obtain ⟨X', p', f1, f2, rfl, E1, x1, x2, x3, x4, x5⟩ := hq
    rw [e1] at f1
    cases f1
    have hno : ∀ n, n ∈ noV X.vs ++ (noV L.vs ++ asgJ s.loops s.joins cb (2 * p)) → n ∈ asgJ s.loops s.joins (.loop cb) p := fun n hn => by
      simp only [asgJ, hL, List.mem_append] at hn ⊢
      rcases hn with q | q | q
      · exact .inl (.inr (noX_mem hmem n q))
      · exact .inl (.inl q)
      · exact .inr q
    have hre := exit_re ok (ids := C.ids) (e := C.st) (no' := noV L.vs ++ asgJ s.loops s.joins cb (2 * p)) he (r2.mono fun n hn => List.mem_append_right _ (List.mem_append_left _ hn)) x3 x1 x2 (fun j i t l mu v cc q1 q2 q3 => by
      obtain ⟨t', l', v', c', d⟩ := x5.get q1
      rw [Nat.zero_add] at d
      obtain ⟨d1, t0, d2⟩ := roOnly_get d rfl
      obtain ⟨i', l0, v0, c0, a1, a2, a3, _⟩ := hro j t0 d2
      rw [q2] at a1
      cases a1
      rw [q3] at a2
      cases a2
      rw [a3] at d1
      cases d1
      exact ⟨_, d⟩)
    obtain ⟨y1, y2, y3, y4⟩ := hre
    have y4 := y4 fun n hn hm => hn (by
      rcases List.mem_append.1 hm with q | q
      · exact List.mem_append_left _ (names_noV q)
      · exact List.mem_append_right _ q)
    refine hQ _ _ _ _ _ x4 ?_
    cases hxe : X.e with
    | normal => exact absurd hxe hne
    | exit i =>
      rw [hxe] at h
      exact hk _ _ _ _ _ y4 y2 (y1.mono hno) (fun e0 q => y3 e0 (q.mo hmo)) h
    | ret =>
      rw [hxe] at h
      exact hk _ _ _ _ _ y4 y2 (y1.mono hno) (fun e0 q => y3 e0 (q.mo hmo)) h
end
end X
end HL
end
section
namespace HL
namespace X
open Go
section
variable {S : DSys} {P : Program} (ok : S.Ok)
theorem opn_Zo (vs : List VS) (os : List OS) (ls : List (Lf S)) : Zo (opn vs os ls).2 (opn vs os ls).2 := fun j o ho ha _ => by
  obtain ⟨t, l, e⟩ := (opOs_ver (List.mem_of_getElem? ho)).2 ha
  subst e
  exact ⟨t, l, 0, 0, true, true, ho, rfl⟩
theorem roOnly_len : ∀ {os : List OS} {T : TSt S}, os.length = T.length → (roOnly os T).length = os.length
  | [], [], _ => rfl
  | [], _ :: _, h => by simp at h
  | s :: r, [], h => by simp at h
  | s :: r, x :: T, h => by
    have := roOnly_len (os := r) (T := T) (by simpa using h)
    cases s <;> simp [roOnly, this]
theorem roOnly_at : ∀ {os : List OS} {T : TSt S} {j : Nat} {s : OS} {o : TO S}, os[j]? = some s → T[j]? = some o → (roOnly os T)[j]? = some (match s with
    | .ro _ => o
    | _ => .dead)
  | [], T, j, s, o, h, _ => by simp at h
  | s' :: r, [], j, s, o, _, h => by simp at h
  | s' :: r, x :: T, 0, s, o, h, h' => by
    simp only [List.getElem?_cons_zero, Option.some.injEq] at h h'
    subst h h'
    cases s' <;> rfl
  | s' :: r, x :: T, j + 1, s, o, h, h' => by
    have := roOnly_at (os := r) (T := T) (j := j) (s := s) (o := o) (by simpa using h) (by simpa using h')
    cases s' <;> simpa [roOnly] using this
include ok
theorem claimL_sound {tab : List (FS S)} {s : FS S} {c : (i : Q S) → i.In → Option i.Out} (hcall : CallOk P (s.sel tab) c) (hloop : ∀ L x o, c (.lp s L) x = some o → ClaimL P s L x o) {L : LS} {x : Pk S.ty L.tys} {o : Ot S.ty L.outs}
    (h : interp c (tree P tab (.lp s L) x) = some o) : ClaimL P s L x o := by
  intro hf cb hsf hsub hns hLp hys E0 hre
  simp only [tree, hsf, hsub] at h
  refine SemL.round ?_
  have h' : interp c (go (s.sel tab) s cb (2 * L.p) (numV L.vs (lpIn L x).1) (lpIn L x).2 fun e env st => match e with
          | .normal => topt (packL s.aos.length (some (lpIn L x).2) L env st) fun x' => .jmp (.lp s L) x'.2
          | .exit i => topt (toX s.aos.length (roOnly L.os (lpIn L x).2) L.outs (.exit i) env st) .done
          | .ret => topt (toX s.aos.length (roOnly L.os (lpIn L x).2) L.outs .ret env st) .done) = some o := h
  have hz0 : Zo (lpIn L x).2 (lpIn L x).2 := opn_Zo _ _ _
  refine go_sound ok hsf hcall hloop cb (2 * L.p) (by omega) (by rw [subAt_0 hLp, hsub]; rfl) (QC.loop LQ.qc) hre hys h' fun e env' st' henv' hst' h1 h2 h3 h4 h5 => ?_
  have hz : Zo (lpIn L x).2 st' := h4 _ hz0
  have out : ∀ e', interp c (topt (toX s.aos.length (roOnly L.os (lpIn L x).2) L.outs e' env' st') Tree.done) = some o → LQ P hf.ntmps s.aos.length (noV L.vs ++ asgJ s.loops s.joins cb (2 * L.p)) E0 L x o e' henv' hst' := by
    intro e' h5
    replace h5 := topt_s h5
    obtain ⟨o', h5, h6⟩ := h5
    cases h6
    obtain ⟨X, p, f1, f2, f3, f4⟩ := toX_s h5
    refine ⟨X, p, f1, f2, f3, packX_sound ok f4 h1 h2 (fun st2 hm => (hz.mo hm).same fun j t l m v cc q => ?_) (h3.mono fun n hn => List.mem_append_right _ (List.mem_append_right _ hn)) fun n hn => List.mem_append_left _ hn⟩
    exact ⟨v, .inr ⟨cc, (roOnly_get q rfl).1⟩⟩
  cases e with
  | exit i => exact out _ h5
  | ret => exact out _ h5
  | normal =>
    replace h5 := topt_s h5
    obtain ⟨⟨C, x'⟩, hpk, h6⟩ := h5
    have h6 : c (.lp s L) x' = some o := h6
    obtain ⟨_, hmo, hys', ⟨E0', r1, r2, r3⟩, hro⟩ := packL_sound (P := P) (N := hf.ntmps) (m := s.aos.length) ok hpk h1 h2 (fun e q st2 hm => by cases q; exact (hz.mo hm).same fun j t l m v cc q => ⟨v, .inr ⟨cc, q⟩⟩)
    have hcl := hloop L x' o h6 hf cb hsf hsub hns hLp hys' E0' r1
    show SemL P hf.ntmps s.aos.length cb henv' hst' _
    refine SemL.view r3 (SemL.mono hcl fun e E' T' hne hq => ?_)
    obtain ⟨X, p, f1, f2, f3, hex⟩ := hq
    refine ⟨X, p, f1, f2, f3, ?_⟩
    -- what is only looked at is the same in all rounds
    have hlen : ∀ y : Pk S.ty L.tys, (lpIn L y).2.length = L.os.length := fun y => opOs_len _ _
    have heq : roOnly L.os (lpIn L x').2 = roOnly L.os (lpIn L x).2 := by
      apply List.ext_getElem?
      intro j
      rcases Nat.lt_or_ge j L.os.length with hj | hj
      · have g0 := List.getElem?_eq_getElem hj
        have g1 : (lpIn L x').2[j]? = some ((lpIn L x').2[j]'(by rw [hlen]; exact hj)) := List.getElem?_eq_getElem _
        have g2 : (lpIn L x).2[j]? = some ((lpIn L x).2[j]'(by rw [hlen]; exact hj)) := List.getElem?_eq_getElem _
        rw [roOnly_at g0 g1, roOnly_at g0 g2]
        cases hs : L.os[j] with
        | ro t =>
          rw [hs] at g0
          obtain ⟨i, l, v, cc, a1, a2, a3, a4⟩ := hro j t g0
          obtain ⟨rfl, a5⟩ := a4 _ rfl
          obtain ⟨t1, l1, v1, v1', b1, b2⟩ := ((hz.mo hmo).same (e' := (lpIn L x).2) fun j t l m v cc q => ⟨v, .inr ⟨cc, q⟩⟩) i a5
          rw [a2] at b2
          cases b2
          obtain ⟨t2, l2, d⟩ := (opOs_ver (List.mem_of_getElem? b1)).2 rfl
          rw [d] at b1
          cases d
          rw [g1] at a3
          rw [g2] at b1
          simp only
          rw [Option.some.inj a3, Option.some.inj b1]
        | _ => rfl
      · rw [List.getElem?_eq_none (by rw [roOnly_len (hlen x').symm]; exact hj), List.getElem?_eq_none (by rw [roOnly_len (hlen x).symm]; exact hj)]
    rw [heq] at hex
    obtain ⟨E1, x1, x2, x3, x4, x5⟩ := hex
    refine ⟨E1, x1, x2, ?_, x4, x5⟩
    refine KeptC.trans (b := E0') ?_ x3
    exact (h3.mono fun n hn => by simp [hn]).trans (r2.mono fun n hn => by simp [hn])
/-! ### a function -/
omit ok in
theorem tenv_re {T : TSt S} : ∀ {V : List (TV S)} {xs : List HV} {i : Nat}, RvL T V xs → RE T (tenvOf i V) (envOf i xs)
  | [], xs, i, h => fun n v hv => by simp [tenvOf, tlk] at hv
  | v :: V, xs, i, h => by
    obtain ⟨x, r, rfl, h1, h2⟩ := h.inv
    intro n w hw
    simp only [tenvOf] at hw
    rw [tlk_cons] at hw
    simp only [envOf, lk]
    by_cases e : i = n
    · rw [if_pos e] at hw ⊢; cases hw; exact ⟨x, rfl, h1⟩
    · rw [if_neg e] at hw ⊢; exact tenv_re h2 n w hw
theorem tresV_s {st : TSt S} {hst : St} {env : TEnv S} {henv : Env} (he : RE st env henv) (hs : RSt st hst) {q : Nat × Option (Bool × Nat)} {v : TV S} (h : tresV env st q = some v) : ∃ x, resV henv hst q = some x ∧ Rv st v x := by
  obtain ⟨t, a⟩ := q
  cases a with
  | none => exact he t v h
  | some an =>
    obtain ⟨ag, n⟩ := an
    simp only [tresV] at h
    split at h
    · rename_i id off h1
      split at h
      · rename_i y h2
        obtain ⟨z, z1, z2⟩ := he t _ h1
        cases z2
        obtain ⟨x, x1, x2⟩ := hs.get (getB_some h2)
        cases x2 with
        | box hv ht =>
          obtain ⟨u, u1, u2⟩ := tld_sound ok hv h
          exact ⟨u, by simp [resV, z1, x1, items, u1], u2⟩
      · cases h
    · cases h
theorem tresL_s {st : TSt S} {hst : St} {env : TEnv S} {henv : Env} (he : RE st env henv) (hs : RSt st hst) : ∀ {rs : List (Nat × Option (Bool × Nat))} {vs : List (TV S)}, tresL env st rs = some vs → ∃ xs, resL henv hst rs = some xs ∧ RvL st vs xs
  | [], vs, h => by cases h; exact ⟨[], rfl, .nil⟩
  | q :: rs, vs, h => by
    simp only [tresL] at h
    split at h
    · rename_i v vs' h1 h2
      cases h
      obtain ⟨x, x1, x2⟩ := tresV_s ok he hs h1
      obtain ⟨xs, y1, y2⟩ := tresL_s he hs h2
      exact ⟨x :: xs, by simp [resL, x1, y1], .cons x2 y2⟩
    · cases h
omit ok in
def oneH (l : List HV) : HV := match l with
  | [x] => x
  | l => .tup l
omit ok in
theorem resE_s {env : Env} {st : St} {rs : List (Nat × Option (Bool × Nat))} {xs : List HV} (h : resL env st rs = some xs) : resE env st rs = some (oneH xs) := by
  match rs, h with
  | [], h => cases h; rfl
  | [q], h =>
    simp only [resL] at h
    split at h
    · rename_i x hs h1 h2
      cases h; cases h2
      exact h1
    · cases h
  | q :: q' :: r, h =>
    have : ∃ x y t, xs = x :: y :: t := by
      simp only [resL] at h
      split at h
      · rename_i x hs h1 h2
        cases h
        split at h2
        · rename_i y t _ _
          cases h2
          exact ⟨x, y, t, rfl⟩
        · cases h2
      · cases h
    obtain ⟨x, y, t, rfl⟩ := this
    simp only [resE, h, Option.map_some, oneH]
end
end X
end HL
end
section
namespace HL
namespace X
open Go
section
variable {S : DSys} {P : Program} (ok : S.Ok)
theorem vals_oneH {G : Gh} {v : Value} {xs : List HV} (h : R G (.val v (oneH xs))) : ∃ us, R G (.vals us xs) ∧ ∀ (G' : Gh) (ys : List HV), ys.length = xs.length → R G' (.vals us ys) → R G' (.val v (oneH ys)) := by
  have tup : ∀ xs : List HV, R G (.val v (.tup xs)) → ∃ us, R G (.vals us xs) ∧ ∀ (G' : Gh) (ys : List HV), ys.length = xs.length → R G' (.vals us ys) → R G' (.val v (.tup ys)) := by
    intro xs h
    cases h with
    | tup h => exact ⟨_, h, fun G' ys _ h' => .tup h'⟩
  match xs, h with
  | [], h =>
    obtain ⟨us, a, b⟩ := tup [] h
    exact ⟨us, a, fun G' ys hl h' => by cases ys with
      | nil => exact b G' [] rfl h'
      | cons => simp at hl⟩
  | [x], h => exact ⟨[v], .vcons h .vnil, fun G' ys hl h' => by
      match ys, hl, h' with
      | [y], _, h' => cases h' with | vcons a b => exact a⟩
  | x :: y :: t, h =>
    obtain ⟨us, a, b⟩ := tup _ h
    exact ⟨us, a, fun G' ys hl h' => by
      match ys, hl, h' with
      | x' :: y' :: t', hl, h' => exact b G' _ hl h'⟩
theorem oneH_enc {T : TSt S} (V : List (TV S)) : oneH (encVs T V) = encV T (one V) := by
  match V with
  | [] => rfl
  | [x] => rfl
  | x :: y :: r => rfl
theorem noSame_s : ∀ {b : List OS} {j : Nat}, noSame b = true → b[j]? ≠ some .same
  | [], j, _, h => by simp at h
  | s :: r, 0, h, h' => by
    simp only [List.getElem?_cons_zero, Option.some.injEq] at h'
    subst h'
    cases h
  | s :: r, j + 1, h, h' => by
    have h2 : noSame r = true := by cases s <;> first | exact h | cases h
    exact noSame_s h2 (by simpa using h')
theorem sameIn_s : ∀ {a b : List OS}, sameIn a b = true → a.length ≤ b.length ∧ ∀ j : Nat, b[j]? = some .same → ∀ ls : List (Lf S), Has ls (tysO a) → ∃ (t : Tc) (l : List (T S.ty t)), (opOs a ls)[j]? = some (.arr t l true 0 0)
  | [], b, h => ⟨Nat.zero_le _, fun j hj => absurd hj (noSame_s h)⟩
  | _ :: _, [], h => by cases h
  | a :: r, b :: r', h => by
    simp only [sameIn, Bool.and_eq_true] at h
    obtain ⟨h1, h2⟩ := h
    obtain ⟨g1, g2⟩ := sameIn_s h2
    refine ⟨by simpa using g1, fun j hj ls hls => ?_⟩
    simp only [tysO] at hls
    cases j with
    | zero =>
      simp only [List.getElem?_cons_zero, Option.some.injEq] at hj
      subst hj
      cases a with
      | arr t => obtain ⟨x, l, rfl, _⟩ := Has.cons (ts := tysO r) hls; exact ⟨t, x, rfl⟩
      | ro t => obtain ⟨x, l, rfl, _⟩ := Has.cons (ts := tysO r) hls; exact ⟨t, x, rfl⟩
      | _ => cases h1
    | succ j =>
      have hj : r'[j]? = some .same := by simpa using hj
      simp only [opOs, List.getElem?_cons_succ]
      cases a with
      | box v => exact g2 j hj _ (by simp only [opO]; rw [opV_drop v ls hls.left]; exact hls.drop)
      | arr t => obtain ⟨x, l, rfl, h3⟩ := Has.cons (ts := tysO r) hls; exact g2 j hj _ h3
      | ro t => obtain ⟨x, l, rfl, h3⟩ := Has.cons (ts := tysO r) hls; exact g2 j hj _ h3
      | same => exact g2 j hj _ hls
      | dead => exact g2 j hj _ hls
theorem EntOk_of {ent : TSt S} : ∀ {os : List OS} {k : Nat}, (∀ j : Nat, os[j]? = some .same → ∃ (t : Tc) (l : List (T S.ty t)) (v c : Nat), ent[k + j]? = some (.arr t l true v c)) → EntOk ent os k
  | [], k, h => trivial
  | s :: r, k, h => by
    have tail : EntOk ent r (k + 1) := EntOk_of fun j hj => by
      have := h (j + 1) (by simpa using hj)
      rwa [show k + (j + 1) = k + 1 + j by omega] at this
    cases s with
    | same => exact ⟨by simpa using h 0 rfl, tail⟩
    | _ => exact tail
include ok
theorem claimF_sound {tab : List (FS S)} {s : FS S} {c : (i : Q S) → i.In → Option i.Out} (hext : ∀ f, s.ext = some f → ∀ x o, f x = some o → ClaimF P s x o) (hcall : CallOk P (s.sel tab) c) (hloop : ∀ L x o, c (.lp s L) x = some o → ClaimL P s L x o)
    {x : Pk S.ty s.itys} {o : Pk S.ty s.otys} (h : interp c (tree P tab (.fn s) x) = some o) : ClaimF P s x o := by
  simp only [tree] at h
  split at h
  · rename_i f hf
    replace h := topt_s h
    obtain ⟨o', h1, h2⟩ := h
    cases h2
    exact hext f hf x _ h1
  · split at h
    · rename_i hf hsf
      replace h := cond_s h
      obtain ⟨hlen, h⟩ := h
      simp only [Bool.and_eq_true] at hlen
      obtain ⟨hlen, hwv, hwo, hsi⟩ := hlen
      intro hyv hys
      have h' : interp c (go (s.sel tab) s hf.body 1 (tenvOf 0 (fnIn s x).1) (fnIn s x).2 fun e env st => match e with
          | .exit _ => .fail
          | _ => topt (tresL env st hf.results) fun vals => topt (conv s.aos.length (some (fnIn s x).2) s.rin s.ros vals st) fun c => topt (pack S s.otys c.ls) .done) = some o := h
      have hl : (encSt (fnIn s x).2).length = s.aos.length := by simp only [encSt, List.length_map]; exact opOs_len _ _
      have hargs : (encVs (fnIn s x).2 (fnIn s x).1).length = s.ain.length := by rw [encVs_map, List.length_map]; exact opL_len
      have hz0 : Zo (fnIn s x).2 (fnIn s x).2 := opn_Zo _ _ _
      -- what is so at the end
      let Q0 : HExit → Env → St → Prop := fun e env st => match e with
        | .exit _ => False
        | _ => ∃ xs st0 C hst2, resE env st hf.results = some (oneH xs) ∧ Cv s.aos.length (fnIn s x).2 s.rin s.ros st0 xs st C (fnOut s x o) hst2
      have hv : SemF P hf.ntmps s.aos.length hf.body (envOf 0 (encVs (fnIn s x).2 (fnIn s x).1)) (encSt (fnIn s x).2) Q0 := by
        refine SemF.ofCls (go_sound ok hsf hcall hloop hf.body 1 (Nat.le_refl _) rfl (Cls.qc Q0) (tenv_re hyv) hys h' fun e env' st' henv' hst' h1 h2 h3 h4 h5 => ?_)
        refine ⟨henv', hst', View.refl _ _, ?_⟩
        have fin : interp c (topt (tresL env' st' hf.results) fun vals => topt (conv s.aos.length (some (fnIn s x).2) s.rin s.ros vals st') fun c => topt (pack S s.otys c.ls) Tree.done) = some o →
            ∃ xs st0 C hst2, resE henv' hst' hf.results = some (oneH xs) ∧ Cv s.aos.length (fnIn s x).2 s.rin s.ros st0 xs hst' C (fnOut s x o) hst2 := by
          intro h5
          replace h5 := topt_s h5
          obtain ⟨vals, e1, h5⟩ := h5
          replace h5 := topt_s h5
          obtain ⟨C, e2, h5⟩ := h5
          replace h5 := topt_s h5
          obtain ⟨o', e3, h5⟩ := h5
          cases h5
          obtain ⟨xs, r1, r2⟩ := tresL_s ok h1 h2 e1
          have hz := h4 _ hz0
          obtain ⟨hst2, cv⟩ := conv_sound ok e2 r2 h2 (fun e q st2 hm => by cases q; exact (hz.mo hm).same fun j t l m v cc q => ⟨v, .inr ⟨cc, q⟩⟩)
          have hu := pack_unpk e3
          simp only [Option.getD_some, ← hu] at cv
          exact ⟨xs, st', C, hst2, resE_s r1, cv⟩
        cases e with
        | exit i => cases h5
        | normal => exact fin h5
        | ret => exact fin h5
      -- the function, as a whole
      have hc0 : HC P s.fid (encVs (fnIn s x).2 (fnIn s x).1) (encSt (fnIn s x).2) fun r st => ∃ xs st0 C hst2, r = oneH xs ∧ Cv s.aos.length (fnIn s x).2 s.rin s.ros st0 xs st C (fnOut s x o) hst2 := by
        refine HC.introF hsf (by rw [hargs]; exact ble_t hlen) ?_
        rw [hl]
        refine fun code hcd G0 w0 G w a Q' hm hst hr he hQ => hv code hcd G0 w0 G w a Q' hm hst hr he fun e env' st' G' a' w' q => hQ e env' st' G' a' w' ?_
        cases e with
        | exit i => exact q.elim
        | normal =>
          obtain ⟨xs, st0, C, hst2, q1, q2⟩ := q
          exact ⟨_, q1, fun _ => ⟨xs, st0, C, hst2, rfl, q2⟩⟩
        | ret =>
          obtain ⟨xs, st0, C, hst2, q1, q2⟩ := q
          exact ⟨_, q1, fun _ => ⟨xs, st0, C, hst2, rfl, q2⟩⟩
      have hes := sameIn_s (S := S) hsi
      have hhas : Has (opL s.ain (unpk S s.itys x)).2 (tysO s.aos) := by
        have hh : Has (unpk S s.itys x) (tysL s.ain ++ tysO s.aos) := ⟨[], by rw [unpk_has, List.append_nil]⟩
        rw [opL_drop s.ain _ hh.left]
        exact hh.drop
      refine ⟨⟨hc0.1, fun G w us hr hR => ?_⟩, hwv, hwo, EntOk_of fun j hj => ?_, hes.1⟩
      · refine (hc0.2 G w us hr hR).mono fun e w' ⟨v, r, st', G', he, ⟨xs, st0, C, hst2, hx, cv⟩, r1, r2, r3⟩ => ?_
        subst hx
        obtain ⟨us', u1, u2⟩ := vals_oneH r2
        obtain ⟨G1, g1, g2, g3⟩ := cv.gh P G' w' us' r1 u1
        have hxl : (encVs (fnOut s x o).2 (fnOut s x o).1).length = xs.length := by
          have := g2.vals_length
          rw [renL_length] at this
          have := u1.vals_length
          omega
        refine ⟨v, _, _, selG G1 C.ids, he, ⟨rfl, rfl⟩, g1.sel cv.sel cv.nd cv.ysc, ?_, (r3.trans g3).sel (by rw [hr.len, hl]) ?_⟩
        · rw [← oneH_enc]
          exact u2 _ _ hxl (unrenS cv.sel (j := .vals us' (encVs (fnOut s x o).2 (fnOut s x o).1)) g2 cv.yvc)
        · obtain ⟨t, ht⟩ := cv.pre
          rw [← ht, List.take_left' (by simp)]
      · obtain ⟨t, l, e⟩ := hes.2 j hj _ hhas
        exact ⟨t, l, 0, 0, by rw [Nat.zero_add]; exact e⟩
    · cases h
end
end X
end HL
end
section
namespace HL
namespace X
open Go
section
variable {S : DSys} (P : Program) (tab : List (FS S))
def Le (c c' : (i : Q S) → i.In → Option i.Out) : Prop := ∀ i x o, c i x = some o → c' i x = some o
theorem interp_mono {c c' : (i : Q S) → i.In → Option i.Out} (h : Le c c') {O : Type} (t : Tree S O) : ∀ o, interp c t = some o → interp c' t = some o := by
  induction t with
  | done => exact fun o q => q
  | fail => exact fun o q => by cases q
  | jmp i x => exact fun o q => h i x o q
  | ask i x k ih =>
    intro o q
    simp only [interp, Option.bind_eq_some_iff] at q ⊢
    obtain ⟨r, a, b⟩ := q
    exact ⟨r, h i x r a, ih r o b⟩
  | cnd b A B ih1 ih2 => cases b <;> first | exact ih1 | exact ih2
  | gd p A ih =>
    intro o q
    simp only [interp, Option.bind_eq_some_iff] at q ⊢
    obtain ⟨r, a, b⟩ := q
    exact ⟨r, a, ih o b⟩
  | opt m k ih =>
    intro o q
    simp only [interp, Option.bind_eq_some_iff] at q ⊢
    obtain ⟨r, a, b⟩ := q
    exact ⟨r, a, ih r o b⟩
  | sub t k ih1 ih2 =>
    intro o q
    simp only [interp, Option.bind_eq_some_iff] at q ⊢
    obtain ⟨r, a, b⟩ := q
    exact ⟨r, ih1 r a, ih2 r o b⟩
  | cs m f g ih1 ih2 => cases m with
    | inl a => exact ih1 a
    | inr b => exact ih2 b
  | meet A B ih1 ih2 =>
    intro o q
    obtain ⟨a, b⟩ := meet_s q
    have e1 := ih1 o a
    have e2 := ih2 o b
    simp only [interp, X.meet, e1, e2, if_true]
theorem runN_mono : ∀ {n n' : Nat}, n ≤ n' → Le (runN P tab n) (runN P tab n')
  | 0, n', h => fun i x o q => by cases q
  | n + 1, 0, h => by omega
  | n + 1, n' + 1, h => fun i x o q => interp_mono (runN_mono (Nat.le_of_succ_le_succ h)) _ o q
theorem RT_of {i : Q S} {x : i.In} {o : i.Out} {n : Nat} (h : runN P tab n i x = some o) : RT P tab i x = some o := by
  have hx : ∃ o n, runN P tab n i x = some o := ⟨o, n, h⟩
  simp only [RT, dif_pos hx]
  obtain ⟨n', h'⟩ := Classical.choose_spec hx
  have a := runN_mono P tab (Nat.le_max_left n n') i x _ h
  have b := runN_mono P tab (Nat.le_max_right n n') i x _ h'
  rw [a] at b
  exact b.symm
theorem RT_s {i : Q S} {x : i.In} {o : i.Out} (h : RT P tab i x = some o) : ∃ n, runN P tab n i x = some o := by
  simp only [RT] at h
  split at h
  · rename_i hx
    obtain ⟨n', h'⟩ := Classical.choose_spec hx
    cases h
    exact ⟨n', h'⟩
  · cases h
theorem RT_cont {O : Type} (t : Tree S O) : ∀ o, interp (RT P tab) t = some o → ∃ n, interp (runN P tab n) t = some o := by
  induction t with
  | done => exact fun o q => ⟨0, q⟩
  | fail => exact fun o q => by cases q
  | jmp i x => exact fun o q => RT_s P tab q
  | ask i x k ih =>
    intro o q
    simp only [interp, Option.bind_eq_some_iff] at q
    obtain ⟨r, a, b⟩ := q
    obtain ⟨n1, h1⟩ := RT_s P tab a
    obtain ⟨n2, h2⟩ := ih r o b
    refine ⟨max n1 n2, ?_⟩
    simp only [interp, Option.bind_eq_some_iff]
    exact ⟨r, runN_mono P tab (Nat.le_max_left _ _) _ _ _ h1, interp_mono (runN_mono P tab (Nat.le_max_right _ _)) _ o h2⟩
  | cnd b A B ih1 ih2 => cases b <;> first | exact ih1 | exact ih2
  | gd p A ih =>
    intro o q
    simp only [interp, Option.bind_eq_some_iff] at q ⊢
    obtain ⟨r, a, b⟩ := q
    obtain ⟨n, h⟩ := ih o b
    exact ⟨n, r, a, h⟩
  | opt m k ih =>
    intro o q
    simp only [interp, Option.bind_eq_some_iff] at q ⊢
    obtain ⟨r, a, b⟩ := q
    obtain ⟨n, h⟩ := ih r o b
    exact ⟨n, r, a, h⟩
  | sub t k ih1 ih2 =>
    intro o q
    simp only [interp, Option.bind_eq_some_iff] at q
    obtain ⟨r, a, b⟩ := q
    obtain ⟨n1, h1⟩ := ih1 r a
    obtain ⟨n2, h2⟩ := ih2 r o b
    refine ⟨max n1 n2, ?_⟩
    simp only [interp, Option.bind_eq_some_iff]
    exact ⟨r, interp_mono (runN_mono P tab (Nat.le_max_left _ _)) _ r h1, interp_mono (runN_mono P tab (Nat.le_max_right _ _)) _ o h2⟩
  | cs m f g ih1 ih2 => cases m with
    | inl a => exact ih1 a
    | inr b => exact ih2 b
  | meet A B ih1 ih2 =>
    intro o q
    obtain ⟨a, b⟩ := meet_s q
    obtain ⟨n1, h1⟩ := ih1 o a
    obtain ⟨n2, h2⟩ := ih2 o b
    refine ⟨max n1 n2, ?_⟩
    simp only [interp, X.meet, interp_mono (runN_mono P tab (Nat.le_max_left n1 n2)) _ o h1, interp_mono (runN_mono P tab (Nat.le_max_right n1 n2)) _ o h2, if_true]
theorem RT_eq (i : Q S) (x : i.In) : RT P tab i x = interp (RT P tab) (tree P tab i x) := by
  have key : ∀ o, RT P tab i x = some o ↔ interp (RT P tab) (tree P tab i x) = some o := fun o => by
    constructor
    · intro h
      obtain ⟨n, h⟩ := RT_s P tab h
      cases n with
      | zero => cases h
      | succ n => exact interp_mono (fun i x o q => RT_of P tab q) _ o h
    · intro h
      obtain ⟨n, h⟩ := RT_cont P tab _ o h
      exact RT_of P tab (n := n + 1) h
  cases h : RT P tab i x with
  | some o => exact ((key o).1 h).symm
  | none =>
    cases h' : interp (RT P tab) (tree P tab i x) with
    | none => rfl
    | some o => rw [(key o).2 h'] at h; cases h
variable {P tab}
theorem runN_claims (ok : S.Ok) (hext : ∀ s ∈ tab, ∀ f, s.ext = some f → ∀ x o, f x = some o → ClaimF P s x o) : ∀ n, (∀ s ∈ tab, ∀ x o, runN P tab n (.fn s) x = some o → ClaimF P s x o) ∧ ∀ s ∈ tab, ∀ L x o, runN P tab n (.lp s L) x = some o → ClaimL P s L x o
  | 0 => ⟨fun s _ x o h => (by cases h), fun s _ L x o h => (by cases h)⟩
  | n + 1 => by
    obtain ⟨h1, h2⟩ := runN_claims ok hext n
    have hcall : ∀ s : FS S, CallOk P (s.sel tab) (runN P tab n) := by
      intro s O r k g vals xs st hst K
      exact call_sound ok fun g hg => h1 g (FS.sel_mem hg)
    refine ⟨fun s hs x o h => ?_, fun s hs L x o h => ?_⟩
    · exact claimF_sound ok (hext s hs) (hcall s) (h2 s hs) h
    · exact claimL_sound ok (hcall s) (h2 s hs) h
theorem RT_claim (ok : S.Ok) (hext : ∀ s ∈ tab, ∀ f, s.ext = some f → ∀ x o, f x = some o → ClaimF P s x o) {s : FS S} (hs : s ∈ tab) {x : Pk S.ty s.itys} {o : Pk S.ty s.otys} (h : RT P tab (.fn s) x = some o) : ClaimF P s x o := by
  obtain ⟨n, h⟩ := RT_s P tab h
  exact (runN_claims ok hext n).1 s hs x o h
theorem law_of (ok : S.Ok) (hext : ∀ s ∈ tab, ∀ f, s.ext = some f → ∀ x o, f x = some o → ClaimF P s x o) {s : FS S} (hs : s ∈ tab) {x : Pk S.ty s.itys} {o : Pk S.ty s.otys} (h : RT P tab (.fn s) x = some o)
    (ha : s.aos = []) (hr : s.ros = []) (hw : wfVs 0 s.ain = true) : HCp P s.fid (encVs [] (opL s.ain (unpk S s.itys x)).1) (encV [] (one (opL s.rin (unpk S s.otys o)).1)) := by
  have hcl := RT_claim ok hext hs h
  have hin : fnIn s x = ((opL s.ain (unpk S s.itys x)).1, []) := by
    simp only [fnIn, opn, ha, opOs]
  have hout : fnOut s x o = ((opL s.rin (unpk S s.otys o)).1, []) := by
    simp only [fnOut, opE, opn, hr, opOs, fixE]
  have hh : Has (unpk S s.itys x) (tysL s.ain) := ⟨tysO s.aos, by rw [unpk_has]⟩
  have := hcl (by rw [hin]; exact (opL_ok [] s.ain _ hh hw).1) (by rw [hin]; exact ⟨rfl, fun i o ho h => by simp at h⟩)
  have hc := this.hc
  rw [hin, hout] at hc
  exact hc
end
theorem ext_eq {S : DSys} {c : (i : Q S) → i.In → Option i.Out} {O : Type} (m : Option O) : interp c (topt m .done) = m := by cases m <;> rfl
end X
end HL
end
