/- HL: a call in a store of its own, made in a larger one. Nothing of a seat is named here. -/
import Derived.Test.YtamneeogomklgaaGreatHLG
set_option linter.unusedSimpArgs false
set_option linter.unusedVariables false
set_option linter.unusedSectionVars false
namespace HL
open Go
def pickO {α : Type} (i : Nat) : List Nat → List α → α → α
  | a :: as, n :: ns, x => if a = i then n else pickO i as ns x
  | _, _, x => x
def mergeGo {α : Type} (ids : List Nat) (new : List α) : Nat → List α → List α
  | _, [] => []
  | i, x :: xs => pickO i ids new x :: mergeGo ids new (i + 1) xs
def merge {α : Type} (ids : List Nat) (new old : List α) : List α := mergeGo ids new 0 old ++ new.drop ids.length
theorem pickO_not {α : Type} {i : Nat} : ∀ {ids : List Nat} {new : List α} {x : α}, i ∉ ids → pickO i ids new x = x
  | [], _, _, _ => by simp [pickO]
  | a :: as, [], _, _ => by simp [pickO]
  | a :: as, n :: ns, x, h => by
    simp only [List.mem_cons, not_or] at h
    have hne : ¬ a = i := fun e => h.1 e.symm
    rw [pickO, if_neg hne]
    exact pickO_not h.2
theorem pickO_mem {α : Type} {i : Nat} : ∀ {ids : List Nat} {new : List α} {x y : α} {j : Nat}, ids.Nodup → ids[j]? = some i → new[j]? = some y → pickO i ids new x = y
  | [], _, _, _, j, _, h, _ => by simp at h
  | a :: as, [], _, _, j, _, _, h => by simp at h
  | a :: as, n :: ns, x, y, 0, _, h, h' => by simp at h h'; subst h h'; simp [pickO]
  | a :: as, n :: ns, x, y, j + 1, hd, h, h' => by
    simp only [List.nodup_cons] at hd
    have hm : i ∈ as := List.mem_of_getElem? (by simpa using h)
    have hne : ¬ a = i := fun e => hd.1 (by rw [e]; exact hm)
    rw [pickO, if_neg hne]
    exact pickO_mem hd.2 (by simpa using h) (by simpa using h')
theorem mergeGo_get {α : Type} {ids : List Nat} {new : List α} : ∀ {xs : List α} {i0 i : Nat}, (mergeGo ids new i0 xs)[i]? = (xs[i]?).map (pickO (i0 + i) ids new)
  | [], i0, i => by simp [mergeGo]
  | x :: xs, i0, 0 => by simp [mergeGo]
  | x :: xs, i0, i + 1 => by
    rw [mergeGo, List.getElem?_cons_succ, mergeGo_get]
    simp [Nat.add_assoc, Nat.add_comm 1 i]
theorem mergeGo_len {α : Type} {ids : List Nat} {new : List α} : ∀ {xs : List α} {i0 : Nat}, (mergeGo ids new i0 xs).length = xs.length
  | [], _ => rfl
  | x :: xs, i0 => by simp [mergeGo, mergeGo_len]
theorem merge_len {α : Type} {ids : List Nat} {new old : List α} : (merge ids new old).length = old.length + (new.length - ids.length) := by
  simp [merge, mergeGo_len]
theorem merge_not {α : Type} {ids : List Nat} {new old : List α} {i : Nat} (hi : i < old.length) (h : i ∉ ids) : (merge ids new old)[i]? = old[i]? := by
  rw [merge, List.getElem?_append_left (by simpa [mergeGo_len] using hi), mergeGo_get, Nat.zero_add]
  rw [List.getElem?_eq_getElem hi]
  simp [pickO_not h]
theorem merge_mem {α : Type} {ids : List Nat} {new old : List α} {i j : Nat} {y : α} (hd : ids.Nodup) (hi : i < old.length) (h : ids[j]? = some i) (hy : new[j]? = some y) : (merge ids new old)[i]? = some y := by
  rw [merge, List.getElem?_append_left (by simpa [mergeGo_len] using hi), mergeGo_get, Nat.zero_add]
  rw [List.getElem?_eq_getElem hi]
  simp [pickO_mem hd h hy]
theorem merge_new {α : Type} {ids : List Nat} {new old : List α} {i : Nat} (hi : old.length ≤ i) : (merge ids new old)[i]? = new[ids.length + (i - old.length)]? := by
  rw [merge, List.getElem?_append_right (by simpa [mergeGo_len] using hi), mergeGo_len, List.getElem?_drop]
def outer (ids : List Nat) (n j : Nat) : Nat := if j < ids.length then at_ ids j else n + (j - ids.length)
theorem outer_lt {ids : List Nat} {n j i : Nat} (h : ids[j]? = some i) : outer ids n j = i := by
  simp [outer, get_lt h, at_get h]
section
variable {P : Program}
theorem HC.frame {f : FuncId} {args0 : List HV} {st0 st1 : St} {r0 : HV} (h : HC P f args0 st0 fun r s => r = r0 ∧ s = st1) {args : List HV} {st : St} {k : HV → St → Prop} (ids : List Nat)
    (hs : selS (at_ ids) ids st0 st) (hd : ids.Nodup) (hlt : ∀ i ∈ ids, i < st.length) (hlive : ∀ o ∈ st0, o.live.isSome = true) (ha : args = renL (at_ ids) args0) (hsc0 : ScSt st0) (hsa : ScdL st0.length args0)
    (hlen : st0.length ≤ st1.length) (hsc1 : ScSt st1) (hr1 : Scd st1.length r0)
    (hk : k (r0.ren (outer ids st.length)) (merge ids (st1.map (HO.ren (outer ids st.length))) st)) : HC P f args st k := by
  refine ⟨h.1, fun G w vs hrel hR => ?_⟩
  have hids := selS_len hs
  subst ha
  have hrel0 := hrel.sel hs hd hsc0
  have hR0 : R (selG G ids) (.vals vs args0) := unrenS hs (j := .vals vs args0) hR hsa
  refine (h.2 _ w vs hrel0 hR0).mono fun e w' ⟨v, r', st', G1, he, ⟨e1, e2⟩, r1, r2, r3⟩ => ?_
  subst e1 e2
  -- the larger store's book
  let G2 : Gh := ⟨G1.base, G1.K, merge ids G1.s G.s⟩
  have hGl := hrel.len
  have hG1l : G1.s.length = st'.length := r1.len
  have old : ∀ (j : Nat) (info : Info), (selG G ids).s[j]? = some info → ∃ i, ids[j]? = some i ∧ G.s[i]? = some info := by
    intro j info hj
    simp only [selG, List.getElem?_map, Option.map_eq_some_iff] at hj
    obtain ⟨i, hi, hj⟩ := hj
    have : i < G.s.length := by rw [hGl]; exact hlt i (List.mem_of_getElem? hi)
    rw [List.getElem?_eq_getElem this] at hj
    exact ⟨i, hi, by rw [List.getElem?_eq_getElem this]; simpa using hj⟩
  -- places of objects: untouched, handed over, new
  have place : ∀ id, id < st.length + (st'.length - ids.length) → (id < st.length ∧ id ∉ ids) ∨ ∃ j, j < st'.length ∧ outer ids st.length j = id ∧ (id < st.length → ids[j]? = some id) ∧ (st.length ≤ id → ids.length ≤ j) := by
    intro id hid
    rcases Nat.lt_or_ge id st.length with hlt' | hge
    · by_cases hm : id ∈ ids
      · obtain ⟨j, hj⟩ := List.getElem?_of_mem hm
        exact .inr ⟨j, by have := get_lt hj; omega, outer_lt hj, fun _ => hj, fun h => by omega⟩
      · exact .inl ⟨hlt', hm⟩
    · refine .inr ⟨ids.length + (id - st.length), by omega, ?_, fun h => by omega, fun _ => by omega⟩
      simp [outer, show ¬ ids.length + (id - st.length) < ids.length by omega]
      omega
  have getG : ∀ j id, j < st'.length → outer ids st.length j = id → G2.s[id]? = G1.s[j]? := by
    intro j id hj hid
    by_cases hjl : j < ids.length
    · have hg := List.getElem?_eq_getElem hjl
      rw [outer_lt hg] at hid
      subst hid
      have hlt' : j < G1.s.length := by omega
      have := merge_mem (old := G.s) hd (by rw [hGl]; exact hlt _ (List.getElem_mem _)) hg (List.getElem?_eq_getElem hlt')
      simp only [G2]
      rw [this, List.getElem?_eq_getElem hlt']
    · simp only [outer, if_neg hjl] at hid
      simp only [G2]
      rw [merge_new (by omega), hGl]
      congr 1
      omega
  have getS : ∀ j id, j < st'.length → outer ids st.length j = id → (merge ids (st'.map (HO.ren (outer ids st.length))) st)[id]? = (st'[j]?).map (HO.ren (outer ids st.length)) := by
    intro j id hj hid
    by_cases hjl : j < ids.length
    · have hg := List.getElem?_eq_getElem hjl
      rw [outer_lt hg] at hid
      subst hid
      have := merge_mem (old := st) (new := st'.map (HO.ren (outer ids st.length))) hd (hlt _ (List.getElem_mem _)) hg (y := HO.ren (outer ids st.length) st'[j]) (by simp [List.getElem?_eq_getElem hj])
      rw [this, List.getElem?_eq_getElem hj]
      rfl
    · simp only [outer, if_neg hjl] at hid
      rw [merge_new (by omega), List.getElem?_map]
      congr 2
      omega
  have keepG : ∀ id, id < st.length → id ∉ ids → G2.s[id]? = G.s[id]? := fun id h1 h2 => merge_not (by omega) h2
  have keepS : ∀ id, id < st.length → id ∉ ids → (merge ids (st'.map (HO.ren (outer ids st.length))) st)[id]? = st[id]? := fun id h1 h2 => merge_not h1 h2
  have len2 : (merge ids (st'.map (HO.ren (outer ids st.length))) st).length = st.length + (st'.length - ids.length) := by rw [merge_len]; simp
  have lenG2 : G2.s.length = st.length + (st'.length - ids.length) := by simp only [G2]; rw [merge_len, hGl, hG1l]
  -- what was known stays
  have hK : ∀ b i u, G.K b i = some u → G2.K b i = some u := r3.k
  have hsG : ∀ (id : Nat) (info : Info), G.s[id]? = some info → ∃ info', G2.s[id]? = some info' ∧ info.n ≤ info'.n ∧ info'.sz = info.sz ∧ (info'.n = info.n → info' = info) := by
    intro id info hi
    have hid : id < st.length := by rw [← hGl]; exact get_lt hi
    by_cases hm : id ∈ ids
    · obtain ⟨j, hj⟩ := List.getElem?_of_mem hm
      obtain ⟨i', g, r⟩ := r3.s j info (selG_get hj hi)
      exact ⟨i', by rw [getG j id (by have := get_lt hj; omega) (outer_lt hj)]; exact g, r⟩
    · exact ⟨info, by rw [keepG id hid hm]; exact hi, Nat.le_refl _, rfl, fun _ => rfl⟩
  have up : ∀ {j : J}, R G1 j → R G2 (j.ren (outer ids st.length)) := fun h => h.ren rfl (fun _ _ _ h => h) fun id info hi => by
    rw [getG id _ (by have := get_lt hi; omega) rfl]; exact hi
  -- blocks of objects handed over, or new
  have blkj : ∀ (j : Nat) (info : Info) (b : Nat), G1.s[j]? = some info → info.blk = some b → (∃ (i j' : Nat) (info0 : Info) (o : HO), ids[j']? = some i ∧ G.s[i]? = some info0 ∧ info0.blk = some b ∧ st[i]? = some o ∧ o.live.isSome = true) ∨ w.heap.size ≤ b := by
    intro j info b hj hb
    rcases r3.new b ⟨j, info, hj, hb⟩ with ⟨j', info', h1, h2⟩ | h1
    · obtain ⟨i, g1, g2⟩ := old j' info' h1
      have hlt' : j' < st0.length := by rw [← hids]; exact get_lt g1
      obtain ⟨i2, q1, q2⟩ := selS_get hs j' st0[j'] (List.getElem?_eq_getElem hlt')
      rw [g1] at q1
      cases q1
      have hl := hlive st0[j'] (List.getElem_mem _)
      rcases q2 with q2 | q2
      · rw [q2] at hl; simp [HO.live] at hl
      · exact .inl ⟨i, j', info', _, g1, g2, h2, q2, by rw [live_ren_some]; exact hl⟩
    · exact .inr h1
  have far : ∀ (id : Nat) (info : Info) (o : HO) (l : List HV) (m : Bool) (b : Nat), id < st.length → id ∉ ids → G.s[id]? = some info → st[id]? = some o → o.live = some (l, m) → info.blk = some b → ¬ inS (selG G ids).s b ∧ b < w.heap.size ∧ ∀ (j : Nat) (info' : Info), G1.s[j]? = some info' → info'.blk ≠ some b := by
    intro id info o l m b h1 h2 h3 h4 h5 h6
    have hblk := hrel.blk_lt h3 h4 h5 h6
    have key : ∀ (i j' : Nat) (info0 : Info) (o' : HO), ids[j']? = some i → G.s[i]? = some info0 → info0.blk = some b → st[i]? = some o' → o'.live.isSome = true → False := by
      intro i j' info0 o' q1 q2 q3 q4 q5
      exact hrel.dis id i info info0 o o' b b h3 q2 h4 q4 (by simp [h5]) q5 (fun e => h2 (e ▸ List.mem_of_getElem? q1)) h6 q3 rfl
    refine ⟨?_, hblk, fun j info' hj hb => ?_⟩
    · rintro ⟨j', info', q1, q2⟩
      obtain ⟨i, g1, g2⟩ := old j' info' q1
      have hlt' : j' < st0.length := by rw [← hids]; exact get_lt g1
      obtain ⟨i2, p1, p2⟩ := selS_get hs j' st0[j'] (List.getElem?_eq_getElem hlt')
      rw [g1] at p1
      cases p1
      have hl := hlive st0[j'] (List.getElem_mem _)
      rcases p2 with p2 | p2
      · rw [p2] at hl; simp [HO.live] at hl
      · exact key i j' info' _ g1 g2 q2 p2 (by rw [live_ren_some]; exact hl)
    · rcases blkj j info' b hj hb with ⟨i, j', info0, o', q1, q2, q3, q4, q5⟩ | q
      · exact key i j' info0 o' q1 q2 q3 q4 q5
      · omega
  have step2 : Step G w G2 w' := by
   refine ⟨r3.bs, hK, fun b i u hu => ?_, hsG, r3.os, r3.tape, r3.output, r3.size, fun k' hk' hn => r3.heap k' hk' fun hin => hn ?_, fun b => ?_⟩
   · rcases r3.kn b i u hu with g | g | ⟨j, info, h1, h2⟩
     · exact .inl g
     · exact .inr (.inl g)
     · obtain ⟨i', g1, g2⟩ := old j info h1
       exact .inr (.inr ⟨i', info, g2, h2⟩)
   · obtain ⟨j, info, h1, h2⟩ := hin
     obtain ⟨i', g1, g2⟩ := old j info h1
     exact ⟨i', info, g2, h2⟩
   · rintro ⟨id, info, h1, h2⟩
     have hid : id < st.length + (st'.length - ids.length) := by rw [← lenG2]; exact get_lt h1
     rcases place id hid with ⟨p1, p2⟩ | ⟨j, p1, p2, _, _⟩
     · rw [keepG id p1 p2] at h1
       exact .inl ⟨id, info, h1, h2⟩
     · rw [getG j id p1 p2] at h1
       rcases blkj j info b h1 h2 with ⟨i, j', info0, o', q1, q2, q3, q4, q5⟩ | q
       · exact .inl ⟨i, info0, q2, q3⟩
       · exact .inr q
  have rel2 : Rel P G2 (merge ids (st'.map (HO.ren (outer ids st.length))) st) w' := by
    refine ⟨by rw [lenG2, len2], r1.kc, fun id info o hi ho => ?_, fun id id' info info' o o' b b' h1 h2 h3 h4 h5 h6 hne h7 h8 => ?_, hrel.tab.step step2⟩
    · have hid : id < st.length + (st'.length - ids.length) := by rw [← len2]; exact get_lt ho
      rcases place id hid with ⟨p1, p2⟩ | ⟨j, p1, p2, _, _⟩
      · rw [keepG id p1 p2] at hi
        rw [keepS id p1 p2] at ho
        obtain ⟨z, f'⟩ := hrel.obj id info o hi ho
        refine ⟨z, fun l m hl => (f' l m hl).mono r3.bs hK hsG (fun b hb => ?_) fun b i hb hn => ?_⟩
        · obtain ⟨q1, q2, _⟩ := far id info o l m b p1 p2 hi ho hl hb
          exact r3.heap b q2 q1
        · obtain ⟨q1, q2, _⟩ := far id info o l m b p1 p2 hi ho hl hb
          cases hq : G2.K b i with
          | none => rfl
          | some u =>
            rcases r3.kn b i u hq with g | g | g
            · have : G.K b i = some u := g
              rw [hn] at this; cases this
            · omega
            · exact absurd g q1
      · rw [getG j id p1 p2] at hi
        rw [getS j id p1 p2, List.getElem?_eq_getElem p1] at ho
        simp only [Option.map_some, Option.some.injEq] at ho
        subst ho
        obtain ⟨z, f'⟩ := r1.obj j info _ hi (List.getElem?_eq_getElem p1)
        refine ⟨szOf_ren.2 z, fun l m hl => ?_⟩
        have hl' : ∃ l0, st'[j].live = some (l0, m) ∧ l = renL (outer ids st.length) l0 := by
          cases hq : st'[j] with
          | box v => rw [hq] at hl; simp [HO.live, HO.ren] at hl; obtain ⟨rfl, rfl⟩ := hl; exact ⟨[v], by simp [HO.live], by simp [renL]⟩
          | arr sz l0 m0 => rw [hq] at hl; simp [HO.live, HO.ren] at hl; obtain ⟨rfl, rfl⟩ := hl; exact ⟨l0, by simp [HO.live], rfl⟩
          | dead => rw [hq] at hl; simp [HO.live, HO.ren] at hl
        obtain ⟨l0, hl0, rfl⟩ := hl'
        have rl := f' l0 m hl0
        refine rl.trans (fun us hu => ?_) (renL_length _ _) (Uni_ren.2 rl.uni) ?_ (fun _ _ _ h => h) (fun _ _ => rfl) (fun _ _ _ h => h)
        · have := up hu
          rw [J.ren, ← flatL_ren] at this
          exact this
        · rw [flatL_ren, flat_renL]; exact rl.flat
    · have hid : id < st.length + (st'.length - ids.length) := by rw [← len2]; exact get_lt h3
      have hid' : id' < st.length + (st'.length - ids.length) := by rw [← len2]; exact get_lt h4
      rcases place id hid with ⟨p1, p2⟩ | ⟨j, p1, p2, _, _⟩ <;> rcases place id' hid' with ⟨p1', p2'⟩ | ⟨j', p1', p2', _, _⟩
      · rw [keepG id p1 p2] at h1; rw [keepS id p1 p2] at h3
        rw [keepG id' p1' p2'] at h2; rw [keepS id' p1' p2'] at h4
        exact hrel.dis id id' info info' o o' b b' h1 h2 h3 h4 h5 h6 hne h7 h8
      · rw [keepG id p1 p2] at h1; rw [keepS id p1 p2] at h3
        rw [getG j' id' p1' p2'] at h2
        obtain ⟨⟨l, m⟩, hl⟩ := Option.isSome_iff_exists.1 h5
        intro e
        subst e
        exact (far id info o l m b p1 p2 h1 h3 hl h7).2.2 j' info' h2 h8
      · rw [getG j id p1 p2] at h1
        rw [keepG id' p1' p2'] at h2; rw [keepS id' p1' p2'] at h4
        obtain ⟨⟨l, m⟩, hl⟩ := Option.isSome_iff_exists.1 h6
        intro e
        subst e
        exact (far id' info' o' l m b p1' p2' h2 h4 hl h8).2.2 j info h1 h7
      · rw [getG j id p1 p2] at h1
        rw [getG j' id' p1' p2'] at h2
        rw [getS j id p1 p2, List.getElem?_eq_getElem p1] at h3
        rw [getS j' id' p1' p2', List.getElem?_eq_getElem p1'] at h4
        simp only [Option.map_some, Option.some.injEq] at h3 h4
        subst h3 h4
        rw [live_ren_some] at h5 h6
        exact r1.dis j j' info info' _ _ b b' h1 h2 (List.getElem?_eq_getElem p1) (List.getElem?_eq_getElem p1') h5 h6 (fun e => hne (by subst e; rw [← p2, ← p2'])) h7 h8
  exact ⟨v, _, _, G2, he, hk, rel2, up (j := .val v r') r2, step2⟩
end
end HL
namespace HL
open Go
end HL
/-! ### what simp looks into: no further than where it stands still -/
namespace HL
open Go
@[congr] theorem oP_congr {α : Type} {o o' : Option α} {k : α → Prop} (h : o = o') : oP o k = oP o' k := by rw [h]
@[congr] theorem boolP_congr {o o' : Option HV} {k : Bool → Prop} {u : Prop} (h : o = o') : boolP o k u = boolP o' k u := by rw [h]
@[congr] theorem ptrP_congr {o o' : Option HV} {k : Nat → Nat → Nat → Nat → Prop} {u : List HV → Nat → Nat → Nat → Prop} (h : o = o') : ptrP o k u = ptrP o' k u := by rw [h]
@[congr] theorem intP_congr {o o' : Option HV} {k : IntKind → Int → Prop} (h : o = o') : intP o k = intP o' k := by rw [h]
@[congr] theorem strP_congr {o o' : Option HV} {k : ByteArray → Prop} (h : o = o') : strP o k = strP o' k := by rw [h]
@[congr] theorem fnP_congr {o o' : Option HV} {k : FuncId → List HV → List HV → Prop} (h : o = o') : fnP o k = fnP o' k := by rw [h]
@[congr] theorem slP_congr {o o' : Option HV} {a : Prop} {b : List HV → Prop} {c : Nat → Nat → Prop} (h : o = o') : slP o a b c = slP o' a b c := by rw [h]
@[congr] theorem arrP_congr {o o' : Option HO} {k : Nat → List HV → Bool → Prop} (h : o = o') : arrP o k = arrP o' k := by rw [h]
@[congr] theorem tupP_congr {o o' : Option HV} {k : List HV → Prop} (h : o = o') : tupP o k = tupP o' k := by rw [h]
@[congr] theorem aggP_congr {o o' : Option HV} {k : List HV → Prop} (h : o = o') : aggP o k = aggP o' k := by rw [h]
@[congr] theorem bP_congr {b b' : Bool} {x y : Prop} (h : b = b') : bP b x y = bP b' x y := by rw [h]
@[congr] theorem HC_congr {P : Program} {f : FuncId} {args args' : List HV} {st st' : St} {k : HV → St → Prop} (h : args = args') (h' : st = st') : HC P f args st k = HC P f args' st' k := by rw [h, h']
@[congr] theorem vcOps_congr {P : Program} {fz : Bool} {ops : List HIns} {env env' : Env} {st st' : St} {k : Env → St → Prop} (h : env = env') (h' : st = st') : vcOps P fz ops env st k = vcOps P fz ops env' st' k := by rw [h, h']
@[congr] theorem dvc_congr {P : Program} {fz : Bool} {p : DPlan} {env env' : Env} {st st' : St} {k : Env → St → Prop} (h : env = env') (h' : st = st') : dvc P fz p env st k = dvc P fz p env' st' k := by rw [h, h']
@[congr] theorem vcIns_cg {P : Program} {fz : Bool} {i : HIns} {env env' : Env} {st st' : St} {k : HV → St → Prop} (h : env = env') (h' : st = st') : vcIns P fz env st i k = vcIns P fz env' st' i k := by rw [h, h']
@[congr] theorem vcOp_cg {P : Program} {fz : Bool} {i : HOp} {env env' : Env} {st st' : St} {k : HV → St → Prop} (h : env = env') (h' : st = st') : vcOp P fz env st i k = vcOp P fz env' st' i k := by rw [h, h']
@[congr] theorem SemF_congr {P : Program} {N m : Nat} {c : HCode} {env env' : Env} {st st' : St} {Q : HExit → Env → St → Prop} (h : env = env') (h' : st = st') : SemF P N m c env st Q = SemF P N m c env' st' Q := by rw [h, h']
@[congr] theorem SemL_congr {P : Program} {N m : Nat} {c : HCode} {env env' : Env} {st st' : St} {Q : HExit → Env → St → Prop} (h : env = env') (h' : st = st') : SemL P N m c env st Q = SemL P N m c env' st' Q := by rw [h, h']
end HL
