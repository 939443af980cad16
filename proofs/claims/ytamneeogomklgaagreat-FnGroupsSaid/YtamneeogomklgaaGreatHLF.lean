/- HL: code step by step inside a call; loops by one round; objects counted anew; calls in a store of their own. Nothing of a seat is named here. -/
import Derived.Test.YtamneeogomklgaaGreatHLTac
set_option linter.unusedSimpArgs false
set_option linter.unusedVariables false
set_option linter.unusedSectionVars false
namespace HL
open Go
/-! ### a loop, round by round -/
def LoopsTo (P : Program) (c : Code) (Q : Exit → Act → World → Prop) (a : Act) (w : World) : Prop :=
  ∀ b k cs, ∃ e a' w', Q e a' w' ∧ Arrives P (lone (b.at a (.code c :: .inLoop c :: k)) cs w) b k cs e a' w'
theorem LoopsTo.step {P : Program} {c : Code} {Q : Exit → Act → World → Prop} {a : Act} {w : World} (h : c.wp P (Exit.then (LoopsTo P c Q) Q) a w) : LoopsTo P c Q a w := by
  intro b k cs
  obtain ⟨e, a₁, w₁, hq, harr⟩ := h b (.inLoop c :: k) cs
  cases e with
  | normal =>
    obtain ⟨e₂, a₂, w₂, hq₂, harr₂⟩ := hq b k cs
    exact ⟨e₂, a₂, w₂, hq₂, .of_steps (Steps.trans harr (.one step_inLoop)) harr₂⟩
  | exit id => exact ⟨_, a₁, w₁, hq, .pass (x := .inLoop c) rfl (fun _ _ => .inl (by simp)) harr⟩
  | goto l => exact ⟨_, a₁, w₁, hq, .pass (x := .inLoop c) rfl (fun _ _ => .inl (by simp)) harr⟩
  | ret => exact ⟨_, a₁, w₁, hq, .pass (x := .inLoop c) rfl (fun _ _ => .inl (by simp)) harr⟩
  | panic ch => exact ⟨_, a₁, w₁, hq, .pass (x := .inLoop c) rfl (fun _ _ => .inl (by simp)) harr⟩
  | outgrown => exact ⟨_, a₁, w₁, hq, .pass (x := .inLoop c) rfl (fun _ _ => .inl (by simp)) harr⟩
theorem LoopsTo.loop {P : Program} {c : Code} {Q : Exit → Act → World → Prop} {a : Act} {w : World} (h : LoopsTo P c Q a w) : (Code.loop c).wp P Q a w := by
  intro b k cs
  obtain ⟨e, a', w', hq, harr⟩ := h b k cs
  exact ⟨e, a', w', hq, .of_steps (.one step_loop) harr⟩
/-! ### numbers of objects -/
mutual
def HV.ren (σ : Nat → Nat) : HV → HV
  | .ptr id n i off => .ptr (σ id) n i off
  | .own id n => .own (σ id) n
  | .otl id n i => .otl (σ id) n i
  | .eptr l sz i off => .eptr (renL σ l) sz i off
  | .sl l => .sl (renL σ l)
  | .fl f l => .fl f (renL σ l)
  | .agg l => .agg (renL σ l)
  | .tup l => .tup (renL σ l)
  | .fn f a b => .fn f (renL σ a) (renL σ b)
  | .int k n => .int k n
  | .bool b => .bool b
  | .str s => .str s
  | .nilp => .nilp
  | .nils => .nils
  | .nilf => .nilf
def renL (σ : Nat → Nat) : List HV → List HV
  | [] => []
  | x :: l => x.ren σ :: renL σ l
end
theorem renL_map (σ : Nat → Nat) : ∀ l, renL σ l = l.map (HV.ren σ)
  | [] => rfl
  | x :: l => by simp [renL, renL_map σ l]
theorem renL_append (σ : Nat → Nat) (l l' : List HV) : renL σ (l ++ l') = renL σ l ++ renL σ l' := by simp [renL_map]
theorem renL_length (σ : Nat → Nat) (l : List HV) : (renL σ l).length = l.length := by simp [renL_map]
theorem cells_ren (σ : Nat → Nat) (h : HV) : (h.ren σ).cells = renL σ h.cells := by
  cases h <;> simp [HV.ren, HV.cells, renL]
theorem flatL_ren (σ : Nat → Nat) (l : List HV) : flatL (renL σ l) = renL σ (flatL l) := by
  induction l with
  | nil => rfl
  | cons x l ih =>
    simp only [flatL] at ih
    simp only [renL, flatL, List.flatMap_cons, renL_append, cells_ren, ih]
theorem flat_ren (σ : Nat → Nat) (h : HV) : (h.ren σ).flat = h.flat := by cases h <;> rfl
theorem flat_renL {σ : Nat → Nat} {l : List HV} : (∀ c ∈ renL σ l, c.flat = true) ↔ ∀ c ∈ l, c.flat = true := by
  simp [renL_map, flat_ren]
theorem Uni_ren {σ : Nat → Nat} {sz : Nat} {l : List HV} : Uni sz (renL σ l) ↔ Uni sz l := by
  simp [Uni, renL_map, cells_ren]
def J.ren (σ : Nat → Nat) : J → J
  | .val v h => .val v (h.ren σ)
  | .vals vs hs => .vals vs (renL σ hs)
theorem R.ren {G G' : Gh} {σ : Nat → Nat} {j : J} (h : R G j) (hbs : G'.base = G.base) (hk : ∀ b i u, G.K b i = some u → G'.K b i = some u) (hs : ∀ id info, G.s[id]? = some info → G'.s[σ id]? = some info) : R G' (j.ren σ) := by
  induction h with
  | int => exact .int
  | bool => exact .bool
  | str h => exact .str h
  | nilp => exact .nilp
  | nils => exact .nils
  | nilf => exact .nilf
  | ptr hi hn hp => exact .ptr (hs _ _ hi) hn hp
  | own hi hn hp => exact .own (hs _ _ hi) hn hp
  | otl hi hn hp => exact .otl (hs _ _ hi) hn hp
  | sl us hu _ hk' hf hc hn hl ih =>
    exact .sl us (Uni_ren.2 hu) (by rw [flatL_ren]; exact ih) (fun k u h => hk _ _ _ (hk' k u h)) (by rw [flatL_ren]; exact flat_renL.2 hf) (by rw [renL_length]; exact hc) (by rw [renL_length]; exact hn) (by rw [renL_length]; exact hl)
  | sl0 => exact .sl0
  | fl us hu _ hk' hf hc hn hl hbb ih =>
    exact .fl us (Uni_ren.2 hu) (by rw [flatL_ren]; exact ih) (fun k u h => hk _ _ _ (hk' k u h)) (by rw [flatL_ren]; exact flat_renL.2 hf) (by rw [renL_length]; exact hc) (by rw [renL_length]; exact hn) (by rw [renL_length]; exact hl) (by rw [hbs]; exact hbb)
  | fl0 => exact .fl0
  | eptr us hu _ hk' hf hp ih => exact .eptr us (Uni_ren.2 hu) (by rw [flatL_ren]; exact ih) (fun k u h => hk _ _ _ (hk' k u h)) (by rw [flatL_ren]; exact flat_renL.2 hf) hp
  | agg hf _ ih => exact .agg (flat_renL.2 hf) ih
  | tup _ ih => exact .tup ih
  | fn _ _ ih1 ih2 => exact .fn ih1 ih2
  | vnil => exact .vnil
  | vcons _ _ ih1 ih2 => exact .vcons ih1 ih2
theorem renL_nil {σ : Nat → Nat} {l : List HV} (h : renL σ l = []) : l = [] := by cases l <;> simp_all [renL]
theorem renL_cons {σ : Nat → Nat} {l : List HV} {x : HV} {r : List HV} (h : renL σ l = x :: r) : ∃ y t, l = y :: t ∧ x = y.ren σ ∧ r = renL σ t := by
  cases l with
  | nil => simp [renL] at h
  | cons y t => simp only [renL, List.cons.injEq] at h; exact ⟨y, t, rfl, h.1.symm, h.2.symm⟩
theorem R.unren {G G' : Gh} {σ : Nat → Nat} {n : Nat} (hbs : G'.base = G.base) (hk : ∀ b i u, G.K b i = some u → G'.K b i = some u) (hs : ∀ id, id < n → ∀ info, G.s[σ id]? = some info → G'.s[id]? = some info) {j0 : J} (h : R G j0) :
    ∀ {j : J}, j0 = j.ren σ → ScdJ n j → R G' j := by
  induction h with
  | vnil =>
    intro j hj _
    cases j with
    | val v x => cases hj
    | vals vs l => simp only [J.ren, J.vals.injEq] at hj; obtain ⟨rfl, h⟩ := hj; rw [renL_nil h.symm]; exact .vnil
  | vcons _ _ ih1 ih2 =>
    intro j hj hc
    cases j with
    | val v x => cases hj
    | vals vs l =>
      simp only [J.ren, J.vals.injEq] at hj
      obtain ⟨rfl, h⟩ := hj
      obtain ⟨y, t, rfl, h1, h2⟩ := renL_cons h.symm
      simp only [ScdJ, ScdL] at hc
      exact .vcons (ih1 (j := .val _ y) (by rw [J.ren, h1]) hc.1) (ih2 (j := .vals _ t) (by rw [J.ren, h2]) hc.2)
  | int => intro j hj _; cases j with
    | val v x => cases x <;> simp [J.ren, HV.ren] at hj; obtain ⟨rfl, rfl, rfl⟩ := hj; exact .int
    | vals vs l => cases hj
  | bool => intro j hj _; cases j with
    | val v x => cases x <;> simp [J.ren, HV.ren] at hj; obtain ⟨rfl, rfl⟩ := hj; exact .bool
    | vals vs l => cases hj
  | str hl => intro j hj _; cases j with
    | val v x => cases x <;> simp [J.ren, HV.ren] at hj; obtain ⟨rfl, rfl⟩ := hj; exact .str hl
    | vals vs l => cases hj
  | nilp => intro j hj _; cases j with
    | val v x => cases x <;> simp [J.ren, HV.ren] at hj; subst hj; exact .nilp
    | vals vs l => cases hj
  | nils => intro j hj _; cases j with
    | val v x => cases x <;> simp [J.ren, HV.ren] at hj; subst hj; exact .nils
    | vals vs l => cases hj
  | nilf => intro j hj _; cases j with
    | val v x => cases x <;> simp [J.ren, HV.ren] at hj; subst hj; exact .nilf
    | vals vs l => cases hj
  | ptr hi hn hp => intro j hj hc; cases j with
    | val v x =>
      cases x <;> simp [J.ren, HV.ren] at hj
      obtain ⟨rfl, rfl, rfl, rfl, rfl⟩ := hj
      exact .ptr (hs _ (by simpa [ScdJ, Scd] using hc) _ hi) hn hp
    | vals vs l => cases hj
  | own hi hn hp => intro j hj hc; cases j with
    | val v x =>
      cases x <;> simp [J.ren, HV.ren] at hj
      obtain ⟨rfl, rfl, rfl⟩ := hj
      exact .own (hs _ (by simpa [ScdJ, Scd] using hc) _ hi) hn hp
    | vals vs l => cases hj
  | otl hi hn hp => intro j hj hc; cases j with
    | val v x =>
      cases x <;> simp [J.ren, HV.ren] at hj
      obtain ⟨rfl, rfl, rfl, rfl⟩ := hj
      exact .otl (hs _ (by simpa [ScdJ, Scd] using hc) _ hi) hn hp
    | vals vs l => cases hj
  | sl us hu _ hk' hf hcap hn hl ih => intro j hj hc; cases j with
    | val v x =>
      cases x <;> simp [J.ren, HV.ren] at hj
      rename_i l'
      obtain ⟨rfl, rfl⟩ := hj
      simp only [ScdJ, Scd] at hc
      rw [renL_length] at hcap hn hl
      rw [flatL_ren, flat_renL] at hf
      exact .sl us (Uni_ren.1 hu) (ih (j := .vals us (flatL l')) (by rw [J.ren, flatL_ren]) (ScdL_flat hc)) (fun k u h => hk _ _ _ (hk' k u h)) hf hcap hn hl
    | vals vs l => cases hj
  | sl0 => intro j hj _; cases j with
    | val v x =>
      cases x <;> simp [J.ren, HV.ren] at hj
      obtain ⟨rfl, h⟩ := hj
      rw [renL_nil h]
      exact .sl0
    | vals vs l => cases hj
  | fl us hu _ hk' hf hcap hn hl hbb ih => intro j hj hc; cases j with
    | val v x =>
      cases x <;> simp [J.ren, HV.ren] at hj
      rename_i _ l'
      obtain ⟨rfl, rfl, rfl⟩ := hj
      simp only [ScdJ, Scd] at hc
      rw [renL_length] at hcap hn hl
      rw [flatL_ren, flat_renL] at hf
      exact .fl us (Uni_ren.1 hu) (ih (j := .vals us (flatL l')) (by rw [J.ren, flatL_ren]) (ScdL_flat hc)) (fun k u h => hk _ _ _ (hk' k u h)) hf hcap hn hl (by rw [hbs]; exact hbb)
    | vals vs l => cases hj
  | fl0 => intro j hj _; cases j with
    | val v x =>
      cases x <;> simp [J.ren, HV.ren] at hj
      obtain ⟨rfl, rfl, h⟩ := hj
      rw [renL_nil h]
      exact .fl0
    | vals vs l => cases hj
  | eptr us hu _ hk' hf hp ih => intro j hj hc; cases j with
    | val v x =>
      cases x <;> simp [J.ren, HV.ren] at hj
      rename_i l' _ _ _
      obtain ⟨rfl, rfl, rfl, rfl, rfl⟩ := hj
      simp only [ScdJ, Scd] at hc
      rw [flatL_ren, flat_renL] at hf
      exact .eptr us (Uni_ren.1 hu) (ih (j := .vals us (flatL l')) (by rw [J.ren, flatL_ren]) (ScdL_flat hc)) (fun k u h => hk _ _ _ (hk' k u h)) hf hp
    | vals vs l => cases hj
  | agg hf _ ih => intro j hj hc; cases j with
    | val v x =>
      cases x <;> simp [J.ren, HV.ren] at hj
      rename_i l'
      obtain ⟨rfl, rfl⟩ := hj
      exact .agg (flat_renL.1 hf) (ih (j := .vals _ l') rfl (by simpa [ScdJ, Scd] using hc))
    | vals vs l => cases hj
  | tup _ ih => intro j hj hc; cases j with
    | val v x =>
      cases x <;> simp [J.ren, HV.ren] at hj
      rename_i l'
      obtain ⟨rfl, rfl⟩ := hj
      exact .tup (ih (j := .vals _ l') rfl (by simpa [ScdJ, Scd] using hc))
    | vals vs l => cases hj
  | fn _ _ ih1 ih2 => intro j hj hc; cases j with
    | val v x =>
      cases x <;> simp [J.ren, HV.ren] at hj
      rename_i _ l1 l2
      obtain ⟨rfl, rfl, rfl, rfl⟩ := hj
      simp only [ScdJ, Scd] at hc
      exact .fn (ih1 (j := .vals _ l1) rfl hc.1) (ih2 (j := .vals _ l2) rfl hc.2)
    | vals vs l => cases hj
def HO.ren (σ : Nat → Nat) : HO → HO
  | .box v => .box (v.ren σ)
  | .arr sz l m => .arr sz (renL σ l) m
  | .dead => .dead
theorem live_ren {σ : Nat → Nat} {o : HO} {l : List HV} {m : Bool} (h : o.live = some (l, m)) : (o.ren σ).live = some (renL σ l, m) := by
  cases o <;> simp [HO.live, HO.ren, renL] at h ⊢
  · obtain ⟨rfl, rfl⟩ := h; simp [renL]
  · obtain ⟨rfl, rfl⟩ := h; simp
theorem live_ren_some {σ : Nat → Nat} {o : HO} : (o.ren σ).live.isSome = o.live.isSome := by
  cases o <;> rfl
theorem szOf_ren {σ : Nat → Nat} {o : HO} {n : Nat} : szOf (o.ren σ) n ↔ szOf o n := by
  cases o <;> simp [szOf, HO.ren, cells_ren, renL_length]
theorem RLive.trans {G G' : Gh} {w w' : World} {info : Info} {l l' : List HV} {m : Bool} (h : RLive G w info l m) (hr : ∀ us, R G (.vals us (flatL l)) → R G' (.vals us (flatL l'))) (hl : l'.length = l.length)
    (hu : Uni info.sz l') (hf : ∀ c ∈ flatL l', c.flat = true) (hk : ∀ b i u, G.K b i = some u → G'.K b i = some u) (hh : ∀ b, info.blk = some b → w'.heap[b]? = w.heap[b]?) (hn : ∀ b i, info.blk = some b → G.K b i = none → G'.K b i = none) : RLive G' w' info l' m where
  n := by rw [hl]; exact h.n
  cap := by rw [hl]; exact h.cap
  lm := by rw [hl]; exact h.lm
  uni := hu
  flat := hf
  nil := h.nil
  row b hb := by
    obtain ⟨c, t, us, h1, h2, h3, h4, h5, h6, h7⟩ := h.row b hb
    refine ⟨c, t, us, (hh b hb).trans h1, h2, hr us h3, h4, fun k a1 a2 => hn _ _ hb (h5 k (by rw [hl] at a1; exact a1) a2), fun hm k a => hn _ _ hb (h6 hm k (by rw [hl] at a; exact a)), fun hm k u a => hk _ _ _ (h7 hm k u a)⟩
def at_ (sel : List Nat) (j : Nat) : Nat := sel.getD j 0
def selS (σ : Nat → Nat) : List Nat → St → St → Prop
  | [], [], _ => True
  | i :: is, o :: os, st => (o = .dead ∨ st[i]? = some (o.ren σ)) ∧ selS σ is os st
  | _, _, _ => False
theorem selS_len {σ : Nat → Nat} : ∀ {is : List Nat} {S st : St}, selS σ is S st → is.length = S.length
  | [], [], _, _ => rfl
  | i :: is, o :: os, st, h => by simp [selS_len h.2]
theorem selS_get {σ : Nat → Nat} : ∀ {is : List Nat} {S st : St}, selS σ is S st → ∀ (j : Nat) (o : HO), S[j]? = some o → ∃ i, is[j]? = some i ∧ (o = .dead ∨ st[i]? = some (o.ren σ))
  | [], [], _, _, j, o, h => by simp at h
  | i :: is, o' :: os, st, h, 0, o, ho => by simp at ho; subst ho; exact ⟨i, rfl, h.1⟩
  | i :: is, o' :: os, st, h, j + 1, o, ho => by simpa using selS_get h.2 j o (by simpa using ho)
def selG (G : Gh) (sel : List Nat) : Gh := ⟨G.base, G.K, sel.map fun i => (G.s[i]?).getD ⟨none, 0, 0, 0⟩⟩
theorem selG_get {G : Gh} {sel : List Nat} {j i : Nat} {info : Info} (hj : sel[j]? = some i) (hi : G.s[i]? = some info) : (selG G sel).s[j]? = some info := by
  simp [selG, hj, hi]
theorem at_get {sel : List Nat} {j i : Nat} (h : sel[j]? = some i) : at_ sel j = i := by simp [at_, h]
theorem inS_selG {G : Gh} {sel : List Nat} {b : Nat} (h : inS (selG G sel).s b) : inS G.s b := by
  obtain ⟨j, info, h1, h2⟩ := h
  simp only [selG, List.getElem?_map, Option.map_eq_some_iff] at h1
  obtain ⟨i, h3, h4⟩ := h1
  cases hq : G.s[i]? with
  | none => rw [hq] at h4; simp at h4; subst h4; simp at h2
  | some q => rw [hq] at h4; simp at h4; subst h4; exact ⟨i, q, hq, h2⟩
theorem Rel.sel {P : Program} {G : Gh} {st S : St} {w : World} {sel : List Nat} (h : Rel P G st w) (hS : selS (at_ sel) sel S st) (hd : sel.Nodup) (hsc : ScSt S) : Rel P (selG G sel) S w := by
  have hlen := selS_len hS
  have back : ∀ {n : Nat}, n ≤ S.length → ∀ id, id < n → ∀ info, G.s[at_ sel id]? = some info → (selG G sel).s[id]? = some info := by
    intro n hn id hid info hi
    have : id < sel.length := by omega
    have hg := List.getElem?_eq_getElem this
    rw [at_get hg] at hi
    exact selG_get hg hi
  have get : ∀ {j : Nat} {info : Info} {o : HO}, (selG G sel).s[j]? = some info → S[j]? = some o → o ≠ .dead → ∃ i, sel[j]? = some i ∧ G.s[i]? = some info ∧ st[i]? = some (o.ren (at_ sel)) := by
    intro j info o hi ho hnd
    obtain ⟨i, h1, h2⟩ := selS_get hS j o ho
    rcases h2 with h2 | h2
    · exact absurd h2 hnd
    obtain ⟨info', hi'⟩ := h.get h2
    rw [selG_get h1 hi'] at hi
    cases hi
    exact ⟨i, h1, hi', h2⟩
  refine ⟨by simp [selG, hlen], h.kc, fun j info o hi ho => ?_, fun j j' info info' o o' b b' h1 h2 h3 h4 h5 h6 hne h7 h8 => ?_, h.tab.of rfl (Nat.le_refl _) (fun _ _ _ => rfl) fun b hb => .inl (inS_selG hb)⟩
  · by_cases hnd : o = .dead
    · subst hnd; exact ⟨trivial, fun l m hl => by simp [HO.live] at hl⟩
    obtain ⟨i, h1, h2, h3⟩ := get hi ho hnd
    obtain ⟨z, f⟩ := h.obj i info _ h2 h3
    refine ⟨szOf_ren.1 z, fun l m hl => ?_⟩
    have rl := f _ _ (live_ren hl)
    have hscl : ScdL S.length l := by
      have := hsc o (List.mem_of_getElem? ho)
      cases o with
      | box v => simp [HO.live] at hl; obtain ⟨rfl, _⟩ := hl; simpa [ScdL, ScdO] using this
      | arr sz l' m' => simp [HO.live] at hl; obtain ⟨rfl, _⟩ := hl; exact this
      | dead => simp [HO.live] at hl
    refine rl.trans (fun us hu => ?_) (renL_length _ _).symm (Uni_ren.1 rl.uni) ?_ (fun _ _ _ h => h) (fun _ _ => rfl) (fun _ _ _ h => h)
    · exact R.unren (G := G) (G' := selG G sel) (n := S.length) (σ := at_ sel) rfl (fun _ _ _ h => h) (back (Nat.le_refl _)) hu (j := .vals us (flatL l)) (by rw [J.ren, flatL_ren]) (ScdL_flat hscl)
    · have := rl.flat
      rwa [flatL_ren, flat_renL] at this
  · obtain ⟨i, a1, a2, a3⟩ := get h1 h3 (by rintro rfl; simp [HO.live] at h5)
    obtain ⟨i', b1, b2, b3⟩ := get h2 h4 (by rintro rfl; simp [HO.live] at h6)
    refine h.dis i i' info info' _ _ b b' a2 b2 a3 b3 (by rw [live_ren_some]; exact h5) (by rw [live_ren_some]; exact h6) ?_ h7 h8
    intro e
    subst e
    have l1 := get_lt a1
    have l2 := get_lt b1
    have e1 := (List.getElem?_eq_some_iff.1 a1).2
    have e2 := (List.getElem?_eq_some_iff.1 b1).2
    rcases Nat.lt_trichotomy j j' with hlt | heq | hgt
    · exact (List.pairwise_iff_getElem.1 hd) j j' l1 l2 hlt (e1.trans e2.symm)
    · exact hne heq
    · exact (List.pairwise_iff_getElem.1 hd) j' j l2 l1 hgt (e2.trans e1.symm)
def subR (σ : Nat → Nat) : Env → Env → Prop
  | [], _ => True
  | (n, h) :: r, env => lk env n = some (h.ren σ) ∧ subR σ r env
theorem unrenS {G : Gh} {st S : St} {sel : List Nat} (hS : selS (at_ sel) sel S st) {j : J} (hR : R G (j.ren (at_ sel))) (hc : ScdJ S.length j) : R (selG G sel) j := by
  refine R.unren (G := G) (G' := selG G sel) (n := S.length) (σ := at_ sel) rfl (fun _ _ _ h => h) (fun id hid info hi => ?_) hR rfl hc
  have : id < sel.length := by rw [selS_len hS]; exact hid
  have hg := List.getElem?_eq_getElem this
  rw [at_get hg] at hi
  exact selG_get hg hi
theorem sel_fix {m : Nat} {sel : List Nat} (h : sel.take m = List.range m) {j : Nat} (hj : j < m) : sel[j]? = some j := by
  have : (sel.take m)[j]? = (List.range m)[j]? := by rw [h]
  rw [List.getElem?_take_of_lt hj] at this
  rw [this]
  simp [hj]
theorem Step.sel {G0 G : Gh} {w0 w : World} {m : Nat} {sel : List Nat} (h : Step G0 w0 G w) (hm : G0.s.length = m) (hf : sel.take m = List.range m) : Step G0 w0 (selG G sel) w where
  bs := h.bs
  k := h.k
  kn := h.kn
  s id info hi := by
    obtain ⟨i', g, r⟩ := h.s id info hi
    exact ⟨i', selG_get (sel_fix hf (hm ▸ get_lt hi)) g, r⟩
  os := h.os
  tape := h.tape
  output := h.output
  size := h.size
  heap := h.heap
  new b := by
    rintro ⟨j, info, hj, hb⟩
    simp only [selG, List.getElem?_map, Option.map_eq_some_iff] at hj
    obtain ⟨i, _, rfl⟩ := hj
    cases hg : G.s[i]? with
    | none => rw [hg] at hb; cases hb
    | some info' => rw [hg] at hb; exact h.new b ⟨i, info', hg, hb⟩
/-! ### code -/
section
variable {P : Program} {N m : Nat} {env E : Env} {st S : St} {Q : HExit → Env → St → Prop}
def SemL (P : Program) (N m : Nat) (hc : HCode) (env : Env) (st : St) (Q : HExit → Env → St → Prop) : Prop :=
  ∀ code, strip P N code = some hc → ∀ G0 w0 G w a (Q' : Exit → Act → World → Prop), G0.s.length = m → Step G0 w0 G w → Rel P G st w → REnv N G a env →
    (∀ e env' st' G' a' w', e ≠ .normal → Q e env' st' → Rel P G' st' w' → REnv N G' a' env' → Step G0 w0 G' w' → Q' e.low a' w') → LoopsTo P code Q' a w
def seqQ (P : Program) (N m : Nat) (b : HCode) (Q : HExit → Env → St → Prop) : HExit → Env → St → Prop
  | .normal, env, st => SemF P N m b env st Q
  | .exit i, env, st => Q (.exit i) env st
  | .ret, env, st => Q .ret env st
def blkQ (id : Nat) (Q : HExit → Env → St → Prop) : HExit → Env → St → Prop
  | .normal, env, st => Q .normal env st
  | .exit i, env, st => if i = id then Q .normal env st else Q (.exit i) env st
  | .ret, env, st => Q .ret env st
def loopQ (P : Program) (N m : Nat) (c : HCode) (Q : HExit → Env → St → Prop) : HExit → Env → St → Prop
  | .normal, env, st => SemL P N m c env st Q
  | .exit i, env, st => Q (.exit i) env st
  | .ret, env, st => Q .ret env st
theorem SemF.reg (fz : Bool) {hc : HCode} {ops : List HIns} (e : hc = .reg ops) (h : vcOps P fz ops env st (Q .normal)) : SemF P N m hc env st Q := by
  subst e
  exact (vc_sound (fz := fz) h : Sem P N (.reg ops) env st Q).toF
theorem SemF.dreg (fz : Bool) {hc : HCode} {p : DPlan} (e : hc = .dreg p) (h : dvc P fz p env st (Q .normal)) : SemF P N m hc env st Q := by
  subst e
  exact (vc_sound (fz := fz) h : Sem P N (.dreg p) env st Q).toF
theorem SemF.skip {hc : HCode} (e : hc = .skip) (h : Q .normal env st) : SemF P N m hc env st Q := by
  subst e
  exact (vc_sound (fz := true) h : Sem P N .skip env st Q).toF
theorem SemF.exit {hc : HCode} {i : Nat} (e : hc = .exit i) (h : Q (.exit i) env st) : SemF P N m hc env st Q := by
  subst e
  exact (vc_sound (fz := true) h : Sem P N (.exit i) env st Q).toF
theorem SemF.ret {hc : HCode} (e : hc = .ret) (h : Q .ret env st) : SemF P N m hc env st Q := by
  subst e
  exact (vc_sound (fz := true) h : Sem P N .ret env st Q).toF
theorem strip_seq {code : Code} {a b : HCode} (h : strip P N code = some (.seq a b)) : ∃ x y, code = .seq x y ∧ strip P N x = some a ∧ strip P N y = some b := by
  cases code with
  | seq x y =>
    simp only [strip, Option.bind_eq_bind, Option.bind_eq_some_iff, Option.pure_def] at h
    obtain ⟨hx, h1, hy, h2, h⟩ := h
    cases h
    exact ⟨x, y, rfl, h1, h2⟩
  | region i o d =>
    cases d <;> simp only [strip] at h
    · cases h
    · split at h
      · simp only [Option.map_eq_some_iff] at h; obtain ⟨_, _, h⟩ := h; cases h
      · cases h
  | cond c x y =>
    simp only [strip, Option.bind_eq_bind, Option.bind_eq_some_iff, Option.pure_def] at h
    obtain ⟨_, _, _, _, _, _, h⟩ := h
    cases h
  | block i x => simp only [strip, Option.map_eq_some_iff] at h; obtain ⟨_, _, h⟩ := h; cases h
  | loop x => simp only [strip, Option.map_eq_some_iff] at h; obtain ⟨_, _, h⟩ := h; cases h
  | _ => simp [strip] at h
theorem SemF.seq {hc a b : HCode} (e : hc = .seq a b) (h : SemF P N m a env st (seqQ P N m b Q)) : SemF P N m hc env st Q := by
  subst e
  intro code hs G0 w0 G w act Q' hm hst hr he hQ
  obtain ⟨x, y, rfl, h1, h2⟩ := strip_seq hs
  refine wp_seq (h x h1 G0 w0 G w act _ hm hst hr he fun e env' st' G' a' w' q r1 r2 r3 => ?_)
  cases e with
  | normal => exact q y h2 G0 w0 G' w' a' Q' hm r3 r1 r2 hQ
  | exit id => exact hQ _ _ _ _ _ _ q r1 r2 r3
  | ret => exact hQ _ _ _ _ _ _ q r1 r2 r3
theorem strip_block {code : Code} {i : Nat} {a : HCode} (h : strip P N code = some (.block i a)) : ∃ x, code = .block i x ∧ strip P N x = some a := by
  cases code with
  | block i x => simp only [strip, Option.map_eq_some_iff] at h; obtain ⟨_, h1, h⟩ := h; cases h; exact ⟨x, rfl, h1⟩
  | region i o d =>
    cases d <;> simp only [strip] at h
    · cases h
    · split at h
      · simp only [Option.map_eq_some_iff] at h; obtain ⟨_, _, h⟩ := h; cases h
      · cases h
  | cond c x y =>
    simp only [strip, Option.bind_eq_bind, Option.bind_eq_some_iff, Option.pure_def] at h
    obtain ⟨_, _, _, _, _, _, h⟩ := h
    cases h
  | seq x y =>
    simp only [strip, Option.bind_eq_bind, Option.bind_eq_some_iff, Option.pure_def] at h
    obtain ⟨_, _, _, _, h⟩ := h
    cases h
  | loop x => simp only [strip, Option.map_eq_some_iff] at h; obtain ⟨_, _, h⟩ := h; cases h
  | _ => simp [strip] at h
theorem SemF.block {hc c : HCode} {id : Nat} (e : hc = .block id c) (h : SemF P N m c env st (blkQ id Q)) : SemF P N m hc env st Q := by
  subst e
  intro code hs G0 w0 G w act Q' hm hst hr he hQ
  obtain ⟨x, rfl, h1⟩ := strip_block hs
  refine wp_block (h x h1 G0 w0 G w act _ hm hst hr he fun e env' st' G' a' w' q r1 r2 r3 => ?_)
  cases e with
  | normal => exact hQ .normal _ _ _ _ _ q r1 r2 r3
  | exit i =>
    simp only [HExit.low, Exit.inBlock]
    simp only [blkQ] at q
    split
    · rename_i e; rw [if_pos e] at q; exact hQ .normal _ _ _ _ _ q r1 r2 r3
    · rename_i e; rw [if_neg e] at q; exact hQ (.exit i) _ _ _ _ _ q r1 r2 r3
  | ret => exact hQ _ _ _ _ _ _ q r1 r2 r3
theorem strip_cond {code : Code} {c : HArg} {a b : HCode} (h : strip P N code = some (.cond c a b)) : ∃ o x y, code = .cond o x y ∧ arg o = some c ∧ strip P N x = some a ∧ strip P N y = some b := by
  cases code with
  | cond o x y =>
    simp only [strip, Option.bind_eq_bind, Option.bind_eq_some_iff, Option.pure_def] at h
    obtain ⟨_, h0, _, h1, _, h2, h⟩ := h
    cases h
    exact ⟨o, x, y, rfl, h0, h1, h2⟩
  | region i o d =>
    cases d <;> simp only [strip] at h
    · cases h
    · split at h
      · simp only [Option.map_eq_some_iff] at h; obtain ⟨_, _, h⟩ := h; cases h
      · cases h
  | seq x y =>
    simp only [strip, Option.bind_eq_bind, Option.bind_eq_some_iff, Option.pure_def] at h
    obtain ⟨_, _, _, _, h⟩ := h
    cases h
  | block i x => simp only [strip, Option.map_eq_some_iff] at h; obtain ⟨_, _, h⟩ := h; cases h
  | loop x => simp only [strip, Option.map_eq_some_iff] at h; obtain ⟨_, _, h⟩ := h; cases h
  | _ => simp [strip] at h
theorem SemF.cond {hc a b : HCode} {c : HArg} (e : hc = .cond c a b) (h : boolP (ev env c) (fun t => bP t (SemF P N m a env st Q) (SemF P N m b env st Q)) False) : SemF P N m hc env st Q := by
  subst e
  intro code hs G0 w0 G w act Q' hm hst hr he hQ
  obtain ⟨o, x, y, rfl, h0, h1, h2⟩ := strip_cond hs
  unfold boolP at h
  split at h
  · rename_i t ht
    have hcv : act.eval o = .bool t := by
      have r := he.ev h0 ht
      cases hx' : act.eval o <;> rw [hx'] at r <;> cases r
      rfl
    cases t with
    | true => exact wp_cond_true hcv (h.1 rfl x h1 G0 w0 G w act Q' hm hst hr he hQ)
    | false => exact wp_cond_false hcv (h.2 rfl y h2 G0 w0 G w act Q' hm hst hr he hQ)
  · exact h.elim
  · exact h.elim
theorem SemF.loop {hc c : HCode} (e : hc = .loop c) (h : SemL P N m c env st Q) : SemF P N m hc env st Q := by
  subst e
  intro code hs G0 w0 G w act Q' hm hst hr he hQ
  obtain ⟨x, rfl, h1⟩ := strip_loop hs
  exact (h x h1 G0 w0 G w act Q' hm hst hr he fun e env' st' G' a' w' _ q r1 r2 r3 => hQ e env' st' G' a' w' q r1 r2 r3).loop
theorem SemL.round {c : HCode} (h : SemF P N m c env st (loopQ P N m c Q)) : SemL P N m c env st Q := by
  intro code hs G0 w0 G w act Q' hm hst hr he hQ
  refine LoopsTo.step (h code hs G0 w0 G w act _ hm hst hr he fun e env' st' G' a' w' q r1 r2 r3 => ?_)
  cases e with
  | normal => exact q code hs G0 w0 G' w' a' Q' hm r3 r1 r2 hQ
  | exit id => exact hQ _ _ _ _ _ _ (by simp) q r1 r2 r3
  | ret => exact hQ _ _ _ _ _ _ (by simp) q r1 r2 r3
/-! ### a function -/
end
end HL
