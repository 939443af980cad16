/- Groups: what is taken, round by round. No program in sight. -/
import Derived.Test.YtamneeogomklgaaGreatGGraph
set_option linter.unusedSimpArgs false
set_option linter.unusedVariables false
set_option linter.unusedSectionVars false
section
namespace W
namespace Q
set_option linter.unusedSectionVars false
variable {α : Type} [DecidableEq α]
theorem countP_lt {ns : List α} {p q : α → Bool} (h : ∀ x ∈ ns, p x = true → q x = true) {a : α} (ha : a ∈ ns) (hq : q a = true) (hp : p a = false) : ns.countP p < ns.countP q := by
  induction ns with
  | nil => cases ha
  | cons x l ih =>
    have hx := h x (by simp)
    have hl := fun y hy => h y (List.mem_cons_of_mem _ hy)
    have hle : l.countP p ≤ l.countP q := List.countP_mono_left hl
    rw [List.countP_cons, List.countP_cons]
    rcases List.mem_cons.1 ha with rfl | ha
    · rw [hq, hp]; simp; omega
    · have := ih hl ha
      cases e : p x with
      | true => rw [hx e]; simp; omega
      | false => cases q x <;> simp <;> omega
structure Web (ns : List α) (E R : α → α → Bool) : Prop where
  nd : ns.Nodup
  mem : ∀ a b, E a b = true → a ∈ ns ∧ b ∈ ns
  rch : ∀ a b, R a b = true ↔ Rch (fun a b => E a b = true) a b
def grp (ns : List α) (R : α → α → Bool) (a : α) : List α := ns.filter fun b => decide (b = a) || (R a b && R b a)
def rdy (ns : List α) (E R : α → α → Bool) (done : List α) (a : α) : Bool := (grp ns R a).all fun b => ns.all fun c => !(E b c) || decide (c ∈ grp ns R a) || decide (c ∈ done)
def pick (ns : List α) (E R : α → α → Bool) (done : List α) : Option α := ns.find? fun a => !decide (a ∈ done) && rdy ns E R done a
def rounds (ns : List α) (E R : α → α → Bool) : Nat → List α → List (List α)
  | 0, _ => []
  | n + 1, done => match pick ns E R done with
    | some a => grp ns R a :: rounds ns E R n (done ++ grp ns R a)
    | none => []
def Cld (E : α → α → Bool) (done : List α) : Prop := ∀ a b, a ∈ done → E a b = true → b ∈ done
section
variable {ns : List α} {E R : α → α → Bool} (w : Web ns E R)
include w
theorem Web.edge {a b : α} (h : E a b = true) : R a b = true := (w.rch a b).2 (.edge h)
theorem Web.tr {a b c : α} (h : R a b = true) (h' : R b c = true) : R a c = true := (w.rch a c).2 (((w.rch a b).1 h).trans ((w.rch b c).1 h'))
theorem Web.rmem {a b : α} (h : R a b = true) : a ∈ ns ∧ b ∈ ns := by
  have h0 := (w.rch a b).1 h
  clear h
  induction h0 with
  | edge e => exact w.mem _ _ e
  | step e _ ih => exact ⟨(w.mem _ _ e).1, ih.2⟩
omit w in
theorem grp_mem {a b : α} : b ∈ grp ns R a ↔ b ∈ ns ∧ (b = a ∨ (R a b = true ∧ R b a = true)) := by
  simp [grp, List.mem_filter]
omit w in
theorem rdy_iff {done : List α} {a : α} : rdy ns E R done a = true ↔ ∀ b ∈ grp ns R a, ∀ c ∈ ns, E b c = true → c ∈ grp ns R a ∨ c ∈ done := by
  simp only [rdy, List.all_eq_true, Bool.or_eq_true, Bool.not_eq_true', decide_eq_true_eq]
  constructor
  · intro h b hb c hc e
    rcases h b hb c hc with (h | h) | h
    · rw [e] at h; cases h
    · exact .inl h
    · exact .inr h
  · intro h b hb c hc
    cases e : E b c with
    | false => exact .inl (.inl rfl)
    | true => exact (h b hb c hc e).elim (fun h => .inl (.inr h)) .inr
theorem Web.ready {done : List α} : ∀ (n : Nat) (a : α), ns.countP (fun b => !decide (b ∈ done) && (decide (b = a) || R a b)) ≤ n → a ∈ ns → a ∉ done → ∃ c, c ∈ ns ∧ c ∉ done ∧ rdy ns E R done c = true ∧ (c = a ∨ R a c = true)
  | 0, a, hn, ha, hd => by
    have : 0 < ns.countP (fun b => !decide (b ∈ done) && (decide (b = a) || R a b)) := List.countP_pos_iff.2 ⟨a, ha, by simp [hd]⟩
    omega
  | n + 1, a, hn, ha, hd => by
    by_cases hr : rdy ns E R done a = true
    · exact ⟨a, ha, hd, hr, .inl rfl⟩
    rw [rdy_iff] at hr
    simp only [Classical.not_forall] at hr
    obtain ⟨b, hb, c, hc, e, hx⟩ := hr
    have hcg : c ∉ grp ns R a := fun h => hx (.inl h)
    have hcd : c ∉ done := fun h => hx (.inr h)
    have hac : R a c = true := by
      rcases (grp_mem.1 hb).2 with rfl | ⟨h, _⟩
      · exact w.edge e
      · exact w.tr h (w.edge e)
    have hca : c ≠ a ∧ R c a = false := by
      refine ⟨fun q => hcg (grp_mem.2 ⟨hc, .inl q⟩), ?_⟩
      cases q : R c a with
      | false => rfl
      | true => exact absurd (grp_mem.2 ⟨hc, .inr ⟨hac, q⟩⟩) hcg
    have hlt : ns.countP (fun b => !decide (b ∈ done) && (decide (b = c) || R c b)) < ns.countP (fun b => !decide (b ∈ done) && (decide (b = a) || R a b)) := by
      refine countP_lt (fun x hx h => ?_) ha (by simp [hd]) (by simp [hca.1.symm, hca.2])
      simp only [Bool.and_eq_true, Bool.or_eq_true, decide_eq_true_eq] at h ⊢
      exact ⟨h.1, .inr (h.2.elim (fun q => q ▸ hac) fun q => w.tr hac q)⟩
    obtain ⟨d, h1, h2, h3, h4⟩ := Web.ready n c (by omega) hc hcd
    exact ⟨d, h1, h2, h3, .inr (h4.elim (fun q => q ▸ hac) fun q => w.tr hac q)⟩
theorem Web.cld {done : List α} (hc : Cld E done) {a : α} (hr : rdy ns E R done a = true) : Cld E (done ++ grp ns R a) := by
  intro x y hx e
  rcases List.mem_append.1 hx with hx | hx
  · exact List.mem_append_left _ (hc x y hx e)
  · exact List.mem_append.2 ((rdy_iff.1 hr x hx y (w.mem _ _ e).2 e).symm)
theorem Web.cldR {done : List α} (hc : Cld E done) {a b : α} (ha : a ∈ done) (h : R a b = true) : b ∈ done := by
  have h0 := (w.rch a b).1 h
  clear h
  induction h0 with
  | edge e => exact hc _ _ ha e
  | step e _ ih => exact ih (hc _ _ ha e)
theorem Web.fresh {done : List α} (hc : Cld E done) {a : α} (ha : a ∉ done) : ∀ b ∈ grp ns R a, b ∉ done := by
  intro b hb hd
  rcases (grp_mem.1 hb).2 with rfl | ⟨_, h⟩
  · exact ha hd
  · exact ha (w.cldR hc hd h)
theorem pick_some {done : List α} {a : α} (h : pick ns E R done = some a) : a ∈ ns ∧ a ∉ done ∧ rdy ns E R done a = true := by
  have h1 := List.find?_some h
  have h2 := List.mem_of_find?_eq_some h
  simp only [Bool.and_eq_true, Bool.not_eq_true', decide_eq_false_iff_not] at h1
  exact ⟨h2, h1⟩
theorem pick_none {done : List α} (h : pick ns E R done = none) : ∀ a ∈ ns, a ∈ done := by
  intro a ha
  by_cases hd : a ∈ done
  · exact hd
  obtain ⟨c, h1, h2, h3, _⟩ := w.ready _ a (Nat.le_refl _) ha hd
  have := List.find?_eq_none.1 h c h1
  simp [h2, h3] at this
end
structure Like (ns : List α) (E F : α → α → Bool) (z : Option α) : Prop where
  eq : ∀ a b, z ≠ some a → E a b = F a b
  no : ∀ y, z = some y → (∀ a, E a y = false ∧ F a y = false) ∧ ∃ l, ns = l ++ [y]
theorem Like.symm {ns : List α} {E F : α → α → Bool} {z : Option α} (k : Like ns E F z) : Like ns F E z :=
  ⟨fun a b h => (k.eq a b h).symm, fun y h => ⟨fun a => ((k.no y h).1 a).symm, (k.no y h).2⟩⟩
section
variable {ns : List α} {E F R T : α → α → Bool} {z : Option α}
theorem like_rch (w : Web ns E R) (v : Web ns F T) (k : Like ns E F z) {a b : α} (ha : z ≠ some a) (h : R a b = true) : T a b = true := by
  have h0 := (w.rch a b).1 h
  clear h
  have nz : ∀ {x y}, E x y = true → z ≠ some y := fun {x y} e q => by rw [((k.no y q).1 x).1] at e; cases e
  rw [v.rch]
  induction h0 with
  | edge e => exact .edge (by rw [← k.eq _ _ ha]; exact e)
  | step e _ ih => exact .step (by rw [← k.eq _ _ ha]; exact e) (ih (nz e))
theorem like_z (w : Web ns E R) (k : Like ns E F z) {y : α} (h : z = some y) (a : α) : R a y = false := by
  cases e : R a y with
  | false => rfl
  | true =>
    rcases ((w.rch a y).1 e).last with q | ⟨b, _, q⟩
    · rw [((k.no y h).1 a).1] at q; cases q
    · rw [((k.no y h).1 b).1] at q; cases q
theorem like_both (w : Web ns E R) (v : Web ns F T) (k : Like ns E F z) (a b : α) : (R a b && R b a) = (T a b && T b a) := by
  have one : ∀ {E F R T : α → α → Bool}, Web ns E R → Web ns F T → Like ns E F z → (R a b && R b a) = true → (T a b && T b a) = true := by
    intro E F R T w v k h
    rw [Bool.and_eq_true] at h ⊢
    have za : z ≠ some a := fun q => by have := like_z w k q b; rw [h.2] at this; cases this
    have zb : z ≠ some b := fun q => by have := like_z w k q a; rw [h.1] at this; cases this
    exact ⟨like_rch w v k za h.1, like_rch w v k zb h.2⟩
  cases e : R a b && R b a with
  | true => exact (one w v k e).symm
  | false =>
    cases e' : T a b && T b a with
    | false => rfl
    | true => rw [one v w k.symm e'] at e; cases e
theorem like_grp (w : Web ns E R) (v : Web ns F T) (k : Like ns E F z) (a : α) : grp ns R a = grp ns T a := by
  unfold grp
  congr 1
  funext b
  rw [like_both w v k]
theorem like_rdy (w : Web ns E R) (v : Web ns F T) (k : Like ns E F z) {a : α} (ha : z ≠ some a) (done : List α) : rdy ns E R done a = rdy ns F T done a := by
  have hb : ∀ b ∈ grp ns T a, z ≠ some b := by
    intro b hb q
    rcases (grp_mem.1 hb).2 with rfl | ⟨h, _⟩
    · exact ha q
    · have := like_z v k.symm q a; rw [h] at this; cases this
  rw [Bool.eq_iff_iff, rdy_iff, rdy_iff, like_grp w v k]
  exact ⟨fun h b q c hc e => h b q c hc (by rw [k.eq b c (hb b q)]; exact e), fun h b q c hc e => h b q c hc (by rw [← k.eq b c (hb b q)]; exact e)⟩
theorem find_congr {p q : α → Bool} : ∀ {l : List α}, (∀ x ∈ l, p x = q x) → l.find? p = l.find? q
  | [], _ => rfl
  | x :: l, h => by rw [List.find?_cons, List.find?_cons, h x (by simp), find_congr (l := l) fun y hy => h y (by simp [hy])]
theorem like_pick (w : Web ns E R) (v : Web ns F T) (k : Like ns E F z) (done : List α) : pick ns E R done = pick ns F T done := by
  cases hz : z with
  | none => exact find_congr fun x _ => by rw [like_rdy w v k (by rw [hz]; simp)]
  | some y =>
    obtain ⟨hn, l, hl⟩ := k.no y hz
    have hnd := w.nd
    rw [hl, List.nodup_append] at hnd
    have ne : ∀ x ∈ l, z ≠ some x := fun x hx q => by
      rw [hz] at q
      cases q
      exact hnd.2.2 _ hx _ (by simp) rfl
    have e1 : l.find? (fun a => !decide (a ∈ done) && rdy ns E R done a) = l.find? (fun a => !decide (a ∈ done) && rdy ns F T done a) := find_congr fun x hx => by rw [like_rdy w v k (ne x hx)]
    have p1 : pick ns E R done = (l ++ [y]).find? (fun a => !decide (a ∈ done) && rdy ns E R done a) := by unfold pick; rw [← hl]
    have p2 : pick ns F T done = (l ++ [y]).find? (fun a => !decide (a ∈ done) && rdy ns F T done a) := by unfold pick; rw [← hl]
    rw [p1, p2, List.find?_append, List.find?_append, ← e1]
    cases hf : l.find? (fun a => !decide (a ∈ done) && rdy ns E R done a) with
    | some a => rfl
    | none =>
      have all : ∀ {E F R T : α → α → Bool}, Web ns E R → Web ns F T → Like ns E F z → l.find? (fun a => !decide (a ∈ done) && rdy ns E R done a) = none → rdy ns E R done y = true := by
        intro E F R T w v k hf
        have hd : ∀ a ∈ l, a ∈ done := by
          intro a ha
          by_cases hd : a ∈ done
          · exact hd
          obtain ⟨c, h1, h2, h3, h4⟩ := w.ready _ a (Nat.le_refl _) (by rw [hl]; simp [ha]) hd
          have hcy : c ≠ y := by
            rintro rfl
            rcases h4 with rfl | h4
            · exact ne _ ha hz
            · rw [like_z w k hz a] at h4; cases h4
          have hcl : c ∈ l := by
            rw [hl] at h1
            rcases List.mem_append.1 h1 with h | h
            · exact h
            · exact absurd (by simpa using h) hcy
          have := List.find?_eq_none.1 hf c hcl
          simp [h2, h3] at this
        rw [rdy_iff]
        intro b hb c hc e
        rw [hl] at hc
        rcases List.mem_append.1 hc with h | h
        · exact .inr (hd c h)
        · have : c = y := by simpa using h
          subst this
          rw [((k.no c hz).1 b).1] at e
          cases e
      have a1 := all w v k hf
      have a2 := all v w k.symm (e1 ▸ hf)
      simp only [Option.none_or, List.find?_cons, a1, a2, List.find?_nil]
theorem like_rounds (w : Web ns E R) (v : Web ns F T) (k : Like ns E F z) : ∀ n done, rounds ns E R n done = rounds ns F T n done
  | 0, _ => rfl
  | n + 1, done => by
    simp only [rounds, like_pick w v k, like_grp w v k, like_rounds w v k n]
end
/-! ### what the rounds give -/
section
variable {ns : List α} {E R : α → α → Bool} (w : Web ns E R)
include w
def Good (ns : List α) (E R : α → α → Bool) : List α → List (List α) → Prop
  | done, [] => ∀ x ∈ ns, x ∈ done
  | done, g :: gs => g ≠ [] ∧ g.Nodup ∧ (∀ x ∈ g, x ∈ ns ∧ x ∉ done) ∧ (∀ x ∈ g, ∀ y ∈ g, x ≠ y → R x y = true) ∧ (∀ x ∈ g, ∀ y, E x y = true → y ∈ done ++ g) ∧ Good ns E R (done ++ g) gs
theorem rounds_good : ∀ (n : Nat) (done : List α), Cld E done → ns.countP (fun x => !decide (x ∈ done)) ≤ n → Good ns E R done (rounds ns E R n done)
  | 0, done, hc, hn => by
    intro x hx
    by_cases h : x ∈ done
    · exact h
    have : 0 < ns.countP (fun x => !decide (x ∈ done)) := List.countP_pos_iff.2 ⟨x, hx, by simp [h]⟩
    omega
  | n + 1, done, hc, hn => by
    simp only [rounds]
    cases hp : pick ns E R done with
    | none => exact pick_none w hp
    | some a =>
      obtain ⟨h1, h2, h3⟩ := pick_some w hp
      have haa : a ∈ grp ns R a := grp_mem.2 ⟨h1, .inl rfl⟩
      have hlt : ns.countP (fun x => !decide (x ∈ done ++ grp ns R a)) < ns.countP (fun x => !decide (x ∈ done)) := by
        refine countP_lt (fun x hx h => ?_) h1 (by simp [h2]) (by simp [haa])
        simp only [Bool.not_eq_true', decide_eq_false_iff_not, List.mem_append, not_or] at h ⊢
        exact h.1
      refine ⟨fun q => (by rw [q] at haa; cases haa), w.nd.filter _, fun x hx => ⟨(grp_mem.1 hx).1, w.fresh hc h2 x hx⟩, fun x hx y hy hne => ?_, fun x hx y e => ?_, rounds_good n _ (w.cld hc h3) (by omega)⟩
      · have hx := (grp_mem.1 hx).2
        have hy := (grp_mem.1 hy).2
        rcases hx with rfl | ⟨p, q⟩
        · rcases hy with rfl | ⟨p', q'⟩
          · exact absurd rfl hne
          · exact p'
        · rcases hy with rfl | ⟨p', q'⟩
          · exact q
          · exact w.tr q p'
      · exact List.mem_append.2 (rdy_iff.1 h3 x hx y (w.mem _ _ e).2 e).symm
omit w in
theorem good_len : ∀ {gs : List (List α)} {done : List α}, Good ns E R done gs → (done ++ gs.flatten).Nodup ∨ ¬ done.Nodup
  | [], done, _ => by by_cases h : done.Nodup <;> simp [h]
  | g :: gs, done, h => by
    obtain ⟨_, h1, h2, _, _, h3⟩ := h
    by_cases hd : done.Nodup
    · refine (good_len h3).elim (fun q => .inl (by simpa [List.append_assoc] using q)) fun q => absurd ?_ q
      rw [List.nodup_append]
      exact ⟨hd, h1, fun x hx y hy e => (h2 y hy).2 (e ▸ hx)⟩
    · exact .inr hd
end
end Q
end W
end
section
namespace W
namespace Q
set_option linter.unusedSectionVars false
variable {α : Type} [DecidableEq α] {ns : List α} {E R : α → α → Bool}
def rdyR (ns : List α) (R : α → α → Bool) (done : List α) (a : α) : Bool := (grp ns R a).all fun b => ns.all fun c => !(R b c) || decide (c ∈ grp ns R a) || decide (c ∈ done)
theorem rdyR_iff {done : List α} {a : α} : rdyR ns R done a = true ↔ ∀ b ∈ grp ns R a, ∀ c ∈ ns, R b c = true → c ∈ grp ns R a ∨ c ∈ done := rdy_iff (E := R)
theorem rdy_R (w : Web ns E R) {done : List α} (hc : Cld E done) (a : α) : rdyR ns R done a = rdy ns E R done a := by
  rw [Bool.eq_iff_iff, rdyR_iff, rdy_iff]
  constructor
  · exact fun h b hb c hcn e => h b hb c hcn (w.edge e)
  · intro h b hb c hcn e
    have h0 := (w.rch b c).1 e
    clear e hcn
    induction h0 with
    | edge e => exact h _ hb _ (w.mem _ _ e).2 e
    | step e h' ih =>
      rcases h _ hb _ (w.mem _ _ e).2 e with q | q
      · exact ih q
      · exact .inr (w.cldR hc q ((w.rch _ _).2 h'))
theorem pick_at {done : List α} (p : α → Bool) : ∀ (l : List α), (∀ x ∈ l, p x = (!decide (x ∈ done) && rdy ns E R done x)) → l.find? p = l.find? fun a => !decide (a ∈ done) && rdy ns E R done a
  | [], _ => rfl
  | x :: l, h => by rw [List.find?_cons, List.find?_cons, h x (by simp), pick_at p l fun y hy => h y (by simp [hy])]
end Q
end W
end
