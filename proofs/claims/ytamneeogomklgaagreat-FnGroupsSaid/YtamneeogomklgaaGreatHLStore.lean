/- HL: what happens to the store and the memory when an object is made, changed, or changed no more. -/
import Derived.Test.YtamneeogomklgaaGreatHLCore
set_option linter.unusedSimpArgs false
set_option linter.unusedVariables false
set_option linter.unusedSectionVars false
namespace HL
open Go
theorem blk_lt {w : World} {b : Nat} {o : Go.Obj} (h : w.heap[b]? = some o) : b < w.heap.size := (Array.getElem?_eq_some_iff.1 h).1
theorem Rel.K_lt {P : Program} {G : Gh} {st : St} {w : World} (h : Rel P G st w) {b i : Nat} {u : Value} (hk : G.K b i = some u) : b < w.heap.size :=
  World.block_lt_of_cell? w _ (h.kc b i u hk)
theorem Rel.blk_lt {P : Program} {G : Gh} {st : St} {w : World} (h : Rel P G st w) {id : Nat} {info : Info} {o : HO} {l : List HV} {m : Bool} {b : Nat}
    (hi : G.s[id]? = some info) (ho : st[id]? = some o) (hl : o.live = some (l, m)) (hb : info.blk = some b) : b < w.heap.size := by
  obtain ⟨c, t, us, hh, _⟩ := ((h.obj id info o hi ho).2 l m hl).row b hb
  exact HL.blk_lt hh
theorem Rel.get {P : Program} {G : Gh} {st : St} {w : World} (h : Rel P G st w) {id : Nat} {o : HO} (ho : st[id]? = some o) : ∃ info, G.s[id]? = some info := by
  have hlt : id < st.length := by
    rcases Nat.lt_or_ge id st.length with h | h
    · exact h
    · simp [List.getElem?_eq_none h] at ho
  exact ⟨G.s[id]'(by rw [h.len]; exact hlt), List.getElem?_eq_getElem _⟩
theorem cell_same {w w' : World} {b i : Nat} {u : Value} (hh : w'.heap[b]? = w.heap[b]?) (h : w.cell? ⟨b, i, none⟩ = some u) : w'.cell? ⟨b, i, none⟩ = some u := by
  simpa [World.cell?, hh] using h
theorem cell_of_row {w : World} {b i : Nat} {c : Array Value} {t : TypeId} {fr : Nat × Nat} {u : Value} (hh : w.heap[b]? = some (.cells c t fr)) (h : c[i]? = some u) : w.cell? ⟨b, i, none⟩ = some u := by
  simp [World.cell?, hh, h]
theorem RLive.mono {G G' : Gh} {w w' : World} {info : Info} {l : List HV} {m : Bool} (h : RLive G w info l m) (hbs : G'.base = G.base)
    (hk : ∀ b i u, G.K b i = some u → G'.K b i = some u)
    (hs : ∀ (id : Nat) (info : Info), G.s[id]? = some info → ∃ info', G'.s[id]? = some info' ∧ info.n ≤ info'.n ∧ info'.sz = info.sz ∧ (info'.n = info.n → info' = info))
    (hh : ∀ b, info.blk = some b → w'.heap[b]? = w.heap[b]?) (hn : ∀ b i, info.blk = some b → G.K b i = none → G'.K b i = none) : RLive G' w' info l m where
  n := h.n
  cap := h.cap
  lm := h.lm
  uni := h.uni
  flat := h.flat
  nil := h.nil
  row b hb := by
    obtain ⟨c, t, us, h1, h2, h3, h4, h5, h6, h7⟩ := h.row b hb
    exact ⟨c, t, us, (hh b hb).trans h1, h2, h3.mono_gh hbs hk hs, h4, fun k a1 a2 => hn _ _ hb (h5 k a1 a2), fun hm k a => hn _ _ hb (h6 hm k a), fun hm k u a => hk _ _ _ (h7 hm k u a)⟩
section new
variable {P : Program} {G : Gh} {st : St} {w : World}
theorem Rel.newAt (h : Rel P G st w) {w' : World} {o : HO} {l : List HV} {m : Bool} {info : Info} (hl : o.live = some (l, m)) (hz : szOf o info.sz)
    (hos : w'.os = w.os) (ht : w'.tape = w.tape) (hout : w'.output = w.output) (hsz : w.heap.size ≤ w'.heap.size)
    (hh : ∀ k, k < w.heap.size → w'.heap[k]? = w.heap[k]?) (hb : ∀ b, info.blk = some b → inS G.s b ∨ w.heap.size ≤ b)
    (hd : ∀ (id : Nat) (i : Info) (x : HO) (b b' : Nat), G.s[id]? = some i → st[id]? = some x → x.live.isSome → i.blk = some b' → info.blk = some b → b' ≠ b)
    (hr : RLive G w' info l m) : Rel P ⟨G.base, G.K, G.s ++ [info]⟩ (st ++ [o]) w' ∧ Step G w ⟨G.base, G.K, G.s ++ [info]⟩ w' := by
  have hs : ∀ (id : Nat) (i : Info), G.s[id]? = some i → ∃ i', (G.s ++ [info])[id]? = some i' ∧ i.n ≤ i'.n ∧ i'.sz = i.sz ∧ (i'.n = i.n → i' = i) := by
    intro id i hi
    refine ⟨i, ?_, Nat.le_refl _, rfl, fun _ => rfl⟩
    have : id < G.s.length := by
      rcases Nat.lt_or_ge id G.s.length with h | h
      · exact h
      · simp [List.getElem?_eq_none h] at hi
    rw [List.getElem?_append_left this]
    exact hi
  have old : ∀ (id : Nat) (i : Info) (x : HO), (G.s ++ [info])[id]? = some i → (st ++ [o])[id]? = some x → (G.s[id]? = some i ∧ st[id]? = some x ∧ id < st.length) ∨ (id = st.length ∧ i = info ∧ x = o) := by
    intro id i x hi hx
    rcases Nat.lt_or_ge id st.length with hlt | hge
    · rw [List.getElem?_append_left hlt] at hx
      rw [List.getElem?_append_left (by rw [h.len]; exact hlt)] at hi
      exact .inl ⟨hi, hx, hlt⟩
    · rw [List.getElem?_append_right hge] at hx
      rw [List.getElem?_append_right (by rw [h.len]; exact hge)] at hi
      rw [h.len] at hi
      have : id - st.length = 0 := by
        rcases Nat.eq_zero_or_pos (id - st.length) with h | h
        · exact h
        · rw [List.getElem?_eq_none (by simp; omega)] at hx; simp at hx
      rw [this] at hx hi
      simp at hx hi
      exact .inr ⟨by omega, hi.symm, hx.symm⟩
  refine Rel.mk2 h (by simp [h.len]) (fun b i u hk => cell_same (hh b (h.K_lt hk)) (h.kc b i u hk)) ?_ ?_ ?_
  · intro id i x hi hx
    rcases old id i x hi hx with ⟨g1, g2, _⟩ | ⟨rfl, rfl, rfl⟩
    · obtain ⟨z, f⟩ := h.obj id i x g1 g2
      refine ⟨z, fun l' m' hl' => (f l' m' hl').mono rfl (fun _ _ _ h => h) hs (fun b hb' => hh b (h.blk_lt g1 g2 hl' hb')) (fun _ _ _ h => h)⟩
    · refine ⟨hz, fun l' m' hl' => ?_⟩
      rw [hl] at hl'
      cases hl'
      exact hr.mono rfl (fun _ _ _ h => h) hs (fun _ _ => rfl) (fun _ _ _ h => h)
  · intro id id' i i' x x' b b' hi hi' hx hx' hv hv' hne hb1 hb2
    rcases old id i x hi hx with ⟨g1, g2, _⟩ | ⟨rfl, rfl, rfl⟩ <;> rcases old id' i' x' hi' hx' with ⟨g3, g4, _⟩ | ⟨rfl, rfl, rfl⟩
    · exact h.dis id id' i i' x x' b b' g1 g3 g2 g4 hv hv' hne hb1 hb2
    · exact hd _ _ _ _ _ g1 g2 hv hb1 hb2
    · exact fun e => hd _ _ _ _ _ g3 g4 hv' hb2 hb1 e.symm
    · exact absurd rfl hne
  · refine ⟨rfl, fun _ _ _ h => h, fun _ _ _ h => .inl h, hs, hos, ht, hout, hsz, fun k hk _ => hh k hk, ?_⟩
    rintro b ⟨id, i, hi, hb'⟩
    rcases Nat.lt_or_ge id G.s.length with hlt | hge
    · rw [List.getElem?_append_left hlt] at hi
      exact .inl ⟨id, i, hi, hb'⟩
    · rw [List.getElem?_append_right hge] at hi
      have : i = info := by
        rcases Nat.eq_zero_or_pos (id - G.s.length) with h | h
        · rw [h] at hi; simpa using hi.symm
        · rw [List.getElem?_eq_none (by simp; omega)] at hi; simp at hi
      subst this
      exact hb b hb'
theorem Rel.new (h : Rel P G st w) {w' : World} {o : HO} {l : List HV} {m : Bool} {info : Info} (hl : o.live = some (l, m)) (hz : szOf o info.sz)
    (hos : w'.os = w.os) (ht : w'.tape = w.tape) (hout : w'.output = w.output) (hsz : w.heap.size ≤ w'.heap.size)
    (hh : ∀ k, k < w.heap.size → w'.heap[k]? = w.heap[k]?) (hb : ∀ b, info.blk = some b → w.heap.size ≤ b)
    (hr : RLive G w' info l m) : Rel P ⟨G.base, G.K, G.s ++ [info]⟩ (st ++ [o]) w' ∧ Step G w ⟨G.base, G.K, G.s ++ [info]⟩ w' :=
  h.newAt hl hz hos ht hout hsz hh (fun b h => .inr (hb b h)) (fun id i x b b' h1 h2 h3 h4 h5 => by
    obtain ⟨⟨l1, m1⟩, hl1⟩ := Option.isSome_iff_exists.1 h3
    have := h.blk_lt h1 h2 hl1 h4
    have := hb _ h5
    omega) hr
theorem Rel.kill (h : Rel P G st w) (id : Nat) : Rel P G (st.set id .dead) w := by
  have old : ∀ (j : Nat) (x : HO), (st.set id .dead)[j]? = some x → x = .dead ∨ (j ≠ id ∧ st[j]? = some x) := by
    intro j x hx
    by_cases e : id = j
    · subst e
      rcases Nat.lt_or_ge id st.length with hlt | hge
      · simp [hlt] at hx
        exact .inl hx.symm
      · rw [List.getElem?_eq_none (by simpa using hge)] at hx
        cases hx
    · rw [List.getElem?_set_ne e] at hx
      exact .inr ⟨fun e' => e e'.symm, hx⟩
  refine ⟨by simp [h.len], h.kc, fun j i x h1 h2 => ?_, fun j j' i i' x x' b b' h1 h2 h3 h4 h5 h6 hne h7 h8 => ?_, h.tab⟩
  · rcases old j x h2 with rfl | ⟨_, g⟩
    · exact ⟨trivial, fun l m hl => by simp [HO.live] at hl⟩
    · exact h.obj j i x h1 g
  · rcases old j x h3 with rfl | ⟨_, g⟩
    · simp [HO.live] at h5
    · rcases old j' x' h4 with rfl | ⟨_, g'⟩
      · simp [HO.live] at h6
      · exact h.dis j j' i i' x x' b b' h1 h2 g g' h5 h6 hne h7 h8
theorem Rel.put (h : Rel P G st w) {id : Nat} {info info' : Info} {o o' : HO} {l l' : List HV} {m m' : Bool} {w' : World} {K' : Nat → Nat → Option Value}
    (hi : G.s[id]? = some info) (ho : st[id]? = some o) (hl : o.live = some (l, m)) (hl' : o'.live = some (l', m')) (hz : szOf o' info'.sz)
    (hos : w'.os = w.os) (ht : w'.tape = w.tape) (hout : w'.output = w.output) (hsz : w.heap.size ≤ w'.heap.size)
    (hh : ∀ k, k < w.heap.size → info.blk ≠ some k → w'.heap[k]? = w.heap[k]?)
    (hk : ∀ b i u, G.K b i = some u → K' b i = some u)
    (hkn : ∀ b i u, K' b i = some u → G.K b i = some u ∨ info'.blk = some b)
    (hkc : ∀ b i u, K' b i = some u → (info.blk = some b ∨ info'.blk = some b) → w'.cell? ⟨b, i, none⟩ = some u)
    (hb : info'.blk = info.blk ∨ ∀ b, info'.blk = some b → w.heap.size ≤ b)
    (hn : info.n ≤ info'.n) (hsz' : info'.sz = info.sz) (he : info'.n = info.n → info' = info)
    (hr : RLive ⟨G.base, K', G.s.set id info'⟩ w' info' l' m') : Rel P ⟨G.base, K', G.s.set id info'⟩ (st.set id o') w' ∧ Step G w ⟨G.base, K', G.s.set id info'⟩ w' := by
  have hlen : id < G.s.length := by
    rcases Nat.lt_or_ge id G.s.length with h | h
    · exact h
    · simp [List.getElem?_eq_none h] at hi
  have hs : ∀ (j : Nat) (i : Info), G.s[j]? = some i → ∃ i', (G.s.set id info')[j]? = some i' ∧ i.n ≤ i'.n ∧ i'.sz = i.sz ∧ (i'.n = i.n → i' = i) := by
    intro j i hj
    by_cases e : id = j
    · subst e
      rw [hi] at hj
      cases hj
      exact ⟨info', by simp [hlen], hn, hsz', he⟩
    · exact ⟨i, by rw [List.getElem?_set_ne e]; exact hj, Nat.le_refl _, rfl, fun _ => rfl⟩
  have old : ∀ (j : Nat) (i : Info) (x : HO), (G.s.set id info')[j]? = some i → (st.set id o')[j]? = some x → (j ≠ id ∧ G.s[j]? = some i ∧ st[j]? = some x) ∨ (j = id ∧ i = info' ∧ x = o') := by
    intro j i x h1 h2
    by_cases e : id = j
    · subst e
      have hlt : id < st.length := by rw [← h.len]; exact hlen
      simp [hlen] at h1
      simp [hlt] at h2
      exact .inr ⟨rfl, h1.symm, h2.symm⟩
    · rw [List.getElem?_set_ne e] at h1 h2
      exact .inl ⟨fun e' => e e'.symm, h1, h2⟩
  have heap' : ∀ (j : Nat) (i : Info) (x : HO) (lx : List HV) (mx : Bool) (b : Nat), j ≠ id → G.s[j]? = some i → st[j]? = some x → x.live = some (lx, mx) → i.blk = some b → w'.heap[b]? = w.heap[b]? ∧ info'.blk ≠ some b := by
    intro j i x lx mx b hne g1 g2 hv hb1
    have hlt := h.blk_lt g1 g2 hv hb1
    have hd : info.blk ≠ some b := fun e => h.dis j id i info x o b b g1 hi g2 ho (by simp [hv]) (by simp [hl]) hne hb1 e rfl
    refine ⟨hh b hlt hd, fun e => ?_⟩
    rcases hb with hb | hb
    · rw [hb] at e; exact hd e
    · have := hb b e; omega
  refine Rel.mk2 h (by simp [h.len]) ?_ ?_ ?_ ?_
  · intro b i u hku
    by_cases e : info.blk = some b ∨ info'.blk = some b
    · exact hkc b i u hku e
    · rcases hkn b i u hku with g | g
      · exact cell_same (hh b (h.K_lt g) (fun x => e (.inl x))) (h.kc b i u g)
      · exact absurd (.inr g) e
  · intro j i x h1 h2
    rcases old j i x h1 h2 with ⟨hne, g1, g2⟩ | ⟨rfl, rfl, rfl⟩
    · obtain ⟨z, f⟩ := h.obj j i x g1 g2
      refine ⟨z, fun lx mx hv => (f lx mx hv).mono rfl hk hs (fun b hb' => (heap' j i x lx mx b hne g1 g2 hv hb').1) (fun b k hb' hnone => ?_)⟩
      have hd := (heap' j i x lx mx b hne g1 g2 hv hb').2
      cases hK : K' b k with
      | none => exact hK
      | some u =>
        rcases hkn b k u hK with g | g
        · rw [hnone] at g; cases g
        · exact absurd g hd
    · refine ⟨hz, fun lx mx hv => ?_⟩
      rw [hl'] at hv
      cases hv
      exact hr
  · intro j j' i i' x x' b b' hi1 hi2 hx1 hx2 hv1 hv2 hne hb1 hb2
    obtain ⟨⟨l1, m1⟩, hl1⟩ := Option.isSome_iff_exists.1 hv1
    obtain ⟨⟨l2, m2⟩, hl2⟩ := Option.isSome_iff_exists.1 hv2
    rcases old j i x hi1 hx1 with ⟨n1, g1, g2⟩ | ⟨rfl, rfl, rfl⟩ <;> rcases old j' i' x' hi2 hx2 with ⟨n2, g3, g4⟩ | ⟨rfl, rfl, rfl⟩
    · exact h.dis j j' i i' x x' b b' g1 g3 g2 g4 hv1 hv2 hne hb1 hb2
    · have := (heap' j i x l1 m1 b n1 g1 g2 hl1 hb1).2
      intro e; subst e; exact this hb2
    · have := (heap' j' i' x' l2 m2 b' n2 g3 g4 hl2 hb2).2
      intro e; subst e; exact this hb1
    · exact absurd rfl hne
  · refine ⟨rfl, hk, fun b i u hu => ?_, hs, hos, ht, hout, hsz, fun k hk1 hns => hh k hk1 (fun e => hns ⟨id, info, hi, e⟩), ?_⟩
    · rcases hkn b i u hu with g | g
      · exact .inl g
      · rcases hb with hb | hb
        · exact .inr (.inr ⟨id, info, hi, by rw [← hb]; exact g⟩)
        · exact .inr (.inl (hb b g))
    · rintro b ⟨j, i, hj, hbj⟩
      by_cases e : id = j
      · subst e
        simp [hlen] at hj
        subst hj
        rcases hb with hb | hb
        · exact .inl ⟨id, info, hi, by rw [← hb]; exact hbj⟩
        · exact .inr (hb b hbj)
      · rw [List.getElem?_set_ne e] at hj
        exact .inl ⟨j, i, hj, hbj⟩
end new
end HL
namespace HL
open Go
theorem flatL_length {sz : Nat} {l : List HV} (hu : Uni sz l) : (flatL l).length = l.length * sz := by
  induction l with
  | nil => simp
  | cons x l ih =>
    simp only [List.flatMap_cons, List.length_append, List.length_cons]
    rw [ih (fun y hy => hu y (List.mem_cons_of_mem _ hy)), hu x (List.mem_cons_self ..), Nat.add_mul]
    omega
theorem flatL_take {sz : Nat} (j : Nat) : ∀ {l : List HV}, Uni sz l → flatL (l.take j) = (flatL l).take (j * sz) := by
  induction j with
  | zero => intro l _; simp
  | succ j ih =>
    intro l hu
    cases l with
    | nil => simp
    | cons x l =>
      have hx := hu x (by simp)
      simp only [List.take_succ_cons, List.flatMap_cons]
      have := ih (l := l) (fun y hy => hu y (by simp [hy]))
      simp only [flatL] at this
      rw [this, show (j + 1) * sz = x.cells.length + j * sz by rw [hx, Nat.add_mul]; omega, List.take_length_add_append]
theorem Rel.shrink {P : Program} {G : Gh} {st : St} {w : World} (h : Rel P G st w) {id : Nat} {info : Info} {sz n : Nat} {l : List HV}
    (hi : G.s[id]? = some info) (ho : st[id]? = some (.arr sz l true)) (hn : n ≤ l.length) :
    Rel P ⟨G.base, G.K, G.s ++ [{ info with n := n }]⟩ (st.set id .dead ++ [.arr sz (l.take n) true]) w ∧ Step G w ⟨G.base, G.K, G.s ++ [{ info with n := n }]⟩ w := by
  obtain ⟨hz, hf⟩ := h.obj id info _ hi ho
  have rl := hf l true rfl
  have hlt : id < st.length := by
    rcases Nat.lt_or_ge id st.length with h | h
    · exact h
    · simp [List.getElem?_eq_none h] at ho
  have hlen : (l.take n).length = n := by simp; omega
  refine (h.kill id).newAt (w' := w) (o := .arr sz (l.take n) true) (l := l.take n) (m := true) (info := { info with n := n }) rfl hz rfl rfl rfl (Nat.le_refl _) (fun _ _ => rfl)
    (fun b hb => .inl ⟨id, info, hi, hb⟩) ?_ ?_
  · intro j i x b b' h1 h2 h3 h4 h5
    by_cases e : id = j
    · subst e
      simp [hlt] at h2
      subst h2
      simp [HO.live] at h3
    · rw [List.getElem?_set_ne e] at h2
      exact h.dis j id i info x _ b' b h1 hi h2 ho h3 (by simp [HO.live]) (fun e' => e e'.symm) h4 h5
  · refine ⟨hlen.symm, by rw [hlen]; exact Nat.le_trans hn rl.cap, by rw [hlen]; exact Nat.le_trans hn rl.lm, fun y hy => rl.uni y (List.mem_of_mem_take hy), ?_, rl.nil, ?_⟩
    · intro c hc
      rw [flatL_take n rl.uni] at hc
      exact rl.flat c (List.mem_of_mem_take hc)
    · intro b hb
      obtain ⟨c, t, us, h1, h2, h3, h4, h5, h6, h7⟩ := rl.row b hb
      have hall : ∀ k, k < info.cap * info.sz → G.K b k = none := by
        intro k hk
        by_cases q : k < l.length * info.sz
        · exact h6 rfl k q
        · exact h5 k (by omega) hk
      have hle : n * info.sz ≤ info.cap * info.sz := Nat.mul_le_mul_right _ (Nat.le_trans hn rl.cap)
      refine ⟨c, t, us.take (n * info.sz), h1, h2, by rw [flatL_take n rl.uni]; exact h3.vals_take _, fun k u hu => ?_, fun k _ hk => hall k hk, fun _ k hk => ?_, (fun e => by cases e)⟩
      · rw [List.getElem?_take] at hu
        split at hu
        · exact h4 k u hu
        · cases hu
      · rw [hlen] at hk
        exact hall k (Nat.lt_of_lt_of_le hk hle)
theorem Rel.mark {P : Program} {G : Gh} {st : St} {w w' : World} (h : Rel P G st w) {b : Nat} (hl : ∀ (id : Nat) (info : Info) (o : HO), G.s[id]? = some info → st[id]? = some o → o.live.isSome → info.blk ≠ some b) (hin : inS G.s b)
    (hos : w'.os = w.os) (ht : w'.tape = w.tape) (hout : w'.output = w.output) (hsz : w'.heap.size = w.heap.size) (hh : ∀ k, k ≠ b → w'.heap[k]? = w.heap[k]?)
    (hc : ∀ i u, w.cell? ⟨b, i, none⟩ = some u → w'.cell? ⟨b, i, none⟩ = some u) : Rel P G st w' ∧ Step G w G w' := by
  refine Rel.mk2 h h.len (fun b' i u hk => ?_) (fun id info o h1 h2 => ?_) h.dis
    ⟨rfl, fun _ _ _ h => h, fun _ _ _ h => .inl h, fun _ i hi => ⟨i, hi, Nat.le_refl _, rfl, fun _ => rfl⟩, hos, ht, hout, by rw [hsz]; exact Nat.le_refl _, fun k _ hn => hh k fun e => hn (e ▸ hin), fun _ h => .inl h⟩
  · by_cases e : b' = b
    · subst e; exact hc i u (h.kc _ _ _ hk)
    · exact cell_same (hh b' e) (h.kc _ _ _ hk)
  · obtain ⟨z, f⟩ := h.obj id info o h1 h2
    exact ⟨z, fun l m hlv => (f l m hlv).mono rfl (fun _ _ _ h => h) (fun _ i hi => ⟨i, hi, Nat.le_refl _, rfl, fun _ => rfl⟩) (fun b' hb' => hh b' fun e => hl id info o h1 h2 (by simp [hlv]) (e ▸ hb')) (fun _ _ _ h => h)⟩
theorem Rel.freeze {P : Program} {G : Gh} {st : St} {w : World} (h : Rel P G st w) {id : Nat} {info : Info} {sz : Nat} {l : List HV} {m : Bool}
    (hi : G.s[id]? = some info) (ho : st[id]? = some (.arr sz l m)) :
    ∃ K', Rel P ⟨G.base, K', G.s⟩ (st.set id (.arr sz l false)) w ∧ Step G w ⟨G.base, K', G.s⟩ w ∧ (∀ v, R G (.val v (.own id l.length)) → R ⟨G.base, K', G.s⟩ (.val v (.sl l))) := by
  obtain ⟨hz, hf⟩ := h.obj id info _ hi ho
  have rl := hf l m rfl
  have hset : G.s.set id info = G.s := by
    apply List.ext_getElem?
    intro j
    by_cases e : id = j
    · subst e
      have hlt : id < G.s.length := by
        rcases Nat.lt_or_ge id G.s.length with h | h
        · exact h
        · simp [List.getElem?_eq_none h] at hi
      simp [hlt]
      rw [List.getElem?_eq_getElem hlt] at hi
      exact (Option.some.inj hi).symm
    · rw [List.getElem?_set_ne e]
  cases hb : info.blk with
  | none =>
    have hc := rl.nil.1 hb
    have hl0 : l = [] := List.eq_nil_of_length_eq_zero (by have := rl.cap; omega)
    subst hl0
    have := Rel.put h (w' := w) (K' := G.K) (info' := info) (o' := .arr sz [] false) (l' := []) (m' := false) hi ho rfl rfl hz rfl rfl rfl (Nat.le_refl _) (fun _ _ _ => rfl)
      (fun _ _ _ h => h) (fun _ _ _ h => .inl h) (fun b i u hk _ => h.kc b i u hk) (.inl rfl) (Nat.le_refl _) rfl (fun _ => rfl)
      ⟨rl.n, rl.cap, rl.lm, rl.uni, rl.flat, rl.nil, fun b hb' => by rw [hb] at hb'; cases hb'⟩
    rw [hset] at this
    refine ⟨G.K, this.1, this.2, fun v hv => ?_⟩
    cases hv with
    | own hi' hn hp =>
      rw [hi] at hi'
      cases hi'
      obtain ⟨_, rfl⟩ := hp rl.n
      rw [hc]
      exact .sl0
  | some b =>
    obtain ⟨c, t, us, h1, h2, h3, h4, h5, h6, h7⟩ := rl.row b hb
    have hul : us.length = l.length * info.sz := by rw [h3.vals_length, flatL_length rl.uni]
    let K' : Nat → Nat → Option Value := fun b' k => if b' = b ∧ k < us.length then us[k]? else G.K b' k
    have hin : ∀ k, k < us.length → ∃ u, us[k]? = some u := fun k hk => ⟨us[k], List.getElem?_eq_getElem hk⟩
    have hKK : ∀ b' i u, G.K b' i = some u → K' b' i = some u := by
      intro b' i u hu
      by_cases e : b' = b ∧ i < us.length
      · obtain ⟨rfl, hlt⟩ := e
        have hcell := h.kc _ _ _ hu
        obtain ⟨u', hu'⟩ := hin i hlt
        have := cell_of_row h1 (h4 i u' hu')
        rw [this] at hcell
        cases hcell
        show (if b' = b' ∧ i < us.length then us[i]? else G.K b' i) = some u
        rw [if_pos ⟨rfl, hlt⟩]; exact hu'
      · simp only [K', e, if_false]
        exact hu
    have hKn : ∀ b' i u, K' b' i = some u → G.K b' i = some u ∨ info.blk = some b' := by
      intro b' i u hu
      by_cases e : b' = b ∧ i < us.length
      · exact .inr (by rw [hb, e.1])
      · simp only [K', e, if_false] at hu
        exact .inl hu
    have hKc : ∀ b' i u, K' b' i = some u → w.cell? ⟨b', i, none⟩ = some u := by
      intro b' i u hu
      by_cases e : b' = b ∧ i < us.length
      · obtain ⟨rfl, hlt⟩ := e
        simp only [K', hlt, and_self, if_true] at hu
        exact cell_of_row h1 (h4 i u hu)
      · simp only [K', e, if_false] at hu
        exact h.kc _ _ _ hu
    have hss : ∀ (j : Nat) (i : Info), G.s[j]? = some i → ∃ i', G.s[j]? = some i' ∧ i.n ≤ i'.n ∧ i'.sz = i.sz ∧ (i'.n = i.n → i' = i) := fun j i hj => ⟨i, hj, Nat.le_refl _, rfl, fun _ => rfl⟩
    have h3' : R ⟨G.base, K', G.s⟩ (.vals us (flatL l)) := R.mono_gh (G := G) (G' := ⟨G.base, K', G.s⟩) rfl hKK hss h3
    have hus : ∀ (k : Nat) (u : Value), us[k]? = some u → K' b k = some u := by
      intro k u hu
      have hlt : k < us.length := by
        rcases Nat.lt_or_ge k us.length with h | h
        · exact h
        · simp [List.getElem?_eq_none h] at hu
      show (if b = b ∧ k < us.length then us[k]? else G.K b k) = some u
      rw [if_pos ⟨rfl, hlt⟩]; exact hu
    have := Rel.put h (w' := w) (K' := K') (info' := info) (o' := .arr sz l false) (l' := l) (m' := false) hi ho rfl rfl hz rfl rfl rfl (Nat.le_refl _) (fun _ _ _ => rfl)
      hKK hKn (fun b i u hk _ => hKc b i u hk) (.inl rfl) (Nat.le_refl _) rfl (fun _ => rfl)
      ⟨rl.n, rl.cap, rl.lm, rl.uni, rl.flat, rl.nil, fun b' hb' => by
        rw [hb] at hb'
        cases hb'
        refine ⟨c, t, us, h1, h2, by rw [hset]; exact h3', h4, fun k a1 a2 => ?_, (fun e => by cases e), fun _ => hus⟩
        have hx : ¬ k < us.length := by omega
        simp only [K', hx, and_false, if_false]
        exact h5 k a1 a2⟩
    rw [hset] at this
    refine ⟨K', this.1, this.2, fun v hv => ?_⟩
    cases hv with
    | own hi' hn hp =>
      rw [hi] at hi'
      cases hi'
      obtain ⟨ha, rfl⟩ := hp rl.n
      rw [ha b hb]
      exact .sl (sz := info.sz) us rl.uni h3' (fun k u hu => by simpa using hus k u hu) rl.flat rl.cap rfl rl.lm
end HL
