/- l8Make: what lies where while the web is made. -/
import Derived.Test.YtamneeogomklgaaGreatGTab
import Derived.Test.YtamneeogomklgaaGreatHLY
import Derived.Deep.AppendLies
set_option linter.unusedSimpArgs false
set_option linter.unusedVariables false
set_option linter.unusedSectionVars false
namespace W
set_option linter.unusedVariables false
set_option maxRecDepth 100000
set_option maxHeartbeats 1000000
namespace Q
open Go HL HL.X HL.Y Go.RowKit
def Kfrom (q : Nat) (w : World) (G : Gh) : Prop := ∀ b i u, q ≤ b → w.cell? ⟨b, i, none⟩ = some u → G.K b i = some u
theorem R_strs {G : Gh} {base : Nat} {w : World} (hK : Kfrom base w G) {nv : Value} {ns : List ByteArray} (h : w.ownsRow base 9 1 nv ns.length (ns.map Value.string)) (hs : ∀ s ∈ ns, s.size ≤ lim) (hl : ns.length ≤ lim) : R G (.val nv (.sl (ns.map HV.str))) := by
  have hR : ∀ (l : List ByteArray), (∀ s ∈ l, s.size ≤ lim) → R G (.vals (l.map Value.string) (l.map HV.str)) := by
    intro l hl
    induction l with
    | nil => exact .vnil
    | cons s l ih => exact .vcons (.str (hl s (by simp))) (ih fun t ht => hl t (by simp [ht]))
  have hfl : ∀ l : List ByteArray, flatL (l.map HV.str) = l.map HV.str := by
    intro l
    induction l with
    | nil => rfl
    | cons s l ih => rw [List.map_cons, flatL_cons, ih]; rfl
  rcases h.2 with ⟨rfl, h0⟩ | ⟨g, cap, cur, rfl, hbg, hg, hc, _, _, ht⟩
  · have : ns = [] := List.eq_nil_of_length_eq_zero h0
    subst this
    exact .sl0
  · refine .sl (sz := 1) (ns.map Value.string) (fun x hx => ?_) (by rw [hfl]; exact hR ns hs) (fun k u hk => ?_) (fun x hx => ?_) (by simpa using hc) (by simp) (by simpa using hl)
    · obtain ⟨s, _, rfl⟩ := List.mem_map.1 hx
      rfl
    · rw [Nat.zero_add]
      refine hK _ _ _ hbg (cell_of_row hg ?_)
      rw [← ht, Nat.mul_one, List.getElem?_take] at hk
      split at hk
      · simpa using hk
      · cases hk
    · rw [hfl] at hx
      obtain ⟨s, _, rfl⟩ := List.mem_map.1 hx
      rfl
theorem D_strs {B base : Nat} {w : World} {nv : Value} {ns : List ByteArray} (h : w.ownsRow base 9 1 nv ns.length (ns.map Value.string)) (hs : ∀ s ∈ ns, s.size ≤ lim) (hl : ns.length ≤ lim) : D B w (.val nv (.sl (ns.map HV.str))) := R_strs (fun _ _ _ _ h => h) h hs hl
def StrsAt (lo : Nat) (w : World) (v : Value) (r : List ByteArray) : Prop :=
  ∃ a cap, v = .slice a r.length cap ∧ (r = [] ∧ cap = 0 ∨ ∃ b c t, a = some ⟨b, 0, none⟩ ∧ lo ≤ b ∧ r.length ≤ cap ∧ w.heap[b]? = some (.cells c t (0, 0)) ∧ ∀ (i : Nat) (s : ByteArray), r[i]? = some s → c[i]? = some (.string s))
theorem flat_strs : ∀ l : List ByteArray, flatL (l.map HV.str) = l.map HV.str
  | [] => rfl
  | s :: l => by rw [List.map_cons, flatL_cons, flat_strs l]; rfl
theorem D_string_inv {B : Nat} {w : World} {us : List Value} : ∀ {l : List ByteArray}, D B w (.vals us (l.map HV.str)) → us = l.map Value.string ∧ ∀ s ∈ l, s.size ≤ lim := by
  intro l
  induction l generalizing us with
  | nil => intro h; cases h; exact ⟨rfl, by simp⟩
  | cons x l ih =>
    intro h
    cases h with
    | vcons h1 h2 =>
      cases h1 with
      | str hs =>
        obtain ⟨e, q⟩ := ih h2
        refine ⟨by rw [e]; rfl, fun s hs' => ?_⟩
        rcases List.mem_cons.1 hs' with rfl | hs'
        · exact hs
        · exact q s hs'
theorem OwnL.strs {B lo : Nat} {w : World} {v : Value} {r : List ByteArray} (h : OwnL B lo w v 1 (r.map HV.str)) : StrsAt lo w v r ∧ ∀ s ∈ r, s.size ≤ lim := by
  obtain ⟨a, cap, rfl, hl, hu, hf, h⟩ := h
  rw [List.length_map] at *
  rcases h with ⟨rfl, h⟩ | ⟨b, c, t, us, rfl, h1, h2, h3, h4, h5⟩
  · have h : r = [] := by simpa using h
    exact ⟨⟨a, 0, rfl, .inl ⟨h, rfl⟩⟩, by rw [h]; simp⟩
  · rw [flat_strs] at h4
    refine ⟨⟨_, cap, rfl, ?_⟩, (D_string_inv h4).2⟩
    rw [(D_string_inv h4).1] at h5
    exact .inr ⟨b, c, t, rfl, h1, by simpa using h2, h3, fun i x hx => h5 i _ (by rw [List.getElem?_map, hx]; rfl)⟩
theorem StrsAt.mono {lo : Nat} {w w' : World} {v : Value} {r : List ByteArray} (h : StrsAt lo w v r) (hh : ∀ k, lo ≤ k → k < w.heap.size → w'.heap[k]? = w.heap[k]?) : StrsAt lo w' v r := by
  obtain ⟨a, cap, e, h⟩ := h
  refine ⟨a, cap, e, h.imp id ?_⟩
  rintro ⟨b, c, t, h1, h2, h3, h4, h5⟩
  exact ⟨b, c, t, h1, h2, h3, (hh b h2 (Array.getElem?_eq_some_iff.1 h4).1).trans h4, h5⟩
theorem StrsAt.d {B lo : Nat} {w : World} {v : Value} {r : List ByteArray} (h : StrsAt lo w v r) (hs : ∀ s ∈ r, s.size ≤ lim) (hl : r.length ≤ lim) : D B w (.val v (.sl (r.map HV.str))) := by
  obtain ⟨a, cap, rfl, h⟩ := h
  have hR : ∀ (l : List ByteArray), (∀ s ∈ l, s.size ≤ lim) → D B w (.vals (l.map Value.string) (l.map HV.str)) := by
    intro l hl
    induction l with
    | nil => exact .vnil
    | cons s l ih => exact .vcons (.str (hl s (by simp))) (ih fun t ht => hl t (by simp [ht]))
  rcases h with ⟨rfl, rfl⟩ | ⟨b, c, t, rfl, _, h1, h2, h3⟩
  · exact .sl0
  · refine .sl (sz := 1) (r.map Value.string) (fun x hx => ?_) (by rw [flat_strs]; exact hR r hs) (fun k u hk => ?_) (fun x hx => ?_) (by simpa using h1) (by simp) (by simpa using hl)
    · obtain ⟨s, _, rfl⟩ := List.mem_map.1 hx
      rfl
    · show World.cell? _ _ = _
      rw [Nat.zero_add]
      rw [List.getElem?_map, Option.map_eq_some_iff] at hk
      obtain ⟨x, hx, rfl⟩ := hk
      exact cell_of_row h2 (h3 k x hx)
    · rw [flat_strs] at hx
      obtain ⟨s, _, rfl⟩ := List.mem_map.1 hx
      rfl
structure WSt (q n : Nat) (wr : World) (nv rv : Value) (ns : List ByteArray) (bs : List Nat) (M : List (List Bool)) : Prop where
  box : wr.heap[q]? = some (.cells #[nv, rv] 52 (0, 0))
  nm : wr.ownsRow (q + 1) 9 1 nv ns.length (ns.map Value.string)
  rs : wr.ownsRow (q + 1) 54 1 rv bs.length (bs.map fun b => Value.slice (some ⟨b, 0, none⟩) n n)
  rows : ∀ (j b : Nat), bs[j]? = some b → ∃ r, M[j]? = some r ∧ r.length = n ∧ wr.heap[b]? = some (.cells (r.map Value.bool).toArray 4 (0, 0)) ∧ q < b
  len : bs.length = M.length
  nd : bs.Nodup
  nvb : ∀ g, nv.ownBlock = some g → g ∉ bs ∧ rv.ownBlock ≠ some g
  rvb : ∀ g, rv.ownBlock = some g → g ∉ bs
section
variable {q n : Nat} {wr : World} {nv rv : Value} {ns : List ByteArray} {bs : List Nat} {M : List (List Bool)}
theorem WSt.lt (h : WSt q n wr nv rv ns bs M) : q < wr.heap.size := (Array.getElem?_eq_some_iff.1 h.box).1
theorem WSt.cells (h : WSt q n wr nv rv ns bs M) : wr.cell? ⟨q, 0, none⟩ = some nv ∧ wr.cell? ⟨q, 1, none⟩ = some rv ∧ wr.frozen? ⟨q, 0, none⟩ = false ∧ wr.frozen? ⟨q, 1, none⟩ = false := ⟨cell_at h.box rfl, cell_at h.box rfl, free_at h.box, free_at h.box⟩
theorem WSt.keep (h : WSt q n wr nv rv ns bs M) {w' : World} (hs : wr.heap.size ≤ w'.heap.size) (hh : ∀ k, q ≤ k → k < wr.heap.size → w'.heap[k]? = wr.heap[k]?) : WSt q n w' nv rv ns bs M := by
  have hown : ∀ {e size v n xs}, wr.ownsRow (q + 1) e size v n xs → w'.ownsRow (q + 1) e size v n xs := by
    rintro e size v n xs ⟨h1, h2⟩
    refine ⟨h1, h2.imp id ?_⟩
    rintro ⟨g, cap, cur, e1, e2, e3, e4⟩
    exact ⟨g, cap, cur, e1, e2, (hh g (by omega) (Array.getElem?_eq_some_iff.1 e3).1).trans e3, e4⟩
  refine ⟨(hh q (Nat.le_refl _) h.lt).trans h.box, hown h.nm, hown h.rs, fun j b hb => ?_, h.len, h.nd, h.nvb, h.rvb⟩
  obtain ⟨r, r1, r2, r3, r4⟩ := h.rows j b hb
  exact ⟨r, r1, r2, (hh b (by omega) (Array.getElem?_eq_some_iff.1 r3).1).trans r3, r4⟩
theorem WSt.below (h : WSt q n wr nv rv ns bs M) {w' : World} (hb : Below wr.heap.size wr w') : WSt q n w' nv rv ns bs M := h.keep hb.size fun k _ hk => hb.block k hk
theorem WSt.nv_eq (h : WSt q n wr nv rv ns bs M) : ∃ a cap, nv = .slice a ns.length cap ∧ ∀ (j : Nat) (s : ByteArray), ns[j]? = some s → ∃ g, a = some ⟨g, 0, none⟩ ∧ g < wr.heap.size ∧ wr.cell? ⟨g, j, none⟩ = some (.string s) := by
  rcases h.nm.2 with ⟨rfl, h0⟩ | ⟨g, cap, cur, rfl, _, hg, hc, _, _, ht⟩
  · refine ⟨none, 0, by rw [h0], fun j s hj => ?_⟩
    have := (List.getElem?_eq_some_iff.1 hj).1
    omega
  · refine ⟨_, cap, rfl, fun j s hj => ⟨g, rfl, (Array.getElem?_eq_some_iff.1 hg).1, cell_of_row hg ?_⟩⟩
    have hlt := (List.getElem?_eq_some_iff.1 hj).1
    have := congrArg (fun z => z[j]?) ht
    simp only [List.getElem?_map, hj, Option.map_some, Nat.mul_one] at this
    rw [List.getElem?_take_of_lt hlt] at this
    simpa using this
theorem WSt.rv_eq (h : WSt q n wr nv rv ns bs M) : ∃ a cap, rv = .slice a bs.length cap := by
  rcases h.rs.2 with ⟨rfl, h0⟩ | ⟨g, cap, cur, rfl, _, hg, hc, _, _, ht⟩
  · exact ⟨none, 0, by rw [h0]⟩
  · exact ⟨_, cap, rfl⟩
theorem WSt.row (h : WSt q n wr nv rv ns bs M) {j : Nat} (hj : j < bs.length) : ∃ g cap b r, rv = .slice (some ⟨g, 0, none⟩) bs.length cap ∧ wr.cell? ⟨g, j, none⟩ = some (.slice (some ⟨b, 0, none⟩) n n) ∧ bs[j]? = some b ∧ M[j]? = some r ∧ r.length = n ∧ wr.heap[b]? = some (.cells (r.map Value.bool).toArray 4 (0, 0)) := by
  have hb := List.getElem?_eq_getElem hj
  obtain ⟨r, r1, r2, r3, r4⟩ := h.rows j _ hb
  rcases h.rs.2 with ⟨_, h0⟩ | ⟨g, cap, cur, rfl, _, hg, hc, _, _, ht⟩
  · omega
  · refine ⟨g, cap, bs[j], r, rfl, cell_of_row hg ?_, hb, r1, r2, r3⟩
    have := congrArg (fun z => z[j]?) ht
    simp only [List.getElem?_map, hb, Option.map_some, Nat.mul_one] at this
    rw [List.getElem?_take_of_lt hj] at this
    simpa using this
theorem WSt.set (h : WSt q n wr nv rv ns bs M) {i k b : Nat} {r : List Bool} (hb : bs[i]? = some b) (hr : M[i]? = some r) (x : Bool) : WSt q n (wr.setCell ⟨b, k, none⟩ (.bool x)) nv rv ns bs (M.set i (r.set k x)) := by
  obtain ⟨r', r1, r2, r3, r4⟩ := h.rows i b hb
  rw [hr] at r1
  cases r1
  have hmem := List.mem_of_getElem? hb
  have far : ∀ k', k' ≠ b → (wr.setCell ⟨b, k, none⟩ (.bool x)).heap[k']? = wr.heap[k']? := fun k' hk => Below.heap_setCell _ _ _ _ hk
  have hown : ∀ {e size v n xs}, (∀ g, v.ownBlock = some g → g ≠ b) → wr.ownsRow (q + 1) e size v n xs → (wr.setCell ⟨b, k, none⟩ (.bool x)).ownsRow (q + 1) e size v n xs := by
    rintro e size v n xs hv ⟨h1, h2⟩
    refine ⟨h1, h2.imp id ?_⟩
    rintro ⟨g, cap, cur, e1, e2, e3, e4⟩
    exact ⟨g, cap, cur, e1, e2, (far g (hv g (by rw [e1]; rfl))).trans e3, e4⟩
  refine ⟨(far q (by omega)).trans h.box, hown (fun g hg e => (h.nvb g hg).1 (e ▸ hmem)) h.nm, hown (fun g hg e => h.rvb g hg (e ▸ hmem)) h.rs, fun j b' hb' => ?_, by rw [List.length_set]; exact h.len, h.nd, h.nvb, h.rvb⟩
  by_cases e : j = i
  · subst e
    rw [hb] at hb'
    cases hb'
    have hlt := (List.getElem?_eq_some_iff.1 hr).1
    refine ⟨r.set k x, List.getElem?_set_self hlt, by rw [List.length_set]; exact r2, ?_, r4⟩
    rw [heap_set r3]
    simp [List.map_set]
  · have hne : b' ≠ b := fun q => by
      obtain ⟨l1, e1⟩ := List.getElem?_eq_some_iff.1 hb
      obtain ⟨l2, e2⟩ := List.getElem?_eq_some_iff.1 hb'
      exact e ((List.getElem_inj h.nd (h₀ := l2) (h₁ := l1)).1 (by rw [e1, e2, q]))
    obtain ⟨r', r1', r2', r3', r4'⟩ := h.rows j b' hb'
    exact ⟨r', by rw [List.getElem?_set_ne (fun q => e q.symm)]; exact r1', r2', (far b' hne).trans r3', r4'⟩
theorem own_kept {w w' : World} {base : Nat} {e : TypeId} {size : Nat} {v : Value} {n : Nat} {xs : List Value} (h : w.ownsRow base e size v n xs) (hh : ∀ g, v.ownBlock = some g → w'.heap[g]? = w.heap[g]?) : w'.ownsRow base e size v n xs := by
  obtain ⟨h1, h2⟩ := h
  refine ⟨h1, h2.imp id ?_⟩
  rintro ⟨g, cap, cur, e1, e2, e3, e4⟩
  exact ⟨g, cap, cur, e1, e2, (hh g (by rw [e1]; rfl)).trans e3, e4⟩
theorem own_lt {w : World} {base : Nat} {e : TypeId} {size : Nat} {v : Value} {n : Nat} {xs : List Value} (h : w.ownsRow base e size v n xs) {g : Nat} (hg : v.ownBlock = some g) : base ≤ g ∧ g < w.heap.size := h.lt g hg
theorem WSt.start {wr : World} (h : wr.heap[q]? = some (.cells #[.slice none 0 0, .slice none 0 0] 52 (0, 0))) : WSt q n wr (.slice none 0 0) (.slice none 0 0) [] [] [] :=
  ⟨h, World.ownsRow_nil _ _ _ _, World.ownsRow_nil _ _ _ _, fun j b hb => by simp at hb, rfl, List.nodup_nil, fun g hg => by simp [Value.ownBlock] at hg, fun g hg => by simp [Value.ownBlock] at hg⟩
theorem WSt.name (h : WSt q n wr nv (.slice none 0 0) ns [] []) {w0 w1 : World} {s : ByteArray} {g cap m : Nat} (h0 : Below wr.heap.size wr w0) (hm : m = ns.length + 1) (hown : w1.ownsRow (q + 1) 9 1 (.slice (some ⟨g, 0, none⟩) m cap) m (ns.map Value.string ++ [.string s])) (hg : w0.grownBy w1 nv.ownBlock) :
    WSt q n (w1.setCell ⟨q, 0, none⟩ (.slice (some ⟨g, 0, none⟩) m cap)) (.slice (some ⟨g, 0, none⟩) m cap) (.slice none 0 0) (ns ++ [s]) [] [] := by
  subst hm
  have hgq : q + 1 ≤ g := (own_lt hown (g := g) rfl).1
  have hq0 : w0.heap[q]? = some (.cells #[nv, .slice none 0 0] 52 (0, 0)) := (h0.block q h.lt).trans h.box
  have hq1 : w1.heap[q]? = some (.cells #[nv, .slice none 0 0] 52 (0, 0)) := (hg.block q (by have := h.lt; have := h0.size; omega) (fun e => by have := (own_lt h.nm e.symm).1; omega)).trans hq0
  refine ⟨by rw [heap_set hq1]; rfl, ?_, World.ownsRow_nil _ _ _ _, fun j b hb => by simp at hb, rfl, List.nodup_nil, fun g' hg' => ⟨by simp, by simp [Value.ownBlock]⟩, fun g' hg' => by simp [Value.ownBlock] at hg'⟩
  have := own_kept (w' := w1.setCell ⟨q, 0, none⟩ (.slice (some ⟨g, 0, none⟩) (ns.length + 1) cap)) hown fun g' hg' => Below.heap_setCell _ _ _ _ (by simp only [Value.ownBlock, Option.some.injEq] at hg'; show g' ≠ q; omega)
  simpa using this
theorem WSt.more (h : WSt q n wr nv rv ns bs M) {w0 w1 : World} {b g cap m : Nat} {r : List Bool} (h0 : Below wr.heap.size wr w0) (hb : wr.heap.size ≤ b) (hb2 : b < w0.heap.size) (hr : r.length = n) (hrow : w0.heap[b]? = some (.cells (r.map Value.bool).toArray 4 (0, 0))) (hm : m = bs.length + 1)
    (hown : w1.ownsRow (q + 1) 54 1 (.slice (some ⟨g, 0, none⟩) m cap) m ((bs.map fun b => Value.slice (some ⟨b, 0, none⟩) n n) ++ [.slice (some ⟨b, 0, none⟩) n n])) (hg : w0.grownBy w1 rv.ownBlock) (hat : rv.ownBlock = some g ∨ g = w0.heap.size) :
    WSt q n (w1.setCell ⟨q, 1, none⟩ (.slice (some ⟨g, 0, none⟩) m cap)) nv (.slice (some ⟨g, 0, none⟩) m cap) ns (bs ++ [b]) (M ++ [r]) := by
  subst hm
  have hqlt := h.lt
  have hsz := h0.size
  have hgq : q + 1 ≤ g := (own_lt hown (g := g) rfl).1
  have old : ∀ k, k < wr.heap.size → some k ≠ rv.ownBlock → w1.heap[k]? = wr.heap[k]? := fun k hk hne => (hg.block k (by omega) hne).trans (h0.block k hk)
  have hqne : some q ≠ rv.ownBlock := fun e => by have := (own_lt h.rs e.symm).1; omega
  have hq1 : w1.heap[q]? = some (.cells #[nv, rv] 52 (0, 0)) := (old q hqlt hqne).trans h.box
  have far : ∀ k, k ≠ q → (w1.setCell ⟨q, 1, none⟩ (.slice (some ⟨g, 0, none⟩) (bs.length + 1) cap)).heap[k]? = w1.heap[k]? := fun k hk => Below.heap_setCell _ _ _ _ hk
  have blt : ∀ b' ∈ bs, b' < wr.heap.size ∧ q < b' := fun b' hb' => by
    obtain ⟨j, hj⟩ := List.getElem?_of_mem hb'
    obtain ⟨r', _, _, r3, r4⟩ := h.rows j b' hj
    exact ⟨(Array.getElem?_eq_some_iff.1 r3).1, r4⟩
  have rvlt : ∀ g', rv.ownBlock = some g' → g' < wr.heap.size := fun g' hg' => (own_lt h.rs hg').2
  have gne : ∀ b' ∈ bs, g ≠ b' := fun b' hb' e => by
    rcases hat with q1 | q1
    · exact h.rvb g q1 (e ▸ hb')
    · have := (blt b' hb').1; omega
  have gb : g ≠ b := fun e => by
    rcases hat with q1 | q1
    · have := rvlt g q1; omega
    · omega
  have hrow1 : w1.heap[b]? = some (.cells (r.map Value.bool).toArray 4 (0, 0)) := (hg.block b hb2 fun e => by have := rvlt b e.symm; omega).trans hrow
  refine ⟨by rw [heap_set hq1]; rfl, own_kept h.nm fun g' hg' => ?_, ?_, fun j b' hb' => ?_, by simp [h.len], ?_, fun g' hg' => ⟨?_, ?_⟩, fun g' hg' => ?_⟩
  · have hlt := own_lt h.nm hg'
    rw [far g' (by omega), old g' hlt.2 fun e => (h.nvb g' hg').2 e.symm]
  · have := own_kept (w' := w1.setCell ⟨q, 1, none⟩ (.slice (some ⟨g, 0, none⟩) (bs.length + 1) cap)) hown fun g' hg' => far g' (by simp only [Value.ownBlock, Option.some.injEq] at hg'; omega)
    simpa using this
  · rcases Nat.lt_or_ge j bs.length with hj | hj
    · rw [List.getElem?_append_left hj] at hb'
      obtain ⟨r', r1, r2, r3, r4⟩ := h.rows j b' hb'
      have hmem := List.mem_of_getElem? hb'
      have hbl := blt b' hmem
      refine ⟨r', by rw [List.getElem?_append_left (by have := h.len; omega)]; exact r1, r2, ?_, r4⟩
      rw [far b' (by omega), old b' hbl.1 fun e => h.rvb b' e.symm hmem]
      exact r3
    · have hj2 : j = bs.length := by
        have := (List.getElem?_eq_some_iff.1 hb').1
        simp at this
        omega
      subst hj2
      rw [List.getElem?_append_right (Nat.le_refl _)] at hb'
      simp only [Nat.sub_self, List.getElem?_cons_zero, Option.some.injEq] at hb'
      subst hb'
      refine ⟨r, by rw [h.len, List.getElem?_append_right (Nat.le_refl _)]; simp, hr, ?_, by omega⟩
      rw [far b (by omega)]
      exact hrow1
  · rw [List.nodup_append]
    exact ⟨h.nd, by simp, fun x hx y hy e => by rw [List.mem_singleton] at hy; have := (blt x hx).1; omega⟩
  · have hlt := own_lt h.nm hg'
    intro hmem
    rcases List.mem_append.1 hmem with q1 | q1
    · exact (h.nvb g' hg').1 q1
    · rw [List.mem_singleton] at q1; omega
  · have hlt := own_lt h.nm hg'
    simp only [Value.ownBlock, ne_eq, Option.some.injEq]
    intro e
    subst e
    rcases hat with q1 | q1
    · exact (h.nvb g hg').2 q1
    · omega
  · simp only [Value.ownBlock, Option.some.injEq] at hg'
    subst hg'
    intro hmem
    rcases List.mem_append.1 hmem with q1 | q1
    · exact gne _ q1 rfl
    · rw [List.mem_singleton] at q1; exact gb q1
theorem WSt.grown (h : WSt q n wr nv rv ns bs M) {w0 w1 : World} {row : Option Nat} (h0 : Below wr.heap.size wr w0) (hrow : row = nv.ownBlock ∨ row = rv.ownBlock) (hg : w0.grownBy w1 row) :
    w1.cell? ⟨q, 0, none⟩ = some nv ∧ w1.cell? ⟨q, 1, none⟩ = some rv ∧ w1.frozen? ⟨q, 0, none⟩ = false ∧ w1.frozen? ⟨q, 1, none⟩ = false ∧ Below q wr w1 := by
  have hlt : ∀ g, row = some g → q + 1 ≤ g := fun g e => hrow.elim (fun r => (own_lt h.nm (r.symm.trans e)).1) fun r => (own_lt h.rs (r.symm.trans e)).1
  have hb : Below q w0 w1 := ⟨hg.os, hg.tape, hg.output, hg.size, fun k hk => hg.block k (by have := h0.size; have := h.lt; omega) fun e => by have := hlt k e.symm; omega⟩
  have hq : w1.heap[q]? = some (.cells #[nv, rv] 52 (0, 0)) := (hg.block q (by have := h0.size; have := h.lt; omega) fun e => by have := hlt q e.symm; omega).trans ((h0.block q h.lt).trans h.box)
  exact ⟨cell_at hq rfl, cell_at hq rfl, free_at hq, free_at hq, (h0.mono (by have := h.lt; omega)).trans hb⟩
end
theorem R_bools {G : Gh} {q b n : Nat} {w : World} (hK : Kfrom q w G) (hq : q ≤ b) {r : List Bool} (h : w.heap[b]? = some (.cells (r.map Value.bool).toArray 4 (0, 0))) (hr : r.length = n) (hn : n ≤ lim) : R G (.val (.slice (some ⟨b, 0, none⟩) n n) (.sl (r.map HV.bool))) := by
  subst hr
  have hfl : ∀ l : List Bool, flatL (l.map HV.bool) = l.map HV.bool := by
    intro l
    induction l with
    | nil => rfl
    | cons s l ih => rw [List.map_cons, flatL_cons, ih]; rfl
  have hR : ∀ (l : List Bool), R G (.vals (l.map Value.bool) (l.map HV.bool)) := by
    intro l
    induction l with
    | nil => exact .vnil
    | cons s l ih => exact .vcons .bool ih
  refine .sl (sz := 1) (r.map Value.bool) (fun x hx => ?_) (by rw [hfl]; exact hR r) (fun k u hk => ?_) (fun x hx => ?_) (by simp) (by simp) (by simpa using hn)
  · obtain ⟨s, _, rfl⟩ := List.mem_map.1 hx
    rfl
  · rw [Nat.zero_add]
    exact hK _ _ _ hq (cell_of_row h (by simpa using hk))
  · rw [hfl] at hx
    obtain ⟨s, _, rfl⟩ := List.mem_map.1 hx
    rfl
theorem R_rows {G : Gh} {q n : Nat} {w : World} (hK : Kfrom q w G) (hn : n ≤ lim) : ∀ (bs : List Nat) (M : List (List Bool)), bs.length = M.length → (∀ (j b : Nat) (r : List Bool), bs[j]? = some b → M[j]? = some r → r.length = n ∧ w.heap[b]? = some (.cells (r.map Value.bool).toArray 4 (0, 0)) ∧ q ≤ b) →
    R G (.vals (bs.map fun b => Value.slice (some ⟨b, 0, none⟩) n n) (M.map fun y => HV.sl (y.map HV.bool)))
  | [], [], _, _ => .vnil
  | b :: bs, r :: M, h, hh => by
    obtain ⟨h1, h2, h3⟩ := hh 0 b r rfl rfl
    exact .vcons (R_bools hK h3 h2 h1 hn) (R_rows hK hn bs M (by simpa using h) fun j b' r' e1 e2 => hh (j + 1) b' r' (by simpa using e1) (by simpa using e2))
  | [], _ :: _, h, _ => by cases h
  | _ :: _, [], h, _ => by cases h
theorem WSt.r {G : Gh} {q n : Nat} {wr : World} {nv rv : Value} {ns : List ByteArray} {bs : List Nat} {M : List (List Bool)} (h : WSt q n wr nv rv ns bs M) (hK : Kfrom q wr G) (hs : ∀ s ∈ ns, s.size ≤ lim) (hl : ns.length ≤ lim) (hn : n ≤ lim) (hb : bs.length ≤ lim) :
    R G (.val (.agg #[nv, rv]) (spec_l8Web.mk ns M).enc) := by
  have hrows : R G (.vals (bs.map fun b => Value.slice (some ⟨b, 0, none⟩) n n) (M.map fun y => HV.sl (y.map HV.bool))) := R_rows hK hn bs M h.len fun j b r e1 e2 => by
    obtain ⟨r', r1, r2, r3, r4⟩ := h.rows j b e1
    rw [e2] at r1
    cases r1
    exact ⟨r2, r3, by omega⟩
  have hfl : ∀ l : List (List Bool), flatL (l.map fun y => HV.sl (y.map HV.bool)) = l.map fun y => HV.sl (y.map HV.bool) := by
    intro l
    induction l with
    | nil => rfl
    | cons s l ih => rw [List.map_cons, flatL_cons, ih]; rfl
  have hrv : R G (.val rv (.sl (M.map fun y => HV.sl (y.map HV.bool)))) := by
    rcases h.rs.2 with ⟨rfl, h0⟩ | ⟨g, cap, cur, rfl, hbg, hg, hc, _, _, ht⟩
    · have : M = [] := List.eq_nil_of_length_eq_zero (by rw [← h.len]; exact h0)
      subst this
      exact .sl0
    · refine .sl (sz := 1) (bs.map fun b => Value.slice (some ⟨b, 0, none⟩) n n) (fun x hx => ?_) (by rw [hfl]; exact hrows) (fun k u hk => ?_) (fun x hx => ?_) (by simpa [← h.len] using hc) (by simp [h.len]) (by simpa [h.len] using hb)
      · obtain ⟨s, _, rfl⟩ := List.mem_map.1 hx
        rfl
      · rw [Nat.zero_add]
        refine hK _ _ _ (by omega) (cell_of_row hg ?_)
        rw [← ht, Nat.mul_one, List.getElem?_take] at hk
        split at hk
        · simpa using hk
        · cases hk
      · rw [hfl] at hx
        obtain ⟨s, _, rfl⟩ := List.mem_map.1 hx
        rfl
  rw [spec_l8Web.enc]
  exact .agg (vs := [nv, rv]) (by simp [HV.flat]) (.vcons (R_strs (fun b i u hb => hK b i u (by omega)) h.nm hs hl) (.vcons hrv .vnil))
end Q
end W
