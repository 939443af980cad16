/- HLZ: rows of a call's own, filled one by one; rows that are marked one by one. Nothing of a seat is named here. -/
import Derived.Test.YtoojgahbfpdhgaaHLY
set_option linter.unusedSimpArgs false
set_option linter.unusedVariables false
set_option linter.unusedSectionVars false
namespace HL
namespace Y
open Go Go.RowKit
set_option linter.unusedVariables false

theorem out_setCells {lo hi b : Nat} (h1 : lo ≤ b) (h2 : b < hi) : ∀ {us : List Value} {o : Nat} {w : World}, Out lo hi w (w.setCells b o us)
  | [], _, _ => .refl
  | u :: us, o, w => (Out.refl.setCell (p := ⟨b, o, none⟩) h1 h2 u).trans (out_setCells h1 h2 (us := us))
theorem bel_size {n b o : Nat} {us : List Value} {w w' : World} (h : Below n (w.setCells b o us) w') : w.heap.size ≤ w'.heap.size := by
  have := h.size
  rwa [size_setCells] at this

/-- So many zero elements. -/
def zrow (zl : List Value) (n : Nat) : List Value := (List.replicate n zl).flatten
theorem zrow_succ (zl : List Value) (n : Nat) : zrow zl (n + 1) = zl ++ zrow zl n := by simp [zrow, List.replicate_succ]

/-- A row of N elements, at block s of the call that began in w: k of them are there. -/
structure Fill (w : World) (zl : List Value) (T : TypeId) (N : Nat) (L : List HV) (k : Nat) (vs : List Value) (wr : World) : Prop where
  len : vs.length = k * zl.length
  row : wr.heap[w.heap.size]? = some (.cells (vs ++ zrow zl (N - k)).toArray T (0, 0))
  tj : TJ wr (w.heap.size + 1) wr.heap.size vs (flatL (L.take k))
  bel : Below w.heap.size w wr

theorem Fill.start {w : World} {zl : List Value} {T : TypeId} {N : Nat} {L : List HV} : Fill w zl T N L 0 [] (w.alloc (.cells (zrow zl N).toArray T)) :=
  ⟨by simp, by simpa using alloc_at rfl, by simp only [List.take_zero, World.size_alloc]; exact .nil (Nat.le_refl _), (Below.refl _ _).alloc (Nat.le_refl _) _⟩

section
variable {w wr : World} {zl : List Value} {T : TypeId} {N k : Nat} {L : List HV} {vs : List Value}

theorem Fill.lt (h : Fill w zl T N L k vs wr) : w.heap.size < wr.heap.size := (Array.getElem?_eq_some_iff.1 h.row).1
theorem Fill.row' (h : Fill w zl T N L k vs wr) (hk : k < N) {w2 : World} (hb : Below wr.heap.size wr w2) : w2.heap[w.heap.size]? = some (.cells (vs ++ zl ++ zrow zl (N - (k + 1))).toArray T (0, 0)) := by
  obtain ⟨m, hm⟩ : ∃ m, N - k = m + 1 := ⟨N - k - 1, by omega⟩
  have hr := h.row
  rw [hm, zrow_succ] at hr
  have : N - (k + 1) = m := by omega
  rw [hb.block _ h.lt, hr, this, List.append_assoc]
theorem Fill.cell (h : Fill w zl T N L k vs wr) (hk : k < N) {w2 : World} (hb : Below wr.heap.size wr w2) (q : Nat) {u : Value} (hq : zl[q]? = some u) : w2.cell? ⟨w.heap.size, k * zl.length + q, none⟩ = some u := by
  refine cell_at (h.row' hk hb) ?_
  have := (List.getElem?_eq_some_iff.1 hq).1
  rw [← h.len]
  simp only [List.getElem?_toArray]
  rw [List.getElem?_append_left (by rw [List.length_append]; omega), List.getElem?_append_right (by omega), Nat.add_sub_cancel_left]
  exact hq
theorem Fill.free (h : Fill w zl T N L k vs wr) (hk : k < N) {w2 : World} (hb : Below wr.heap.size wr w2) (q : Nat) : w2.frozen? ⟨w.heap.size, k * zl.length + q, none⟩ = false := free_at (h.row' hk hb)
/-- One more. -/
theorem Fill.next (h : Fill w zl T N L k vs wr) (hk : k < N) {x : HV} (hx : L[k]? = some x) {w2 : World} (hb : Below wr.heap.size wr w2) {us : List Value} (ht : TJ w2 wr.heap.size w2.heap.size us x.cells) (hu : us.length = zl.length) :
    Fill w zl T N L (k + 1) (vs ++ us) (w2.setCells w.heap.size (k * zl.length) us) := by
  have hset := set_row (us := us) (zs := zl) hu (h.row' hk hb)
  rw [h.len] at hset
  have other : ∀ q, w.heap.size + 1 ≤ q → (w2.setCells w.heap.size (k * zl.length) us).heap[q]? = w2.heap[q]? := fun q hq => heap_setCells (by omega)
  have hlt := h.lt
  refine ⟨by rw [List.length_append, h.len, hu, Nat.add_mul, Nat.one_mul], hset, ?_, below_setCells (Nat.le_refl _) (h.bel.trans (hb.mono (by omega)))⟩
  rw [take_succ_flat hx, size_setCells]
  exact (h.tj.mono fun q h1 h2 => (other q h1).trans (hb.block q h2)).app (ht.mono fun q h1 h2 => other q (by omega))
/-- All are there. -/
theorem Fill.done (h : Fill w zl T N L N vs wr) (hN : L.length = N) (hl : N ≤ lim) {sz : Nat} (hu : Uni sz L) (hf : ∀ x ∈ flatL L, x.flat = true) : TJ wr w.heap.size wr.heap.size [.slice (some ⟨w.heap.size, 0, none⟩) N N] [.sl L] := by
  have hr := h.row
  have ht := h.tj
  rw [Nat.sub_self] at hr
  rw [List.take_of_length_le (by omega)] at ht
  refine .sl (Nat.le_refl _) hN.symm hl hu hf hr (fun q u hq => ?_) ht (.nil (Nat.le_refl _))
  simp only [List.getElem?_toArray]
  rw [List.getElem?_append_left (List.getElem?_eq_some_iff.1 hq).1]
  exact hq
end

/-- An element of a row that is marked: the row lies in block b, its cells from place p + i on are as they were; of the blocks behind, those from h on are as they were. -/
structure MSt (b mid p : Nat) (t0 : TypeId) (us : List Value) (w0 : World) (i h : Nat) (w : World) : Prop where
  row : ∃ c, w.heap[b]? = some (.cells c t0 (0, 0)) ∧ ∀ (q : Nat) (u : Value), i ≤ q → us[q]? = some u → c[p + q]? = some u
  out : Out b mid w0 w
  far : ∀ k, h ≤ k → k < mid → w.heap[k]? = w0.heap[k]?
  lo : b < h
  hi : h ≤ mid
  top : mid ≤ w0.heap.size

section
variable {b mid p i h : Nat} {t0 : TypeId} {us : List Value} {w0 w : World}

theorem MSt.lt (m : MSt b mid p t0 us w0 i h w) : b < w.heap.size := by
  obtain ⟨c, hc, _⟩ := m.row
  exact (Array.getElem?_eq_some_iff.1 hc).1
theorem MSt.cell (m : MSt b mid p t0 us w0 i h w) (q : Nat) (hq : i ≤ q) {u : Value} (hu : us[q]? = some u) : w.cell? ⟨b, p + q, none⟩ = some u := by
  obtain ⟨c, hc, hk⟩ := m.row
  exact cell_at hc (hk q u hq hu)
theorem MSt.free (m : MSt b mid p t0 us w0 i h w) (q : Nat) : w.frozen? ⟨b, p + q, none⟩ = false := by
  obtain ⟨c, hc, _⟩ := m.row
  exact free_at hc
theorem MSt.set (m : MSt b mid p t0 us w0 i h w) (v : Value) : MSt b mid p t0 us w0 (i + 1) h (w.setCell ⟨b, p + i, none⟩ v) := by
  obtain ⟨c, hc, hk⟩ := m.row
  have hb := m.lo
  have hm := m.hi
  refine ⟨⟨_, heap_set hc, fun q u h1 h2 => ?_⟩, m.out.setCell (p := ⟨b, p + i, none⟩) (Nat.le_refl _) (by show b < mid; omega) v, fun k h1 h2 => ?_, m.lo, m.hi, m.top⟩
  · rw [Array.getElem?_setIfInBounds_ne (by omega)]
    exact hk q u (by omega) h2
  · rw [Below.heap_setCell _ _ _ _ (by show k ≠ b; omega)]
    exact m.far k h1 h2
theorem MSt.below (m : MSt b mid p t0 us w0 i h w) {w' : World} (hb : Below w.heap.size w w') : MSt b mid p t0 us w0 i h w' := by
  obtain ⟨c, hc, hk⟩ := m.row
  have := m.out.size
  have := m.top
  exact ⟨⟨c, (hb.block _ m.lt).trans hc, hk⟩, m.out.trans (.of_below hb), fun k h1 h2 => (hb.block k (by omega)).trans (m.far k h1 h2), m.lo, m.hi, m.top⟩
/-- What hangs at the next cell is marked. -/
theorem MSt.call (m : MSt b mid p t0 us w0 i h w) {h1 h2 : Nat} {w' : World} (ho : Out h1 h2 w w') (e1 : h ≤ h1) (e2 : h1 ≤ h2) (e3 : h2 ≤ mid) : MSt b mid p t0 us w0 (i + 1) h2 w' := by
  obtain ⟨c, hc, hk⟩ := m.row
  have := m.out.size
  have := m.top
  have := m.lo
  have := m.lt
  refine ⟨⟨c, (ho.heap b (by omega) (by omega)).trans hc, fun q u h3 h4 => hk q u (by omega) h4⟩, m.out.trans (ho.mono (by omega) (by omega)), fun k h3 h4 => (ho.heap k (by omega) (by omega)).trans (m.far k (by omega) h4), by omega, e3, m.top⟩
/-- A piece of what hangs there lies as it lay. -/
theorem MSt.tj (m : MSt b mid p t0 us w0 i h w) {lo hi : Nat} {vs : List Value} {hs : List HV} (ht : TJ w0 lo hi vs hs) (e1 : h ≤ lo) (e2 : hi ≤ mid) : TJ w lo hi vs hs := ht.mono fun k h1 h2 => m.far k (by omega) (by omega)
theorem MSt.size (m : MSt b mid p t0 us w0 i h w) : mid ≤ w.heap.size := Nat.le_trans m.top m.out.size
end

/-- A row that is marked: j elements are. -/
structure Mark (b mid sz : Nat) (t0 : TypeId) (L : List HV) (w : World) (j : Nat) (wr : World) : Prop where
  ex : ∃ h us c, b < h ∧ TJ wr h mid us (flatL (L.drop j)) ∧ wr.heap[b]? = some (.cells c t0 (0, 0)) ∧ ∀ (q : Nat) (u : Value), us[q]? = some u → c[j * sz + q]? = some u
  out : Out b mid w wr
  top : mid ≤ w.heap.size

theorem drop_cons {L : List HV} {j : Nat} {x : HV} (h : L[j]? = some x) : L.drop j = x :: L.drop (j + 1) := by
  rw [List.getElem?_eq_some_iff] at h
  obtain ⟨h1, h2⟩ := h
  rw [List.drop_eq_getElem_cons h1, h2]

theorem Mark.take {b mid sz : Nat} {t0 : TypeId} {L : List HV} {w : World} {j : Nat} {wr : World} (m : Mark b mid sz t0 L w j wr) {x : HV} (hx : L[j]? = some x) :
    ∃ us1 us2 h h', TJ wr h h' us1 x.cells ∧ TJ wr h' mid us2 (flatL (L.drop (j + 1))) ∧ MSt b mid (j * sz) t0 (us1 ++ us2) wr 0 h wr := by
  obtain ⟨h, us, c, h1, h2, h3, h4⟩ := m.ex
  rw [drop_cons hx, flatL_cons] at h2
  obtain ⟨us1, us2, h', rfl, h5, h6⟩ := h2.split
  have := h2.le
  exact ⟨us1, us2, h, h', h5, h6, ⟨c, h3, fun q u _ hu => h4 q u hu⟩, .refl, fun _ _ _ => rfl, h1, this, Nat.le_trans m.top m.out.size⟩
theorem Mark.next {b mid sz : Nat} {t0 : TypeId} {L : List HV} {w : World} {j : Nat} {wr w' : World} (m : Mark b mid sz t0 L w j wr) {us1 us2 : List Value} {h' h2 : Nat} (hl : us1.length = sz)
    (ht : TJ wr h' mid us2 (flatL (L.drop (j + 1)))) (s : MSt b mid (j * sz) t0 (us1 ++ us2) wr sz h2 w') (hh : h2 ≤ h') : Mark b mid sz t0 L w (j + 1) w' := by
  obtain ⟨c, hc, hk⟩ := s.row
  refine ⟨⟨h', us2, c, by have := s.lo; omega, s.tj ht hh (Nat.le_refl _), hc, fun q u hu => ?_⟩, m.out.trans s.out, m.top⟩
  have := hk (sz + q) u (by omega) (by rw [List.getElem?_append_right (by omega), hl, Nat.add_sub_cancel_left]; exact hu)
  rw [Nat.add_mul, Nat.one_mul, Nat.add_assoc]
  exact this
theorem Mark.start {w : World} {lo hi : Nat} {v : Value} {L : List HV} (ht : TJ w lo hi [v] [.sl L]) (hh : hi ≤ w.heap.size) (sz : Nat) : ∃ b mid t0, v = .slice (some ⟨b, 0, none⟩) L.length L.length ∧ lo ≤ b ∧ mid ≤ hi ∧ Mark b mid sz t0 L w 0 w := by
  obtain ⟨b, mid, c, t0, us, e, h1, h2, h3, h4, h5⟩ := TJ_sl ht
  exact ⟨b, mid, t0, e, h1, h2, ⟨b + 1, us, c, by omega, by simpa using h5, h3, by simpa using h4⟩, .refl, by omega⟩

end Y
end HL
