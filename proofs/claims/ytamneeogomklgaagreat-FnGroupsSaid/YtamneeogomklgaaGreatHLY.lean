/- HLY: worlds themselves: data that lie in a world, what a call of data does there, trees of a call's own. Nothing of a seat is named here. -/
import Derived.Test.YtamneeogomklgaaGreatHXc
import Derived.Test.YtamneeogomklgaaGreatHLEntry
set_option linter.unusedSimpArgs false
set_option linter.unusedVariables false
set_option linter.unusedSectionVars false
section
namespace HL
namespace Y
open Go Go.RowKit
set_option linter.unusedVariables false
def Gw (B : Nat) (w : World) : Gh := ⟨B, fun b i => w.cell? ⟨b, i, none⟩, []⟩
abbrev D (B : Nat) (w : World) (j : J) : Prop := R (Gw B w) j
inductive Kept (p : Prop) : Prop
  | mk (h : p)
theorem Kept.get {p : Prop} : Kept p → p | ⟨h⟩ => h
section
variable {P : Program} {B : Nat}
theorem RelW {w : World} (ht : TabW P (Gw B w) w) : Rel P (Gw B w) [] w :=
  ⟨rfl, fun _ _ _ h => h, fun id info o hi => by simp [Gw] at hi, fun id id' info info' o o' b b' hi => by simp [Gw] at hi, ht⟩
theorem TabW.noW {w : World} (h : P.globalNamed "internal/strconv.uint64pow10" = none) (hB : B ≤ w.heap.size) : TabW P (Gw B w) w := ⟨⟨hB, fun b ⟨id, info, hi, _⟩ => by simp [Gw] at hi⟩, fun g hg => by rw [h] at hg; cases hg⟩
theorem D.mono {w w' : World} {j : J} (h : D B w j) (hh : ∀ k, k < w.heap.size → w'.heap[k]? = w.heap[k]?) : D B w' j :=
  R.mono_gh (G := Gw B w) (G' := Gw B w') rfl (fun b i u (hu : w.cell? ⟨b, i, none⟩ = some u) => by
    have hb := World.block_lt_of_cell? w _ hu
    exact (World.cell?_of_block (hh b hb)).trans hu) (fun id info hi => by simp [Gw] at hi) h
theorem hcp {f : FuncId} {args : List HV} {r : HV} {vs : List Value} {w : World} (h : HCp P f args r) (hR : D B w (.vals vs args)) (ht : TabW P (Gw B w) w) :
    Calls P f vs.toArray w fun e w' => ∃ v, e = .returned v ∧ D B w' (.val v r) ∧ Below w.heap.size w w' := by
  refine (h.2 _ w vs (RelW ht) hR).mono fun e w' ⟨v, r', st', G', he, ⟨e1, e2⟩, r1, r2, r3⟩ => ?_
  subst e1 e2
  have hs : G'.s = [] := List.length_eq_zero_iff.1 r1.len
  refine ⟨v, he, R.mono_gh (G := G') (G' := Gw B w') r3.bs.symm (fun b i u hu => r1.kc b i u hu) (fun id info hi => by rw [hs] at hi; simp at hi) r2, r3.os, r3.tape, r3.output, r3.size, fun k hk => r3.heap k hk (by rintro ⟨id, info, hi, _⟩; simp [Gw] at hi)⟩
def OwnL (B lo : Nat) (w : World) (v : Value) (sz : Nat) (l : List HV) : Prop :=
  ∃ a cap, v = .slice a l.length cap ∧ l.length ≤ lim ∧ Uni sz l ∧ (∀ c ∈ flatL l, c.flat = true) ∧ (cap = 0 ∧ l = [] ∨ ∃ b c t us, a = some ⟨b, 0, none⟩ ∧ lo ≤ b ∧ l.length ≤ cap ∧ w.heap[b]? = some (.cells c t (0, 0)) ∧
    D B w (.vals us (flatL l)) ∧ ∀ (k : Nat) (u : Value), us[k]? = some u → c[k]? = some u)
theorem hco {f : FuncId} {args : List HV} {vs : List Value} {w : World} {sz : Nat} {l : List HV} (h : HC P f args [] fun r st => r = .own 0 l.length ∧ st = [.arr sz l true]) (hcl : ScdL 0 (flatL l)) (hR : D B w (.vals vs args)) (ht : TabW P (Gw B w) w) :
    Calls P f vs.toArray w fun e w' => ∃ v, e = .returned v ∧ OwnL B w.heap.size w' v sz l ∧ Below w.heap.size w w' := by
  refine (h.2 _ w vs (RelW ht) hR).mono fun e w' ⟨v, r', st', G', he, ⟨e1, e2⟩, r1, r2, r3⟩ => ?_
  subst e1 e2
  have hlen : G'.s.length = 1 := r1.len
  obtain ⟨info, hi⟩ : ∃ info, G'.s = [info] := List.length_eq_one_iff.1 hlen
  have h0 : G'.s[0]? = some info := by rw [hi]; rfl
  obtain ⟨hz, hl⟩ := r1.obj 0 info _ h0 rfl
  have rl := hl _ _ rfl
  cases r2 with
  | own hi' hn hp =>
    rename_i a cap info'
    rw [h0] at hi'
    cases hi'
    obtain ⟨p1, rfl⟩ := hp rl.n
    refine ⟨_, he, ⟨a, info.cap, rfl, rl.lm, hz ▸ rl.uni, rl.flat, ?_⟩, r3.os, r3.tape, r3.output, r3.size, fun k hk => r3.heap k hk (by rintro ⟨id, info, hi, _⟩; simp [Gw] at hi)⟩
    cases hb : info.blk with
    | none =>
      have := rl.nil.1 hb
      have hc := rl.cap
      have : l.length = 0 := by omega
      exact .inl ⟨by omega, List.length_eq_zero_iff.1 this⟩
    | some b =>
      obtain ⟨c, t, us, q1, q2, q3, q4, _⟩ := rl.row b hb
      refine .inr ⟨b, c, t, us, p1 b hb, ?_, rl.cap, q1, ?_, q4⟩
      · rcases r3.new b ⟨0, info, h0, hb⟩ with h | h
        · obtain ⟨id, i', h, _⟩ := h; simp [Gw] at h
        · exact h
      · exact R.restrict (n := 0) (G := G') (G' := Gw B w') q3 r3.bs.symm (fun b i u hu => r1.kc b i u hu) (fun id hid => by omega) hcl
end
section
open HL.X
theorem own_of {S : DSys} {P : Program} {tab : List (FS S)} (ok : S.Ok) (hext : ∀ s ∈ tab, ∀ f, s.ext = some f → ∀ x o, f x = some o → ClaimF P s x o) {s : FS S} (hs : s ∈ tab) {x : Pk S.ty s.itys} {o : Pk S.ty s.otys} (h : RT P tab (.fn s) x = some o)
    (ha : s.aos = []) (hw : wfVs 0 s.ain = true) {t : Tc} {l : List (T S.ty t)} (hr : s.rin = [.own 0 t]) (hr' : s.ros = [.arr t]) (ho : unpk S s.otys o = [⟨.ls t, l⟩]) :
    HC P s.fid (encVs [] (opL s.ain (unpk S s.itys x)).1) [] fun r st => r = .own 0 (l.map (encT S t)).length ∧ st = [.arr (X.szT S t) (l.map (encT S t)) true] := by
  have hcl := RT_claim ok hext hs h
  have hin : fnIn s x = ((opL s.ain (unpk S s.itys x)).1, []) := by
    simp only [fnIn, opn, ha, opOs]
  have hout : fnOut s x o = ([.own 0 0], [.arr t l true 0 0]) := by
    simp only [fnOut, opE, opn, hr, hr', ho]
    rfl
  have hh : Has (unpk S s.itys x) (tysL s.ain) := ⟨tysO s.aos, by rw [unpk_has]⟩
  have := hcl (by rw [hin]; exact (opL_ok [] s.ain _ hh hw).1) (by rw [hin]; exact ⟨rfl, fun i o ho h => by simp at h⟩)
  have hc := this.hc
  rw [hin, hout] at hc
  refine hc.mono fun r st ⟨e1, e2⟩ => ⟨e1.trans ?_, e2⟩
  show HV.own 0 (lenAt [TO.arr t l true 0 0] 0) = _
  rw [List.length_map]
  rfl
end
/-! ### trees of a call's own -/
theorem flatL_cons (x : HV) (l : List HV) : flatL (x :: l) = x.cells ++ flatL l := rfl
theorem flatL_drop {sz : Nat} (j : Nat) : ∀ {l : List HV}, Uni sz l → flatL (l.drop j) = (flatL l).drop (j * sz) := by
  induction j with
  | zero => intro l _; simp
  | succ j ih =>
    intro l hu
    cases l with
    | nil => simp
    | cons x l =>
      have hx := hu x List.mem_cons_self
      rw [List.drop_succ_cons, ih fun y hy => hu y (List.mem_cons_of_mem _ hy), flatL_cons, List.drop_append, hx]
      have e : (j + 1) * sz - sz = j * sz := by rw [Nat.add_mul, Nat.one_mul, Nat.add_sub_cancel]
      have e2 : x.cells.drop ((j + 1) * sz) = [] := List.drop_eq_nil_of_le (by rw [hx, Nat.add_mul]; omega)
      rw [e, e2, List.nil_append]
theorem D_el {B : Nat} {w : World} {v : Value} {L : List HV} {sz : Nat} (h : D B w (.val v (.sl L))) (hz : ∀ x ∈ L, x.cells.length = sz) :
    L = [] ∧ (∃ p, v = .slice p 0 0) ∨ ∃ b base cap, v = .slice (some ⟨b, base, none⟩) L.length cap ∧ L.length ≤ lim ∧ ∀ (k : Nat) (x : HV), L[k]? = some x → ∃ us, us.length = sz ∧ D B w (.vals us x.cells) ∧ ∀ (j : Nat) (u : Value), us[j]? = some u → w.cell? ⟨b, base + k * sz + j, none⟩ = some u := by
  cases h with
  | sl0 => exact .inl ⟨rfl, _, rfl⟩
  | sl us hu hr hk hf hc hn hl =>
    rename_i sz' b base cap n
    subst hn
    refine .inr ⟨b, base, cap, rfl, hl, fun k x hx => ?_⟩
    have hmem := List.mem_of_getElem? hx
    obtain rfl : sz' = sz := by rw [← hu x hmem, hz x hmem]
    have hfl : ((flatL L).drop (k * sz')).take sz' = x.cells := by
      have e1 := flatL_drop k hu
      have hd : L.drop k = x :: L.drop (k + 1) := by
        rw [List.getElem?_eq_some_iff] at hx
        obtain ⟨h1, h2⟩ := hx
        rw [List.drop_eq_getElem_cons h1, h2]
      rw [← e1, hd, flatL_cons, List.take_left' (hu x hmem)]
    have hr2 := (hr.vals_drop (k * sz')).vals_take sz'
    rw [hfl] at hr2
    refine ⟨_, by rw [hr2.vals_length]; exact hu x hmem, hr2, fun j u hj => ?_⟩
    rw [List.getElem?_take] at hj
    split at hj
    · rw [List.getElem?_drop] at hj
      have := hk _ _ hj
      rw [← Nat.add_assoc] at this
      exact this
    · cases hj
theorem cell_set (w : World) (a b : Addr) (v : Value) : (w.setCell a v).cell? b = if a = b then (w.cell? b).map (fun _ => v) else w.cell? b := by
  by_cases h : a = b
  · subst h
    rw [if_pos rfl]
    cases hc : w.cell? a with
    | some u => rw [World.cell?_setCell_same w a v hc]; rfl
    | none =>
      cases hd : (w.setCell a v).cell? a with
      | none => rfl
      | some u =>
        exfalso
        unfold World.cell? World.setCell at hd
        unfold World.cell? at hc
        simp only [Array.getElem?_modify, ↓reduceIte] at hd
        cases hb : w.heap[a.block]? with
        | none => simp [hb] at hd
        | some o =>
          cases o with
          | cells c e f =>
            simp only [hb, Option.map_some] at hd hc
            cases hs : a.spot.isSome with
            | true => simp [hs] at hd
            | false => simp [hs] at hd hc; rw [Array.getElem?_eq_none (by simpa using hc)] at hd; cases hd
          | _ => simp [hb] at hd
  · rw [if_neg h, World.cell?_setCell_other _ _ _ _ h]
theorem alloc_at {w : World} {o : Obj} {n : Nat} (h : w.heap.size = n) : (w.alloc o).heap[n]? = some o := by subst h; show (w.heap.push o)[w.heap.size]? = _; simp
theorem cell_at {w : World} {b i : Nat} {c : Array Value} {t : TypeId} {fr : Nat × Nat} {u : Value} (hh : w.heap[b]? = some (.cells c t fr)) (h : c[i]? = some u) : w.cell? ⟨b, i, none⟩ = some u := cell_of_row hh h
theorem free_at {w : World} {b i : Nat} {c : Array Value} {t : TypeId} (hh : w.heap[b]? = some (.cells c t (0, 0))) : w.frozen? ⟨b, i, none⟩ = false := by simp [World.frozen?, hh]
theorem heap_set {w : World} {b i : Nat} {c : Array Value} {t : TypeId} {fr : Nat × Nat} {v : Value} (h : w.heap[b]? = some (.cells c t fr)) : (w.setCell ⟨b, i, none⟩ v).heap[b]? = some (.cells (c.setIfInBounds i v) t fr) := by
  simp only [World.setCell, Array.getElem?_modify, ↓reduceIte, h, Option.map_some]
  rfl
theorem make_row {P : Program} {t e : TypeId} {sz bytes : Nat} {zl : List Value} (ht : P.underlying t = some (.slice e)) (hi : ((P.info? e).bind fun i => i.zero.map fun z => (i.size, i.bytes, z.cells.toList)) = some (sz, bytes, zl)) (hl : zl.length = sz) (hb : bytes ≤ 256)
    (n : Nat) (hn : n ≤ 1099511627776) (w : World) : (Instr.makeSlice t (.int .i64 (n : Int)) (.int .i64 (n : Int))).run P w = .ok (.slice (some ⟨w.heap.size, 0, none⟩) n n) (w.alloc (.cells ((List.replicate n zl).flatten).toArray e)) := by
  simp only [Option.bind_eq_some_iff, Option.map_eq_some_iff, Prod.mk.injEq] at hi
  obtain ⟨i, i1, z, i2, i3, i4, i5⟩ := hi
  have hrun := run_make (P := P) w t e i z ht i1 i2 .i64 .i64 n n (by omega) (Int.le_refl _) (by
    have : (i.bytes : Int) * (n : Int) ≤ 256 * 1099511627776 := Int.mul_le_mul (by omega) (by omega) (by omega) (by omega)
    omega) (by omega)
  rw [hrun]
  simp only [Int.toNat_natCast]
  have hm := madeCells_toList z.cells n
  have hzl : z.cells.size = i.size := by rw [← Array.length_toList, i5, hl, i3]
  rw [hzl, i5] at hm
  rw [← hm, Array.toArray_toList]
structure Out (lo hi : Nat) (w w' : World) : Prop where
  os : w'.os = w.os
  tape : w'.tape = w.tape
  output : w'.output = w.output
  size : w.heap.size ≤ w'.heap.size
  heap : ∀ k, k < w.heap.size → ¬ (lo ≤ k ∧ k < hi) → w'.heap[k]? = w.heap[k]?
theorem Out.refl {lo hi : Nat} {w : World} : Out lo hi w w := ⟨rfl, rfl, rfl, Nat.le_refl _, fun _ _ _ => rfl⟩
theorem Out.trans {lo hi : Nat} {a b c : World} (h : Out lo hi a b) (k : Out lo hi b c) : Out lo hi a c :=
  ⟨k.os.trans h.os, k.tape.trans h.tape, k.output.trans h.output, Nat.le_trans h.size k.size, fun i hi hn => (k.heap i (Nat.lt_of_lt_of_le hi h.size) hn).trans (h.heap i hi hn)⟩
theorem Out.below {lo hi : Nat} {w w' : World} (h : Out lo hi w w') (hs : lo ≤ w.heap.size) : Below lo w w' := ⟨h.os, h.tape, h.output, h.size, fun k hk => h.heap k (by omega) (by omega)⟩
theorem Out.of_below {lo hi : Nat} {w w' : World} (h : Below w.heap.size w w') : Out lo hi w w' := ⟨h.os, h.tape, h.output, h.size, fun k hk _ => h.block k hk⟩
theorem Out.setCell {lo hi : Nat} {a w : World} (h : Out lo hi a w) {p : Addr} (h1 : lo ≤ p.block) (h2 : p.block < hi) (u : Value) : Out lo hi a (w.setCell p u) :=
  h.trans ⟨rfl, rfl, rfl, by simp [World.setCell], fun k hk hn => RowKit.Below.heap_setCell _ _ _ _ fun e => hn ⟨by omega, by omega⟩⟩
end Y
end HL
end
section
namespace HL
namespace Y
open Go Go.RowKit
set_option linter.unusedVariables false
section
variable {w wr : World} {zl : List Value} {T : TypeId} {N k : Nat} {L : List HV} {vs : List Value}
end
section
variable {b mid p i h : Nat} {t0 : TypeId} {us : List Value} {w0 w : World}
end
end Y
end HL
end
