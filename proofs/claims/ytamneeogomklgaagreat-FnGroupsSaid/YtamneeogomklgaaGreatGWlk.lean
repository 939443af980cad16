/- l8Make: the walk. -/
import Derived.Test.YtamneeogomklgaaGreatGWst
import Derived.Test.YtamneeogomklgaaGreatGInp
import Derived.Test.YtamneeogomklgaaGreatGStl
import Derived.Deep.RegionLaw
import Derived.StillTailTactics
import Derived.OwnWalk
set_option linter.unusedSimpArgs false
set_option linter.unusedVariables false
set_option linter.unusedSectionVars false
namespace W
set_option linter.unusedVariables false
set_option maxRecDepth 100000
set_option maxHeartbeats 4000000
namespace Q
open Go HL HL.X HL.Y Go.RowKit
theorem dec_sz {l : List Dec} : ∀ x ∈ l.map Dec.enc, x.cells.length = 9 := fun x hx => by
  obtain ⟨t, _, rfl⟩ := List.mem_map.1 hx
  exact Dec.len t
theorem dec_cells (d : Dec) : ∃ rest, d.enc.cells = HV.str d.Name :: rest := by
  cases d
  rw [Dec.enc]
  exact ⟨_, rfl⟩
theorem info9 : (Go.Proofs.Tryz.prog.info? 9).map (fun i => (i.zero, i.size, i.bytes)) = some (some (.string ⟨#[]⟩), 1, 16) := by kernel_rfl
theorem info54 : (Go.Proofs.Tryz.prog.info? 54).map (fun i => (i.zero, i.size, i.bytes)) = some (some (.slice none 0 0), 1, 24) := by kernel_rfl
theorem make4 (n : Nat) (hn : n ≤ 1099511627776) (w : World) : (Instr.makeSlice 54 (.int .i64 (n : Int)) (.int .i64 (n : Int))).run Go.Proofs.Tryz.prog w = .ok (.slice (some ⟨w.heap.size, 0, none⟩) n n) (w.alloc (.cells (Array.replicate n (.bool false)) 4)) := by
  have h := make_row (P := Go.Proofs.Tryz.prog) (t := 54) (e := 4) (sz := 1) (bytes := 1) (zl := [.bool false]) (by kernel_rfl) (by kernel_rfl) rfl (by decide) n hn w
  have e : (List.replicate n [Value.bool false]).flatten.toArray = Array.replicate n (Value.bool false) := by simp
  rw [e] at h
  exact h
theorem row_step {R : List Bool} {n k : Nat} {v : Bool} (hk : k < n) (hR : R.length = n) (h : R[k]? = some v) :
    (((R.take k ++ List.replicate (n - k) false).map Value.bool).toArray).setIfInBounds k (.bool v) = ((R.take (k + 1) ++ List.replicate (n - (k + 1)) false).map Value.bool).toArray := by
  obtain ⟨m, hm⟩ : ∃ m, n - k = m + 1 := ⟨n - k - 1, by omega⟩
  have e : n - (k + 1) = m := by omega
  rw [hm, e, List.take_add_one, h, List.replicate_succ]
  have hl : ((R.take k).map Value.bool).length = k := by simp; omega
  simp only [List.map_append, List.map_cons, Option.toList_some, List.map_nil, List.setIfInBounds_toArray]
  rw [List.set_append_right _ _ (by omega), hl, Nat.sub_self, List.set_cons_zero, List.append_assoc, List.singleton_append]
theorem row_cell {R : List Bool} {n k : Nat} (hk : k < n) (hR : R.length = n) : (((R.take k ++ List.replicate (n - k) false).map Value.bool).toArray)[k]? = some (.bool false) := by
  have hl : (R.take k).length = k := by simp; omega
  simp only [List.getElem?_toArray, List.getElem?_map]
  rw [List.getElem?_append_right (by omega), hl, Nat.sub_self, List.getElem?_replicate, if_pos (by omega)]
  rfl
theorem once_end : ∀ (l out : List ByteArray) (s : ByteArray), onceB out (l ++ [s]) = if memB s (onceB out l) = true then onceB out l else onceB out l ++ [s]
  | [], out, s => by rw [List.nil_append, onceB, onceB, onceB]
  | y :: l, out, s => by rw [List.cons_append, onceB, onceB]; exact once_end l _ s
def nsK (l : List Dec) (i : Nat) : List ByteArray := onceB [] (nmB (l.take i))
theorem nsK_succ {l : List Dec} {i : Nat} {d : Dec} (h : l[i]? = some d) : nsK l (i + 1) = if memB d.Name (nsK l i) = true then nsK l i else nsK l i ++ [d.Name] := by
  unfold nsK
  rw [List.take_add_one, h]
  simp only [Option.toList_some, nmB, List.map_append, List.map_cons, List.map_nil]
  exact once_end _ _ _
theorem onceB_len : ∀ (l out : List ByteArray), (onceB out l).length ≤ out.length + l.length
  | [], out => by simp [onceB]
  | s :: l, out => by
    rw [onceB]
    split
    · have := onceB_len l out; simp only [List.length_cons]; omega
    · have := onceB_len l (out ++ [s]); simp only [List.length_append, List.length_cons, List.length_nil] at this ⊢; omega
theorem nsK_len (l : List Dec) (i : Nat) : (nsK l i).length ≤ l.length := by
  have := onceB_len (nmB (l.take i)) []
  simp only [nmB, List.length_map, List.length_take, List.length_nil, Nat.zero_add] at this
  exact Nat.le_trans this (Nat.min_le_right _ _)
theorem onceB_mem : ∀ (l out : List ByteArray) (t : ByteArray), t ∈ onceB out l → t ∈ out ∨ t ∈ l
  | [], out, t, h => .inl h
  | s :: l, out, t, h => by
    rw [onceB] at h
    split at h
    · exact (onceB_mem l out t h).imp id (List.mem_cons_of_mem _)
    · rcases onceB_mem l _ t h with q | q
      · rcases List.mem_append.1 q with q | q
        · exact .inl q
        · exact .inr (by rw [List.mem_singleton.1 q]; simp)
      · exact .inr (List.mem_cons_of_mem _ q)
theorem nsK_sz {l : List Dec} (h : ∀ d ∈ l, d.Name.size ≤ lim) (i : Nat) : ∀ s ∈ nsK l i, s.size ≤ lim := by
  intro s hs
  rcases onceB_mem _ _ _ hs with q | q
  · cases q
  · obtain ⟨d, hd, rfl⟩ := List.mem_map.1 q
    exact h d (List.mem_of_mem_take hd)
theorem make_raw {l : List Dec} (hl : l.length ≤ 1000) (hsz : ∀ d ∈ l, d.Name.size ≤ lim) {B : Nat} {w : World} {v : Value} (hD : D B w (.val v (.sl (l.map Dec.enc))))
    (hhas : ∀ (ns : List ByteArray) (s : ByteArray) (w1 : World) (v1 : Value), ns.length ≤ 1000000 → w.heap.size ≤ w1.heap.size → D B w1 (.vals [v1, .string s] [.sl (ns.map HV.str), .str s]) → Calls Go.Proofs.Tryz.prog 43 #[v1, .string s] w1 fun e w' => e = .returned (.bool (memB s ns)) ∧ Below w1.heap.size w1 w')
    (hneeds : ∀ (s : ByteArray) (w1 : World), s.size ≤ lim → Below w.heap.size w w1 → Calls Go.Proofs.Tryz.prog 13 #[v, .string s] w1 fun e w' => ∃ v' r, e = .returned v' ∧ StrsAt w1.heap.size w' v' r ∧ r.length ≤ 1000000 ∧ (∀ t ∈ r, t.size ≤ lim) ∧ (∀ t, memB t r = needB l s t) ∧ Below w1.heap.size w1 w') :
    Calls Go.Proofs.Tryz.prog 25 #[v] w fun e w' => ∃ v', e = .returned v' ∧ (∀ G : Gh, Kfrom w.heap.size w' G → R G (.val v' (l8B l).enc)) ∧ Below w.heap.size w w' := by
  have hv : ∃ p cap, v = .slice p l.length cap := by
    rcases D_el hD dec_sz with ⟨e, p, rfl⟩ | ⟨b, base, cap, rfl, _⟩
    · simp at e; subst e; exact ⟨p, 0, rfl⟩
    · exact ⟨some ⟨b, base, none⟩, cap, by simp⟩
  obtain ⟨p, cap, rfl⟩ := hv
  have hel : ∀ (w' : World), Below w.heap.size w w' → ∀ (k : Nat) (d : Dec), l[k]? = some d → ∃ b base, p = some ⟨b, base, none⟩ ∧ w'.cell? ⟨b, base + k * 9, none⟩ = some (.string d.Name) := by
    intro w' hb k d hk
    rcases D_el hD dec_sz with ⟨e, _⟩ | ⟨b, base, cap', e, hlm, hel⟩
    · have : l = [] := by simpa using e
      subst this
      simp at hk
    · obtain ⟨us, hus, hDk, hcell⟩ := hel k d.enc (by rw [List.getElem?_map, hk]; rfl)
      simp only [Value.slice.injEq] at e
      obtain ⟨rfl, _, _⟩ := e
      refine ⟨b, base, rfl, ?_⟩
      obtain ⟨rest, hrest⟩ := dec_cells d
      rw [hrest] at hDk
      cases hDk with | vcons h1 h2 =>
      cases h1
      have := hcell 0 _ rfl
      rw [Nat.add_zero] at this
      exact (hb.cell (p := ⟨b, base + k * 9, none⟩) (World.block_lt_of_cell? _ _ this)).trans this
  obtain ⟨i9, hi9, hz9, hs9, hb9⟩ := info_parts info9
  obtain ⟨i54, hi54, hz54, hs54, hb54⟩ := info_parts info54
  generalize hN : l.length = N at hl
  have kN := Kept.mk (And.intro hN (And.intro hel (And.intro hD hsz)))
  have khas := Kept.mk hhas
  have kneeds := Kept.mk hneeds
  clear hel hhas hneeds hD hN hsz
  go_enter Go.Proofs.Tryz.func25, Go.Proofs.Tryz.ntmps25
  go_wp2_with fail
  generalize hq : w.heap.size + 1 = q
  generalize hn : (onceB [] (nmB l)).length = n
  generalize hw1 : (w.alloc (Obj.cells #[.slice none 0 0, .slice none 0 0] 52)) = w1
  go_loopw [4] (fun i wr => ∃ (k : Nat) (nv : Value), k ≤ N ∧ i = .int .i64 k ∧ Kept (WSt q n wr nv (.slice none 0 0) (nsK l k) [] [] ∧ Below q w1 wr)) (fun i _ => N - (intOf i).toNat)
  case atStart =>
    subst hq hw1
    refine ⟨0, .slice none 0 0, Nat.zero_le _, rfl, .mk ⟨?_, (Below.refl _ _).alloc (by simp) _⟩⟩
    exact WSt.start (by simpa using alloc_at (w := w.alloc (Obj.cells #[.slice none 0 0, .slice none 0 0] 52)) (o := Obj.cells #[.slice none 0 0, .slice none 0 0] 52) rfl)
  case round =>
    obtain ⟨k, nv, hk, rfl, K⟩ := hrel
    have bel1 : Below w.heap.size w w1 := by rw [← hw1]; exact (Below.refl _ _).alloc (Nat.le_refl _) _
    have hqs : w1.heap.size = q := by rw [← hw1, ← hq]; simp
    by_cases hkN : k < N
    · obtain ⟨K1, K2⟩ := K.get
      obtain ⟨hN, hel, hD, hsz⟩ := kN.get
      have bel : Below w.heap.size w wr := bel1.trans (K2.mono (by omega))
      obtain ⟨d, hd⟩ : ∃ d, l[k]? = some d := ⟨l[k]'(by rw [hN]; exact hkN), List.getElem?_eq_getElem _⟩
      obtain ⟨b, base, rfl, hc⟩ := hel wr bel k d hd
      obtain ⟨c0, c1, f0, f1⟩ := K1.cells
      have hns : (nsK l k).length ≤ 1000 := Nat.le_trans (nsK_len l k) (by omega)
      have hlim : lim = 140737488355328 := rfl
      have hnsz : ∀ s ∈ nsK l k, s.size ≤ lim := nsK_sz hsz k
      have hdD : D B wr.drew (.vals [nv, .string d.Name] [.sl ((nsK l k).map HV.str), .str d.Name]) := .vcons (D_strs (w := wr.drew) K1.nm hnsz (by omega)) (.vcons (.str (hsz d (List.mem_of_getElem? hd))) .vnil)
      have hcall := khas.get (nsK l k) d.Name wr.drew nv (by omega) bel.size hdD
      have kb := Kept.mk (And.intro bel (And.intro hd (And.intro hns hnsz)))
      cases hm : memB d.Name (nsK l k) with
      | true =>
        rw [hm] at hcall
        clear K1 K2 hN hel hD hsz bel hd hns hlim hnsz hdD c1 f0 f1
        go_wp2_with fail
        go_still_tail 7, (by kernel_rfl)
        change wpList _ _ _ _ _ wr.drew
        go_wp2_with (go_at_call 43; refine hcall.mono ?_; rintro e w2 ⟨rfl, hb2⟩)
        have hw2 : Below wr.heap.size wr w2 := (Below.refl wr.heap.size wr).drew.trans hb2
        refine ⟨⟨k + 1, nv, by omega, by go_num, .mk ⟨?_, K.get.2.trans (hw2.mono (by have := K.get.1.lt; omega))⟩⟩, by simp [intOf]; omega⟩
        rw [nsK_succ kb.get.2.1, if_pos hm]
        exact K.get.1.below hw2
      | false =>
        rw [hm] at hcall
        clear K1 K2 hN hel hD hsz bel hd hns hlim hnsz hdD c1 f0 f1
        go_wp2_with fail
        go_still_tail 7, (by kernel_rfl)
        change wpList _ _ _ _ _ wr.drew
        go_wp2_with (go_at_call 43; refine hcall.mono ?_; rintro e w2 ⟨rfl, hb2⟩)
        have hw2 : Below wr.heap.size wr w2 := (Below.refl wr.heap.size wr).drew.trans hb2
        have W2 := K.get.1.below hw2
        obtain ⟨e0, e1, g0, g1⟩ := W2.cells
        have hown : w2.drew.ownsRow (q + 1) 9 1 nv (nsK l k).length ((nsK l k).map Value.string) := W2.nm
        have hc2 : w2.cell? ⟨b, base + k * 9, none⟩ = some (.string d.Name) := (hw2.cell (p := ⟨b, base + k * 9, none⟩) (World.block_lt_of_cell? _ _ hc)).trans hc
        have hq2 : q < w2.heap.size := W2.lt
        have hns := kb.get.2.2.1
        have kW := Kept.mk (And.intro hw2 W2)
        clear hw2 W2 hb2 e1 g1 c0 hc hcall
        go_region_law (first | (refine step_append_lies _ rfl (.tmp 30) (.tmp 36) 34 rfl (q + 1) 9 i9 (.string ⟨#[]⟩) 1 16 Go.Proofs.Tryz.underlying34 hi9 hz9 hs9 hb9 rfl (by decide) nv (nsK l k).length ((nsK l k).map Value.string) (by simp [Act.eval, Act.put]) (hown.alloc _) ⟨w2.heap.size, 0, none⟩ 1 1 [.string d.Name] (by simp [Act.eval, Act.put]) rfl (World.news_of_block (heap_alloc_new w2.drew _)) (fun u hu => by simp only [List.mem_singleton] at hu; subst hu; rfl) (by decide) (by unfold maxLen; omega) (by omega) (by simp; omega) (w2.heap.size + 1) (by simp) ?_; intro g cap3 w3 hown3 hgrow3 hat3 hlt3; obtain ⟨e3, _, g3, _, _⟩ := kW.get.2.grown ((Below.refl w2.heap.size w2).drew.alloc (Nat.le_refl _) _) (.inl rfl) hgrow3))
        all_goals
          go_wp2
          obtain ⟨hw2, W2⟩ := kW.get
          have hb3 := (W2.grown ((Below.refl w2.heap.size w2).drew.alloc (Nat.le_refl _) _) (.inl rfl) hgrow3).2.2.2.2
          refine ⟨⟨k + 1, .slice (some ⟨g, 0, none⟩) ((nsK l k).length + 1) cap3, by omega, by go_num, .mk ⟨?_, (K.get.2.trans ((hw2.mono (by have := K.get.1.lt; omega)).trans hb3)).setCell (Nat.le_refl _) _⟩⟩, by simp [intOf]; omega⟩
          rw [nsK_succ kb.get.2.1, if_neg (by rw [hm]; simp)]
          exact W2.name ((Below.refl w2.heap.size w2).drew.alloc (Nat.le_refl _) _) rfl hown3 hgrow3
    · obtain rfl : k = N := by omega
      obtain ⟨W, bl⟩ := K.get
      have hNl := kN.get.1
      have hnsK : nsK l k = onceB [] (nmB l) := by unfold nsK; rw [List.take_of_length_le (by omega)]
      rw [hnsK] at W
      generalize hns0 : onceB [] (nmB l) = ns at W hn
      have hnl : ns.length ≤ 1000 := by
        have := nsK_len l k
        rw [hnsK, hns0] at this
        omega
      have hnsz : ∀ s ∈ ns, s.size ≤ lim := by rw [← hns0, ← hnsK]; exact nsK_sz kN.get.2.2.2 k
      obtain ⟨c0, c1, f0, f1⟩ := W.cells
      obtain ⟨na, ncap, env, hnc⟩ := W.nv_eq
      rw [hn] at env
      subst env
      rw [hn] at hnl
      have hmk : ∀ w : World, (Instr.makeSlice 54 (.int .i64 (n : Int)) (.int .i64 (n : Int))).run Go.Proofs.Tryz.prog w = .ok (.slice (some ⟨w.heap.size, 0, none⟩) n n) (w.alloc (.cells (Array.replicate n (.bool false)) 4)) := make4 n (by omega)
      have kW := Kept.mk (And.intro W (And.intro bl (And.intro hns0 (And.intro hn (And.intro hnsz bel1)))))
      clear W bl hNl hnsK K hns0 hn hnsz hnc c1 f0 f1 bel1
      go_wp2_with fail
      go_loopw [6] (fun i wr2 => ∃ (j : Nat) (rv : Value) (bs : List Nat), j ≤ n ∧ i = .int .i64 j ∧ Kept (WSt q n wr2 (.slice na n ncap) rv ns bs ((rowsB l ns).take j) ∧ Below q w1 wr2)) (fun i _ => n - (intOf i).toNat)
      case atStart => exact ⟨0, .slice none 0 0, [], Nat.zero_le _, rfl, .mk ⟨kW.get.1, kW.get.2.1⟩⟩
      case round =>
        obtain ⟨j, rv, bs, hj, rfl, K⟩ := hrel
        rename World => wb
        by_cases hjn : j < n
        · obtain ⟨W, bl⟩ := K.get
          obtain ⟨-, -, hns0, hn, hnsz, bel1⟩ := kW.get
          obtain ⟨na', ncap', e, hnc⟩ := W.nv_eq
          simp only [Value.slice.injEq] at e
          obtain ⟨rfl, -, rfl⟩ := e
          obtain ⟨x, hx⟩ : ∃ x, ns[j]? = some x := ⟨ns[j]'(by omega), List.getElem?_eq_getElem _⟩
          obtain ⟨gn, rfl, hgn, hcx⟩ := hnc j x hx
          have bel : Below w.heap.size w wb := bel1.trans (bl.mono (by omega))
          have hxs := hnsz x (List.mem_of_getElem? hx)
          have belA : Below wb.heap.size wb (wb.alloc (.cells (Array.replicate n (Value.bool false)) 4)) := (Below.refl _ _).alloc (Nat.le_refl _) _
          have WA := W.below belA
          obtain ⟨c0, c1, f0, f1⟩ := WA.cells
          have hcxA : (wb.alloc (.cells (Array.replicate n (Value.bool false)) 4)).cell? ⟨gn, j, none⟩ = some (.string x) := (belA.cell (p := ⟨gn, j, none⟩) hgn).trans hcx
          have hcall := kneeds.get x _ hxs (bel.trans (belA.mono bel.size))
          rw [kN.get.1] at hcall
          have hrowA : (wb.alloc (.cells (Array.replicate n (Value.bool false)) 4)).heap[wb.heap.size]? = some (.cells (Array.replicate n (Value.bool false)) 4 (0, 0)) := alloc_at rfl
          have kA := Kept.mk (And.intro W (And.intro bl (And.intro belA (And.intro hx (And.intro bel hrowA)))))
          clear W bl hns0 hn hnsz bel1 K belA WA hx bel hrowA hcx hgn hnc hxs c1 f1 f0
          go_wp2_with (go_at_call 13; refine hcall.mono ?_; rintro e w3 ⟨fv, r, rfl, hstr, hrl, hrs, hmem, hb3⟩)
          have hbl : wb.heap.size < wb.heap.size + 1 := Nat.lt_succ_self _
          generalize hb0 : wb.heap.size = b0 at *
          generalize hR : ns.map (needB l x) = R
          have kB := Kept.mk (And.intro hstr (And.intro hrl (And.intro hrs (And.intro hmem (And.intro hb3 hR)))))
          have start3 : w3.heap[b0]? = some (.cells ((R.take 0 ++ List.replicate (n - 0) false).map Value.bool).toArray 4 (0, 0)) := by
            have := kA.get.2.2.2.2.2
            rw [← hb0] at this ⊢
            rw [hb3.block _ (by simp), this]
            simp
          clear hstr hrl hrs hmem hb3 hR hcall hcxA c0
          go_loopw [9] (fun i wr3 => ∃ (k2 : Nat), k2 ≤ n ∧ i = .int .i64 k2 ∧ Kept (wr3.heap[b0]? = some (.cells ((R.take k2 ++ List.replicate (n - k2) false).map Value.bool).toArray 4 (0, 0)) ∧ Out b0 (b0 + 1) w3 wr3)) (fun i _ => n - (intOf i).toNat)
          case atStart => exact ⟨0, Nat.zero_le _, rfl, .mk ⟨start3, .refl⟩⟩
          case round =>
            obtain ⟨k2, hk2, rfl, K⟩ := hrel
            rename World => wc
            by_cases hk2n : k2 < n
            · obtain ⟨K1, K2⟩ := K.get
              obtain ⟨W, bl, belA, hx, bel, hrowA⟩ := kA.get
              obtain ⟨hstr, hrl, hrs, hmem, hb3, hR⟩ := kB.get
              obtain ⟨-, -, -, hn, hnsz, -⟩ := kW.get
              have hlim : lim = 140737488355328 := rfl
              have z3 := hb3.size
              have z4 := K2.size
              have z5 := bel.size
              simp only [World.size_alloc] at z3 hstr hb3
              have Wc : WSt q n wc _ rv ns bs _ := W.keep (by omega) fun k' h1 h2 => (K2.heap k' (by omega) (by omega)).trans ((hb3.block k' (by omega)).trans (belA.block k' (by omega)))
              obtain ⟨na', ncap', e, hnc⟩ := Wc.nv_eq
              simp only [Value.slice.injEq] at e
              obtain ⟨rfl, -, rfl⟩ := e
              obtain ⟨y, hy⟩ : ∃ y, ns[k2]? = some y := ⟨ns[k2]'(by omega), List.getElem?_eq_getElem _⟩
              obtain ⟨gn', egn, hgn, hcy⟩ := hnc k2 y hy
              simp only [Option.some.injEq, Addr.mk.injEq, and_true] at egn
              obtain ⟨rfl, -⟩ := egn
              have hstr' := hstr.mono (w' := wc) fun k' h1 h2 => K2.heap k' h2 (by omega)
              have hys := hnsz y (List.mem_of_getElem? hy)
              have hcall := khas.get r y wc fv hrl (by omega) (.vcons (hstr'.d hrs (by omega)) (.vcons (.str hys) .vnil))
              rw [hmem] at hcall
              have hRl : R.length = n := by rw [← hR, List.length_map, hn]
              have hRy : R[k2]? = some (needB l x y) := by rw [← hR, List.getElem?_map, hy]; rfl
              have hblt := (Array.getElem?_eq_some_iff.1 K1).1
              obtain ⟨c0, -, -, -⟩ := Wc.cells
              have kC := Kept.mk (And.intro hRl (And.intro hRy (And.intro hblt z4)))
              clear K1 K2 W bl belA hx bel hrowA hstr hrl hrs hmem hb3 hR hn hnsz hlim z3 z4 z5 Wc hnc hy hgn hstr' hys hRl hRy hblt
              go_wp2_with (go_at_call 43; refine hcall.mono ?_; rintro e w4 ⟨rfl, hb4⟩; have r4 := (hb4.block b0 kC.get.2.2.1).trans K.get.1; have d4 := cell_at r4 (row_cell hk2n kC.get.1); have f4 := free_at (i := k2) r4; clear r4)
              obtain ⟨K1, K2⟩ := K.get
              obtain ⟨hRl, hRy, hblt, z4⟩ := kC.get
              refine ⟨⟨k2 + 1, by omega, by go_num, .mk ⟨?_, (K2.trans (.of_below hb4)).setCell (p := ⟨b0, k2, none⟩) (Nat.le_refl _) (Nat.lt_succ_self _) _⟩⟩, by simp [intOf]; omega⟩
              rw [heap_set ((hb4.block b0 hblt).trans K1), row_step hk2n hRl hRy]
            · obtain rfl : k2 = n := by omega
              obtain ⟨K1, K2⟩ := K.get
              obtain ⟨W, bl, belA, hx, bel, hrowA⟩ := kA.get
              obtain ⟨hstr, hrl, hrs, hmem, hb3, hR⟩ := kB.get
              obtain ⟨-, -, -, hn, hnsz, -⟩ := kW.get
              have z3 := hb3.size
              have z4 := K2.size
              simp only [World.size_alloc] at z3 hb3
              have bc : Below b0 wb wc := (belA.trans (hb3.mono (by omega))).trans (K2.below (by omega))
              have Wc := W.keep (w' := wc) (by omega) fun k' h1 h2 => bc.block k' (by omega)
              obtain ⟨c0, c1, f0, f1⟩ := Wc.cells
              have hown : wc.ownsRow (q + 1) 54 1 rv bs.length (bs.map fun b => Value.slice (some ⟨b, 0, none⟩) k2 k2) := Wc.rs
              have hbsl : bs.length = j := by
                have := W.len
                rw [this, List.length_take]
                simp [rowsB]; omega
              have hqc : q < wc.heap.size := Wc.lt
              have hRl : R.length = k2 := by rw [← hR, List.length_map, hn]
              rw [Nat.sub_self, List.replicate_zero, List.append_nil, List.take_of_length_le (by omega)] at K1
              have hRj : (rowsB l ns).take (j + 1) = (rowsB l ns).take j ++ [R] := by
                rw [List.take_add_one]
                unfold rowsB
                rw [List.getElem?_map, hx]
                simp only [Option.map_some, Option.toList_some]
                rw [← hR]
              have kC := Kept.mk (And.intro bc (And.intro Wc (And.intro hRl (And.intro hRj (And.intro K1 (And.intro W bl))))))
              clear W bl belA hx bel hrowA hstr hrl hrs hmem hb3 hR hn hnsz z3 bc Wc hRl hRj K K1 K2 c0 f0 start3
              go_wp2_with (at_builtin; refine wpList_append_lies _ rfl (.tmp 72) (.tmp 74) 50 rfl (q + 1) 54 i54 (.slice none 0 0) 1 24 Go.Proofs.Tryz.underlying50 hi54 hz54 hs54 hb54 rfl (by decide) rv bs.length (bs.map fun b => Value.slice (some ⟨b, 0, none⟩) k2 k2) rfl (hown.alloc _) ⟨wc.heap.size, 0, none⟩ 1 1 [.slice (some ⟨b0, 0, none⟩) k2 k2] rfl rfl (World.news_of_block (heap_alloc_new wc _)) (fun u hu => by simp only [List.mem_singleton] at hu; subst hu; rfl) (by decide) (by unfold maxLen; omega) (by omega) (by simp; omega) (wc.heap.size + 1) (by simp) ?_; intro g cap3 w5 hown5 hgrow5 hat5 hlt5; obtain ⟨_, e5, _, g5, _⟩ := kC.get.2.1.grown ((Below.refl wc.heap.size wc).alloc (Nat.le_refl _) _) (.inr rfl) hgrow5)
              obtain ⟨bc, Wc, hRl, hRj, K1, W, bl⟩ := kC.get
              have hlt0 := (Array.getElem?_eq_some_iff.1 K1).1
              have hqb : q < b0 := by rw [← hb0]; exact W.lt
              have b5 := (Wc.grown ((Below.refl wc.heap.size wc).alloc (Nat.le_refl _) _) (.inr rfl) hgrow5).2.2.2.2
              have hrow6 : (wc.alloc (.cells #[.slice (some ⟨b0, 0, none⟩) k2 k2] 54)).heap[b0]? = some (.cells (R.map Value.bool).toArray 4 (0, 0)) := (Below.heap_alloc _ _ _ hlt0).trans K1
              rw [hbsl] at hown5
              have W5 := W.more (w0 := wc.alloc (.cells #[.slice (some ⟨b0, 0, none⟩) k2 k2] 54)) (w1 := w5) (b := b0) (g := g) (cap := cap3) (m := j + 1) (r := R) ((hb0 ▸ bc).alloc (by have := bc.size; omega) _) (by omega) (by simp; omega) hRl hrow6 (by omega) hown5 hgrow5 (by simpa using hat5)
              refine ⟨⟨j + 1, _, bs ++ [b0], by omega, by go_num, .mk ⟨by rw [hRj]; exact W5, ((bl.trans (bc.mono (by omega))).trans b5).setCell (Nat.le_refl _) _⟩⟩, by simp [intOf]; omega⟩
        · obtain rfl : j = n := by omega
          obtain ⟨W, bl⟩ := K.get
          obtain ⟨-, -, hns0, hn, hnsz, bel1⟩ := kW.get
          have hM0 : (rowsB l ns).take j = rowsB l ns := List.take_of_length_le (by simp [rowsB]; omega)
          rw [hM0] at W
          have kM := Kept.mk (And.intro W (And.intro bl (And.intro hns0 (And.intro hn (And.intro hnsz bel1)))))
          clear W bl hns0 hn hnsz bel1 K hM0 c0 kW
          go_wp2_with fail
          have hnl' := hnl
          go_loopw [10] (fun i wr4 => ∃ (m : Nat), m ≤ j ∧ i = .int .i64 m ∧ Kept (WSt q j wr4 (.slice na j ncap) rv ns bs (closeTo (rowsB l ns) m) ∧ Below q w1 wr4)) (fun i _ => j - (intOf i).toNat)
          case atStart => exact ⟨0, Nat.zero_le _, rfl, .mk ⟨kM.get.1, kM.get.2.1⟩⟩
          case round =>
            obtain ⟨m, hm, rfl, K⟩ := hrel
            rename World => wd
            have hsq : Sq j (rowsB l ns) := by have := kM.get.2.2.2.1; exact ⟨by simp [rowsB, this], fun r hr => by simp only [rowsB, List.mem_map] at hr; obtain ⟨a, _, rfl⟩ := hr; simp [this]⟩
            by_cases hmn : m < j
            · have hsqm := closeTo_sq hsq m (by omega)
              have kS := Kept.mk hsqm
              clear hsqm hsq
              go_wp2_with fail
              go_loopw [11] (fun i wr5 => ∃ (i2 : Nat), i2 ≤ j ∧ i = .int .i64 i2 ∧ Kept (∃ N, WSt q j wr5 (.slice na j ncap) rv ns bs N ∧ InP j (closeTo (rowsB l ns) m) m i2 0 N ∧ Below q w1 wr5)) (fun i _ => j - (intOf i).toNat)
              case atStart => exact ⟨0, Nat.zero_le _, rfl, .mk ⟨_, K.get.1, .start kS.get, K.get.2⟩⟩
              case round =>
                obtain ⟨i2, hi2, rfl, K⟩ := hrel
                rename World => we
                by_cases hin : i2 < j
                · go_wp2_with fail
                  go_loopw [12] (fun i wr6 => ∃ (k3 : Nat), k3 ≤ j ∧ i = .int .i64 k3 ∧ Kept (∃ N, WSt q j wr6 (.slice na j ncap) rv ns bs N ∧ InP j (closeTo (rowsB l ns) m) m i2 k3 N ∧ Below q w1 wr6)) (fun i _ => j - (intOf i).toNat)
                  case atStart => exact ⟨0, Nat.zero_le _, rfl, .mk K.get⟩
                  case round =>
                    obtain ⟨k3, hk3, rfl, K⟩ := hrel
                    rename World => wf
                    by_cases hkn : k3 < j
                    · obtain ⟨N, W, I, bl⟩ := K.get
                      obtain ⟨r, rm, a, b, c, r1, m1, r3, q3, m3, I2⟩ := I.step hin hkn hmn
                      have hbl : bs.length = j := by rw [W.len]; exact I.sq.1
                      obtain ⟨gr, capr, bi, r', erv, e1, hbi, r1', hrl, hri⟩ := W.row (j := i2) (by omega)
                      obtain ⟨gr', capr', bm, rm', erv', e2, hbm, m1', hml, hrm⟩ := W.row (j := m) (by omega)
                      rw [r1] at r1'; cases r1'
                      rw [m1] at m1'; cases m1'
                      rw [erv] at erv'
                      simp only [Value.slice.injEq, Option.some.injEq, Addr.mk.injEq, and_true, true_and] at erv'
                      obtain ⟨rfl, rfl⟩ := erv'
                      rw [hbl] at erv
                      subst erv
                      have d1 := cell_at (i := k3) (u := .bool a) hri (by simp [r3])
                      have d2 := cell_at (i := m) (u := .bool b) hri (by simp [q3])
                      have d3 := cell_at (i := k3) (u := .bool c) hrm (by simp [m3])
                      have f1 := free_at (i := k3) hri
                      obtain ⟨-, c1, -, -⟩ := W.cells
                      have kN := Kept.mk (And.intro W (And.intro I2 (And.intro bl (And.intro hbi r1))))
                      clear W I bl K r1 m1 r3 q3 m3 I2 hbl hbi hbm hrl hml hri hrm kM
                      cases a with
                      | true =>
                        go_wp2_with fail
                        refine wp_region_still_tail 35 (by kernel_rfl) (by kernel_rfl) ?_
                        simp only [List.take_succ_cons, List.take_zero, List.drop_succ_cons, List.drop_zero]
                        iterate 14 (refine st_plain rfl (fun K hK => ?_); go_simp; refine hK _ ?_; clear hK K)
                        refine st_plain rfl (fun K hK => ?_)
                        go_simp
                        generalize ha' : ({ tmps := _, defers := _ } : Act) = a'
                        refine hK a' ?_
                        clear hK K
                        iterate 18 (refine st_skip (by subst ha'; kernel_rfl) (fun a2 ha2 => ?_); subst ha'; have ha' := ha2; clear ha2)
                        (refine st_plain rfl (fun K hK => ?_); subst ha'; go_simp; refine hK _ ?_; clear hK K)
                        (refine st_plain rfl (fun K hK => ?_); go_simp; refine hK _ ?_; clear hK K)
                        refine wpStill_nil ?_
                        change wpList _ _ _ _ _ wf.drew
                        go_wp2_with fail
                        obtain ⟨W, I2, bl, hbi, r1⟩ := kN.get
                        have W2 := W.set (k := k3) hbi r1 (true)
                        refine ⟨⟨k3 + 1, by omega, by go_num, .mk ⟨_, W2.keep (Nat.le_refl _) (fun _ _ _ => rfl), I2, ?_⟩⟩, by simp [intOf]; omega⟩
                        obtain ⟨r', -, -, -, hq⟩ := W.rows _ _ hbi
                        exact (bl.setCell (p := ⟨bi, k3, none⟩) (by show q ≤ bi; omega) _).drew
                      | false =>
                        cases b with
                        | true =>
                            go_wp2_with fail
                            refine wp_region_still_tail 35 (by kernel_rfl) (by kernel_rfl) ?_
                            simp only [List.take_succ_cons, List.take_zero, List.drop_succ_cons, List.drop_zero]
                            iterate 14 (refine st_plain rfl (fun K hK => ?_); go_simp; refine hK _ ?_; clear hK K)
                            refine st_plain rfl (fun K hK => ?_)
                            go_simp
                            generalize ha' : ({ tmps := _, defers := _ } : Act) = a'
                            refine hK a' ?_
                            clear hK K
                            iterate 9 (refine st_want (by subst ha'; kernel_rfl) (fun K hK => ?_); subst ha'; go_simp; generalize ha' : ({ tmps := _, defers := _ } : Act) = a'; refine hK a' ?_; clear hK K)
                            iterate 8 (refine st_want (by subst ha'; kernel_rfl) (fun K hK => ?_); subst ha'; go_simp; generalize ha' : ({ tmps := _, defers := _ } : Act) = a'; refine hK a' ?_; clear hK K)
                            iterate 1 (refine st_want (by subst ha'; kernel_rfl) (fun K hK => ?_); subst ha'; go_simp; generalize ha' : ({ tmps := _, defers := _ } : Act) = a'; refine hK a' ?_; clear hK K)
                            (refine st_plain rfl (fun K hK => ?_); subst ha'; go_simp; refine hK _ ?_; clear hK K)
                            (refine st_plain rfl (fun K hK => ?_); go_simp; refine hK _ ?_; clear hK K)
                            refine wpStill_nil ?_
                            change wpList _ _ _ _ _ wf.drew
                            go_wp2_with fail
                            obtain ⟨W, I2, bl, hbi, r1⟩ := kN.get
                            have W2 := W.set (k := k3) hbi r1 (c)
                            refine ⟨⟨k3 + 1, by omega, by go_num, .mk ⟨_, W2.keep (Nat.le_refl _) (fun _ _ _ => rfl), I2, ?_⟩⟩, by simp [intOf]; omega⟩
                            obtain ⟨r', -, -, -, hq⟩ := W.rows _ _ hbi
                            exact (bl.setCell (p := ⟨bi, k3, none⟩) (by show q ≤ bi; omega) _).drew
                        | false =>
                            go_wp2_with fail
                            refine wp_region_still_tail 35 (by kernel_rfl) (by kernel_rfl) ?_
                            simp only [List.take_succ_cons, List.take_zero, List.drop_succ_cons, List.drop_zero]
                            iterate 14 (refine st_plain rfl (fun K hK => ?_); go_simp; refine hK _ ?_; clear hK K)
                            refine st_plain rfl (fun K hK => ?_)
                            go_simp
                            generalize ha' : ({ tmps := _, defers := _ } : Act) = a'
                            refine hK a' ?_
                            clear hK K
                            iterate 9 (refine st_want (by subst ha'; kernel_rfl) (fun K hK => ?_); subst ha'; go_simp; generalize ha' : ({ tmps := _, defers := _ } : Act) = a'; refine hK a' ?_; clear hK K)
                            iterate 8 (refine st_skip (by subst ha'; kernel_rfl) (fun a2 ha2 => ?_); subst ha'; have ha' := ha2; clear ha2)
                            iterate 1 (refine st_want (by subst ha'; kernel_rfl) (fun K hK => ?_); subst ha'; go_simp; generalize ha' : ({ tmps := _, defers := _ } : Act) = a'; refine hK a' ?_; clear hK K)
                            (refine st_plain rfl (fun K hK => ?_); subst ha'; go_simp; refine hK _ ?_; clear hK K)
                            (refine st_plain rfl (fun K hK => ?_); go_simp; refine hK _ ?_; clear hK K)
                            refine wpStill_nil ?_
                            change wpList _ _ _ _ _ wf.drew
                            go_wp2_with fail
                            obtain ⟨W, I2, bl, hbi, r1⟩ := kN.get
                            have W2 := W.set (k := k3) hbi r1 (false)
                            refine ⟨⟨k3 + 1, by omega, by go_num, .mk ⟨_, W2.keep (Nat.le_refl _) (fun _ _ _ => rfl), I2, ?_⟩⟩, by simp [intOf]; omega⟩
                            obtain ⟨r', -, -, -, hq⟩ := W.rows _ _ hbi
                            exact (bl.setCell (p := ⟨bi, k3, none⟩) (by show q ≤ bi; omega) _).drew
                    · obtain ⟨N, W, I, bl⟩ := K.get
                      have hk3j : k3 = j := by omega
                      rw [hk3j] at I
                      have kE := Kept.mk (And.intro W (And.intro I bl))
                      clear W I bl K kM
                      go_wp2_with fail
                      obtain ⟨W, I, bl⟩ := kE.get
                      exact ⟨⟨i2 + 1, by omega, by go_num, .mk ⟨N, W, I.next, bl⟩⟩, by simp [intOf]; omega⟩
                · obtain ⟨N, W, I, bl⟩ := K.get
                  have hi2j : i2 = j := by omega
                  rw [hi2j] at I
                  have hN := InP.done kS.get hmn I
                  have kE := Kept.mk (And.intro W (And.intro hN bl))
                  clear W I bl K kM hN
                  go_wp2_with fail
                  obtain ⟨W, hN, bl⟩ := kE.get
                  refine ⟨⟨m + 1, by omega, by go_num, .mk ⟨?_, bl⟩⟩, by simp [intOf]; omega⟩
                  rw [closeTo, ← hN]
                  exact W
            · obtain ⟨W, bl⟩ := K.get
              obtain ⟨-, -, hns0, hn, hnsz, bel1⟩ := kM.get
              have hmj : m = j := by omega
              subst hmj
              have hres1 : w1.heap[w.heap.size]? = some (.cells #[.slice none 0 0, .slice none 0 0] 52 (0, 0)) := by rw [← hw1]; exact alloc_at rfl
              have hres := (bl.block w.heap.size (by omega)).trans hres1
              have hbl : bs.length = m := by rw [W.len]; have := (closeTo_sq hsq m (Nat.le_refl _)).1; exact this
              obtain ⟨ra, rcap, erv⟩ := W.rv_eq
              rw [hbl] at erv
              subst erv
              obtain ⟨c0, c1, -, -⟩ := W.cells
              have a0 := cell_at (i := 0) hres rfl
              have a1 := cell_at (i := 1) hres rfl
              have g0 := free_at (i := 0) hres
              have g1 := free_at (i := 1) hres
              have kE := Kept.mk (And.intro W (And.intro bl (And.intro hns0 (And.intro hn (And.intro hnsz (And.intro bel1 hbl))))))
              clear W bl hns0 hn hnsz bel1 hres1 hres K kM hsq hbl
              go_wp2_with fail
              refine bodyPost_ret (v := .agg #[.slice na m ncap, .slice ra m rcap]) ?_ rfl ⟨_, rfl, ?_, ?_⟩
              · simp [results, Go.Proofs.Tryz.results25, go_sem, cell_set, a0, a1]
              · obtain ⟨W, bl, hns0, hn, hnsz, bel1, hbl⟩ := kE.get
                have hlim : lim = 140737488355328 := rfl
                have W' : WSt q m ((wd.setCell ⟨w.heap.size, 0, none⟩ (.slice na m ncap)).setCell ⟨w.heap.size, 1, none⟩ (.slice ra m rcap)) _ _ ns bs _ := W.keep (by simp [World.setCell]) fun k' h1 h2 => by rw [Below.heap_setCell _ _ _ _ (by show k' ≠ w.heap.size; omega), Below.heap_setCell _ _ _ _ (by show k' ≠ w.heap.size; omega)]
                have e : l8B l = spec_l8Web.mk ns (closeTo (rowsB l ns) m) := by
                  unfold l8B
                  simp only [hns0, hn]
                rw [e]
                exact fun G hK => W'.r (fun b i u hb => hK b i u (by omega)) hnsz (by omega) (by omega) (by omega)
              · obtain ⟨W, bl, hns0, hn, hnsz, bel1, hbl⟩ := kE.get
                exact ((bel1.trans (bl.mono (by omega))).setCell (p := ⟨w.heap.size, 0, none⟩) (Nat.le_refl _) _).setCell (p := ⟨w.heap.size, 1, none⟩) (Nat.le_refl _) _
end Q
end W
