/- HL: operations, eighth part: append. -/
import Derived.Test.YtamneeogomklgaaGreatHLSound7
set_option linter.unusedSimpArgs false
set_option linter.unusedVariables false
set_option linter.unusedSectionVars false
namespace HL
open Go
section
variable {P : Program} {N : Nat} {fz : Bool} {env : Env} {st : St} {k : HV → St → Prop} {G : Gh} {w : World} {a : Act} {o : Oper}
theorem append_room {t ty e : TypeId} {i : TypeInfo} {w : World} (ht : P.underlying t = some (.slice e)) (hi : P.info? e = some i)
    {g sLen sCap : Nat} {cur : Array Value} {t' : TypeId} (hg : w.heap[g]? = some (.cells cur t' (0, 0)))
    {a : Addr} {m c : Nat} {news : List Value} (hl : news.length = m * i.size) (hnews : ∀ (j : Nat) u, news[j]? = some u → w.cell? (a.add j) = some u) (h1 : ∀ u ∈ news, u.oneCell' = true)
    (hroom : sLen + m ≤ sCap) (hfit : sLen * i.size + news.length ≤ cur.size) :
    (Builtin.append_ #[t, t] ty #[.slice (some ⟨g, 0, none⟩) sLen sCap, .slice (some a) m c]).run P w =
      .ok (.slice (some ⟨g, 0, none⟩) (sLen + m) sCap) (w.setRow g (cur.toList.take (sLen * i.size) ++ news ++ cur.toList.drop (sLen * i.size + news.length)).toArray) := by
  have hf := run_firstCells_some (P := P) w i.size m a m c news hl hnews
  have hst := run_storeCells_at P g (sLen * i.size) t' news 0 cur w hg (by simpa using hfit) h1
  simp only [Nat.add_zero] at hst
  simp [Builtin.append_, run_underlying ht, Go.sizeOf, typeInfo, hi, Builtin.lenOf, hroom, hf, Addr.add_lit, hst]
theorem append_none {t ty e : TypeId} {i : TypeInfo} {w : World} (ht : P.underlying t = some (.slice e)) (hi : P.info? e = some i) {p q : Option Addr} {n cap cap2 : Nat} (hc : n ≤ cap) :
    (Builtin.append_ #[t, t] ty #[.slice p n cap, .slice q 0 cap2]).run P w = .ok (.slice p n cap) w := by
  cases p <;> cases q <;> simp [Builtin.append_, run_underlying ht, Go.sizeOf, typeInfo, hi, Builtin.lenOf, hc, Builtin.firstCells, loadCells, loadCellsFrom, storeCells]
def Kadd (K : Nat → Nat → Option Value) (b : Nat) (us : List Value) : Nat → Nat → Option Value := fun b' k => if b' = b ∧ k < us.length then us[k]? else K b' k
theorem set_same {s : List Info} {id : Nat} {i : Info} (h : s[id]? = some i) : s.set id i = s := by
  apply List.ext_getElem?
  intro j
  by_cases e : id = j
  · subst e
    have hlt : id < s.length := by
      rcases Nat.lt_or_ge id s.length with h' | h'
      · exact h'
      · simp [List.getElem?_eq_none h'] at h
    simp [hlt]
    rw [List.getElem?_eq_getElem hlt] at h
    exact (Option.some.inj h).symm
  · rw [List.getElem?_set_ne e]
theorem grown_put (hr : Rel P G st w) {id : Nat} {info : Info} {sz : Nat} {l l2 : List HV} {m : Bool} (hi : G.s[id]? = some info) (hst : st[id]? = some (.arr sz l m)) (hl2 : l2 ≠ []) {w' : World} {blk cap : Nat} {c : Array Value} {t : TypeId} {us : List Value}
    (hos : w'.os = w.os) (ht : w'.tape = w.tape) (hout : w'.output = w.output) (hsz : w.heap.size ≤ w'.heap.size)
    (hh : ∀ k, k < w.heap.size → info.blk ≠ some k → w'.heap[k]? = w.heap[k]?) (hblk : info.blk = some blk ∨ w.heap.size ≤ blk)
    (hcell : w'.heap[blk]? = some (.cells c t (0, 0))) (hR : R G (.vals us (flatL (l ++ l2)))) (hU : Uni sz (l ++ l2)) (hF : ∀ c ∈ flatL (l ++ l2), c.flat = true)
    (hus : ∀ (k : Nat) (u : Value), us[k]? = some u → c[k]? = some u) (hcap : (l ++ l2).length ≤ cap) (hlim : (l ++ l2).length ≤ lim) (hsize : cap * sz ≤ c.size) (hcm : cap ≤ 9223372036854775807)
    (hold : ∀ b i u, G.K b i = some u → info.blk = some b → w'.cell? ⟨b, i, none⟩ = some u)
    (hsp : ∀ k, (l ++ l2).length * sz ≤ k → k < cap * sz → G.K blk k = none)
    (hmu : m = true → ∀ k, k < (l ++ l2).length * sz → G.K blk k = none)
    (hfr : m = false → ∀ (k : Nat) (u : Value), G.K blk k = some u → ∀ u', us[k]? = some u' → u' = u) :
    ∃ G', Rel P G' (st.set id (.arr sz (l ++ l2) m)) w' ∧ R G' (.val (.slice (some ⟨blk, 0, none⟩) (l ++ l2).length cap) (.own id (l ++ l2).length)) ∧ Step G w G' w' := by
  obtain ⟨hz, hf⟩ := hr.obj id info _ hi hst
  have rl := hf l m rfl
  have hzz : info.sz = sz := hz
  have hlt : id < G.s.length := by
    rcases Nat.lt_or_ge id G.s.length with h | h
    · exact h
    · simp [List.getElem?_eq_none h] at hi
  let info' : Info := ⟨some blk, sz, (l ++ l2).length, cap⟩
  let K' := if m then G.K else Kadd G.K blk us
  have hul : us.length = (l ++ l2).length * sz := by rw [hR.vals_length, flatL_length hU]
  have hlen : l.length < (l ++ l2).length := by
    have : 0 < l2.length := List.length_pos_iff.2 hl2
    simp; omega
  have hKK : ∀ b i u, G.K b i = some u → K' b i = some u := by
    intro b i u hu
    cases hm : m with
    | true => simpa [K', hm] using hu
    | false =>
      simp only [K', hm, Bool.false_eq_true, if_false, Kadd]
      split
      · rename_i h
        obtain ⟨rfl, hlt'⟩ := h
        rw [List.getElem?_eq_getElem hlt']
        have := hfr hm i u hu us[i] (List.getElem?_eq_getElem hlt')
        rw [this]
      · exact hu
  have hKn : ∀ b i u, K' b i = some u → G.K b i = some u ∨ info'.blk = some b := by
    intro b i u hu
    cases hm : m with
    | true => left; simpa [K', hm] using hu
    | false =>
      simp only [K', hm, Bool.false_eq_true, if_false, Kadd] at hu
      split at hu
      · rename_i h; exact .inr (by rw [h.1])
      · exact .inl hu
  have hKc : ∀ b i u, K' b i = some u → (info.blk = some b ∨ info'.blk = some b) → w'.cell? ⟨b, i, none⟩ = some u := by
    intro b i u hu hb
    by_cases e : m = false ∧ b = blk ∧ i < us.length
    · obtain ⟨hm, rfl, hlt'⟩ := e
      simp only [K', hm, Bool.false_eq_true, if_false, Kadd, hlt', and_self, if_true] at hu
      exact cell_of_row hcell (hus i u hu)
    · have hu' : G.K b i = some u := by
        cases hm : m with
        | true => simpa [K', hm] using hu
        | false =>
          simp only [K', hm, Bool.false_eq_true, if_false, Kadd] at hu
          rw [if_neg (fun h => e ⟨hm, h⟩)] at hu
          exact hu
      rcases hb with hb | hb
      · exact hold b i u hu' hb
      · rcases hblk with h | h
        · exact hold b i u hu' (by rw [h]; exact hb)
        · cases hb
          have := hr.K_lt hu'
          omega
  have hR' : R ⟨G.base, K', G.s.set id info'⟩ (.vals us (flatL (l ++ l2))) := by
    refine R.mono_gh (G := G) (G' := ⟨G.base, K', G.s.set id info'⟩) rfl hKK (fun j i hj => ?_) hR
    by_cases e : id = j
    · subst e
      rw [hi] at hj
      cases hj
      refine ⟨info', by simp [hlt], by rw [rl.n]; exact Nat.le_of_lt hlen, hzz.symm, fun e => ?_⟩
      have : (l ++ l2).length = info.n := e
      rw [rl.n] at this
      omega
    · exact ⟨i, by rw [List.getElem?_set_ne e]; exact hj, Nat.le_refl _, rfl, fun _ => rfl⟩
  have hput := Rel.put hr (w' := w') (K' := K') (info' := info') (o' := .arr sz (l ++ l2) m) (l' := l ++ l2) (m' := m) hi hst rfl rfl rfl hos ht hout hsz hh hKK hKn hKc
    (by rcases hblk with h | h
        · exact .inl h.symm
        · exact .inr fun b hb => by cases hb; exact h) (by rw [rl.n]; exact Nat.le_of_lt hlen) hzz.symm (fun e => by
      have : (l ++ l2).length = info.n := e
      rw [rl.n] at this
      omega)
    ⟨rfl, hcap, hlim, hU, hF, ⟨(fun h => by cases h), hcm⟩, fun b hb => by
      cases hb
      refine ⟨c, t, us, hcell, hsize, hR', hus, fun k h1 h2 => ?_, fun hm k hk => ?_, fun hm k u hu => ?_⟩
      · have h0 := hsp k h1 h2
        have hnl : ¬ k < us.length := by rw [hul]; exact Nat.not_lt.2 h1
        cases hm : m with
        | true => simpa [K', hm] using h0
        | false => simp only [K', hm, Bool.false_eq_true, if_false, Kadd, hnl, and_false]; exact h0
      · simp only [K', hm, if_true]
        exact hmu hm k hk
      · have hlt' : k < us.length := by
          rcases Nat.lt_or_ge k us.length with h | h
          · exact h
          · simp [List.getElem?_eq_none h] at hu
        simp only [K', hm, Bool.false_eq_true, if_false, Kadd, hlt', and_self, if_true]
        exact hu⟩
  exact ⟨_, hput.1, .own (info := info') (by simp [hlt]) (Nat.le_refl _) fun _ => ⟨fun b hb => by cases hb; rfl, rfl⟩, hput.2⟩
theorem hvOf_size {v : Value} {h : HV} (hh : hvOf v = some h) : v.cells.size = h.cells.length := by
  unfold hvOf at hh
  split at hh
  · rename_i cs
    simp only [Option.map_eq_some_iff] at hh
    obtain ⟨hs, h1, rfl⟩ := hh
    have := mapM_len h1
    simp [Value.cells, HV.cells, this]
  · split at hh
    · cases hh; rfl
    · cases hh
  · unfold cell1 at hh
    split at hh <;> first
      | (cases hh; rfl)
      | (split at hh
         · cases hh; rfl
         · cases hh)
      | cases hh
theorem do_append {t e : TypeId} {x y : Operand} {hx hy : HArg} {as : Array Operand} {sz bytes : Nat} (ho : o.op = .call { callee := .builtin .append, args := as, argTypes := #[t, t] }) (hs : as.size = 2) (h0 : as[0]? = some x) (h1 : as[1]? = some y)
    (hte : elemT P t = some e) (hz : szT P e = some sz) (hby : bytesT P e = some bytes) {z : HV} (hzero : zeroT P e = some z) (hzl : some z.cells.length = szT P e) (ha : arg x = some hx) (hb : arg y = some hy)
    (hv : vcOp P fz env st (.append sz bytes hx hy) k) (hr : Rel P G st w) (he : REnv N G a env) : Does P o a G w k := by
  have hu := elem_of hte
  obtain ⟨p1, p2, rfl⟩ : ∃ p q, as = #[p, q] := by
    match as, hs with
    | ⟨[p, q]⟩, _ => exact ⟨p, q, rfl⟩
  simp at h0 h1
  subst h0 h1
  obtain ⟨i, hi, hsz⟩ := info_of hz
  have hbb : i.bytes = bytes := by
    unfold bytesT at hby
    rw [hi] at hby
    simpa using hby
  unfold zeroT at hzero
  simp only [hi, Option.bind_some, Option.bind_eq_some_iff] at hzero
  obtain ⟨zv, hzv, hzh⟩ := hzero
  have hzs : zv.cells.size = i.size := by
    rw [hvOf_size hzh]
    rw [hz] at hzl
    rw [hsz]
    exact Option.some.inj hzl
  have key : ∀ v w', (Builtin.append_ #[t, t] o.type #[a.eval p1, a.eval p2]).run P w = .ok v w' → (execOp a.eval o).run P w = .ok (.value v) w' := by
    intro v w' h
    simp [execOp, ho, resolve, invoke, builtin, h]
  simp only [vcOp] at hv
  split at hv
  · rename_i hva hvb e1 e2
    split at hv
    · rename_i l2 hl2
      obtain ⟨hb256, hpos, hcl, hv⟩ := hv
      have hY := elemsOf_sound he hr hb e2 hl2
      -- what is appended, when there is something
      have hYs : l2 ≠ [] → ∃ b base cap us, a.eval p2 = .slice (some ⟨b, base, none⟩) l2.length cap ∧ R G (.vals us (flatL l2)) ∧
          (∀ (k : Nat) (u : Value), us[k]? = some u → w.cell? ((⟨b, base, none⟩ : Addr).add k) = some u) ∧ (∀ c ∈ flatL l2, c.flat = true) ∧ us.length = l2.length * i.size ∧ (∀ u ∈ us, u.oneCell' = true) := by
        intro hne
        rcases hY with ⟨_, _, _, h⟩ | ⟨b, base, cap, sz', us, h1, h2, h3, h4, h5, h6, h7⟩
        · exact absurd h hne
        · refine ⟨b, base, cap, us, h1, h3, fun k u hu => by rw [addr_add]; exact h4 k u hu, h5, by rw [h3.vals_length, flatL_length (sz := sz) hcl, hsz], fun u hu => ?_⟩
          obtain ⟨j, hj⟩ := List.getElem?_of_mem hu
          obtain ⟨hh, hj1, hj2⟩ := h3.vals_get' j u hj
          exact hj2.one (h5 hh (List.mem_of_getElem? hj1))
      have hY0 : l2 = [] → ∃ q cap, a.eval p2 = .slice q 0 cap := by
        intro hnil
        rcases hY with ⟨p, h, _, _⟩ | ⟨b, base, cap, sz', us, h1, _⟩
        · exact ⟨_, _, h⟩
        · rw [hnil] at h1
          exact ⟨_, _, h1⟩
      split at hv
      · -- nils
        have r := he.ev ha e1
        generalize hq : a.eval p1 = u at r key
        cases r with
        | nils =>
          rename_i p
          split at hv
          · rename_i hnil
            obtain ⟨q, cap, hyv⟩ := hY0 hnil
            rcases hv with hv | hv
            · exact .val (key _ _ (by rw [hyv]; exact append_none hu hi (Nat.le_refl _))) hv hr .nils
            · obtain ⟨h1, h2⟩ := hr.new (w' := w) (o := .arr sz [] true) (l := []) (m := true) (info := ⟨none, sz, 0, 0⟩) rfl rfl rfl rfl rfl (Nat.le_refl _) (fun _ _ => rfl) (fun b hb => by cases hb)
                ⟨rfl, Nat.le_refl _, by simp [lim], (fun x hx => by cases hx), (fun c hc => by simp at hc), ⟨(fun _ => rfl), Nat.zero_le _⟩, (fun b hb => by cases hb)⟩
              exact ⟨_, w, .inl (key _ _ (by rw [hyv]; exact append_none hu hi (Nat.le_refl _))), _, _, _, hv, h1, .own (info := ⟨none, sz, 0, 0⟩) (by simp [hr.len]) (Nat.le_refl _) fun _ => ⟨(fun b hb => by cases hb), rfl⟩, h2⟩
          · rename_i hne
            obtain ⟨hg, hk⟩ := hv
            obtain ⟨b, base, cap, us, hyv, hR, hcell, hF, hul, hone⟩ := hYs hne
            have hn0 : 0 < l2.length := List.length_pos_iff.2 hne
            have hsmall : l2.length * i.bytes ≤ 281474976710656 := by
              have : l2.length * i.bytes ≤ 549755813888 * 256 := Nat.mul_le_mul (by unfold grow at hg; exact hg) (by rw [hbb]; exact hb256)
              omega
            have hgr : l2.length ≤ 549755813888 := by unfold grow at hg; exact hg
            have hrun : ∃ c : Array Value, (Builtin.append_ #[t, t] o.type #[.slice p 0 0, a.eval p2]).run P w = .ok (.slice (some ⟨w.heap.size, 0, none⟩) l2.length (grownCap w l2.length 0 e)) (w.drew.alloc (.cells c e)) ∧ c = us.toArray ++ Builtin.zeroCells zv.cells (grownCap w l2.length 0 e - l2.length) := by
              rw [hyv]
              cases p with
              | none => exact ⟨_, run_append_nil (P := P) w t o.type e i zv hu hi hzv _ _ cap us hul hcell hn0 (by omega) hsmall, rfl⟩
              | some q =>
                refine ⟨_, ?_, rfl⟩
                have := run_append_grow (P := P) w t o.type e i zv hu hi hzv q 0 0 [] (by simp) (by simp) _ _ cap us hul hcell (by omega) (by omega) (by
                  rw [Nat.zero_add, nextslicecap_zero hn0]; exact hsmall)
                simpa using this
            obtain ⟨c, hrun, hc⟩ := hrun
            have hge := grownCap_ge w l2.length 0 e
            obtain ⟨G', g1, g2, g3⟩ := new_arr hr (sz := sz) (cap := grownCap w l2.length 0 e) (l := l2) (us := us) (c := c) (t := e) hcl hR hF (fun k u hku => by
                have hlt' : k < us.length := by
                  rcases Nat.lt_or_ge k us.length with h | h
                  · exact h
                  · simp [List.getElem?_eq_none h] at hku
                rw [hc, Array.getElem?_append_left (by simpa using hlt')]
                simpa using hku) hge (by unfold lim; omega) (by
                rw [hc, Array.size_append, size_zeroCells, hzs, hsz, List.size_toArray, hul, hsz, ← Nat.add_mul]
                exact Nat.mul_le_mul_right _ (by omega)) (by have := grownCap_le_maxLen w l2.length 0 e (by unfold Go.maxLen; omega); unfold Go.maxLen at this; omega) (.inr rfl)
            exact ⟨_, _, .inl (key _ _ hrun), _, G', _, hk, g1, g2, g3⟩
      · -- frozen
        obtain ⟨hnil, hk⟩ := hv
        obtain ⟨q, cap, hyv⟩ := hY0 hnil
        have r := he.ev ha e1
        rcases sl_of he ha e1 with ⟨⟨p0, hx'⟩, hl⟩ | ⟨b, base, cap', sz', us, hx', _, _, _, _, hc, _⟩
        · refine .val (v := a.eval p1) (key _ _ ?_) hk hr r
          rw [hyv, hx']
          exact append_none hu hi (Nat.le_refl _)
        · refine .val (v := a.eval p1) (key _ _ ?_) hk hr r
          rw [hyv, hx']
          exact append_none hu hi hc
      · -- own
        rename_i id n
        split at hv
        · rename_i sz' l m hst
          obtain ⟨rfl, rfl, hv⟩ := hv
          obtain ⟨info, g1, g2, g3, p0, g4, gp⟩ := own_of he hr ha e1 hst
          split at hv
          · rename_i hnil
            obtain ⟨q, cap, hyv⟩ := hY0 hnil
            refine .val (v := a.eval p1) (key _ _ ?_) hv hr (he.ev ha e1)
            rw [hyv, g4]
            exact append_none hu hi g3.cap
          · rename_i hne
            obtain ⟨hg, hk⟩ := hv
            obtain ⟨b2, base2, cap2, us2, hyv, hR2, hcell2, hF2, hul2, hone2⟩ := hYs hne
            have hn0 : 0 < l2.length := List.length_pos_iff.2 hne
            have hgr : l.length + l2.length ≤ 549755813888 := by unfold grow at hg; exact hg
            have hsmall : (l.length + l2.length) * i.bytes ≤ 281474976710656 := by
              have : (l.length + l2.length) * i.bytes ≤ 549755813888 * 256 := Nat.mul_le_mul hgr (by rw [hbb]; exact hb256)
              omega
            have hsmall2 : (l.length + l2.length) * i.bytes ≤ 140737488355328 := by
              have : (l.length + l2.length) * i.bytes ≤ 549755813888 * 256 := Nat.mul_le_mul hgr (by rw [hbb]; exact hb256)
              omega
            have hU : Uni sz' (l ++ l2) := by
              intro y hy
              rcases List.mem_append.1 hy with h | h
              · rw [← g2]; exact g3.uni y h
              · exact hcl y h
            have hF : ∀ c ∈ flatL (l ++ l2), c.flat = true := by
              intro c hc
              simp only [flatL, List.flatMap_append, List.mem_append] at hc
              rcases hc with h | h
              · exact g3.flat c h
              · exact hF2 c h
            have hlen : (l ++ l2).length = l.length + l2.length := by simp
            have hlim : (l ++ l2).length ≤ lim := by rw [hlen]; unfold lim; omega
            cases hblk : info.blk with
            | none =>
              have hc0 := g3.nil.1 hblk
              have hl0 : l = [] := List.eq_nil_of_length_eq_zero (by have := g3.cap; omega)
              subst hl0
              rw [hc0] at g4
              simp only [List.length_nil] at g4
              have hge := grownCap_ge w l2.length 0 e
              have hrun : (Builtin.append_ #[t, t] o.type #[.slice p0 0 0, .slice (some ⟨b2, base2, none⟩) l2.length cap2]).run P w = .ok (.slice (some ⟨w.heap.size, 0, none⟩) l2.length (grownCap w l2.length 0 e)) (w.drew.alloc (.cells (us2.toArray ++ Builtin.zeroCells zv.cells (grownCap w l2.length 0 e - l2.length)) e)) := by
                cases p0 with
                | none => exact run_append_nil (P := P) w t o.type e i zv hu hi hzv _ _ cap2 us2 hul2 hcell2 hn0 (by omega) (by simpa using hsmall)
                | some q =>
                  have := run_append_grow (P := P) w t o.type e i zv hu hi hzv q 0 0 [] (by simp) (by simp) _ _ cap2 us2 hul2 hcell2 (by omega) (by omega) (by
                    rw [Nat.zero_add, nextslicecap_zero hn0]; simpa using hsmall)
                  simpa using this
              rw [← hyv, ← g4] at hrun
              obtain ⟨G', b1, b2, b3⟩ := grown_put hr (l2 := l2) (w' := w.drew.alloc (.cells (us2.toArray ++ Builtin.zeroCells zv.cells (grownCap w l2.length 0 e - l2.length)) e)) (blk := w.heap.size) (cap := grownCap w l2.length 0 e) (us := us2) g1 hst hne rfl rfl rfl (by simp)
                (fun k hk _ => heap_alloc_old w.drew _ k hk) (.inr (Nat.le_refl _)) (heap_alloc_new w.drew _) (by simpa using hR2) hU hF (fun k u hku => by
                  have hlt' : k < us2.length := by
                    rcases Nat.lt_or_ge k us2.length with h | h
                    · exact h
                    · simp [List.getElem?_eq_none h] at hku
                  rw [Array.getElem?_append_left (by simpa using hlt')]
                  simpa using hku) (by simpa using hge) hlim (by
                  rw [Array.size_append, size_zeroCells, hzs, hsz, List.size_toArray, hul2, hsz, ← Nat.add_mul]
                  exact Nat.mul_le_mul_right _ (by omega)) (by have := grownCap_le_maxLen w l2.length 0 e (by unfold Go.maxLen; omega); unfold Go.maxLen at this; omega) (fun b i u _ hb => by rw [hblk] at hb; cases hb) (fun k _ _ => K_new hr k) (fun _ k _ => K_new hr k) (fun _ k u hu' => by rw [K_new hr k] at hu'; cases hu')
              refine ⟨_, _, .inl (key _ _ hrun), _, G', _, hk, by simpa using b1, by simpa using b2, b3⟩
            | some b =>
              obtain ⟨c, tt, us, h1, h2, h3, h4, h5, h6, h7⟩ := g3.row b hblk
              rw [gp b hblk] at g4
              subst g2
              have hul : us.length = l.length * i.size := by rw [h3.vals_length, flatL_length g3.uni, hsz]
              have hRa : R G (.vals (us ++ us2) (flatL (l ++ l2))) := by simp only [flatL, List.flatMap_append]; exact h3.vals_append hR2
              by_cases hroom : l.length + l2.length ≤ info.cap
              · have hcapm : (l.length + l2.length) * info.sz ≤ info.cap * info.sz := Nat.mul_le_mul_right _ hroom
                have hfit : l.length * i.size + us2.length ≤ c.size := by rw [hul2, ← Nat.add_mul, hsz]; omega
                have hrun := append_room (P := P) (ty := o.type) hu hi h1 (a := ⟨b2, base2, none⟩) (m := l2.length) (c := cap2) hul2 hcell2 hone2 hroom hfit
                rw [← hyv, ← g4] at hrun
                generalize hcc : (c.toList.take (l.length * i.size) ++ us2 ++ c.toList.drop (l.length * i.size + us2.length)) = cc at hrun
                have hccl : cc.length = c.size := by rw [← hcc]; simp; omega
                have hccget : ∀ k, l.length * i.size + us2.length ≤ k → cc[k]? = c[k]? := by
                  intro k hk
                  rw [← hcc]
                  have m1 : min (l.length * i.size) c.size = l.length * i.size := by omega
                  simp only [List.getElem?_append, List.length_append, List.length_take, Array.length_toList, m1, List.getElem?_drop]
                  rw [if_neg (by omega), show l.length * i.size + us2.length + (k - (l.length * i.size + us2.length)) = k by omega]
                  simp
                have hcclow : ∀ (k : Nat) (u : Value), (us ++ us2)[k]? = some u → cc.toArray[k]? = some u := by
                  intro k u hku
                  rw [← hcc]
                  have m1 : min (l.length * i.size) c.size = l.length * i.size := by omega
                  simp only [List.getElem?_toArray, List.getElem?_append, List.length_append, List.length_take, Array.length_toList, m1, List.getElem?_take] at hku ⊢
                  rw [hul] at hku
                  by_cases q1 : k < l.length * i.size
                  · rw [if_pos q1] at hku
                    rw [if_pos (by omega), if_pos q1, if_pos q1]
                    have := h4 k u hku
                    simpa using this
                  · rw [if_neg q1] at hku
                    have : k - l.length * i.size < us2.length := by
                      rcases Nat.lt_or_ge (k - l.length * i.size) us2.length with h | h
                      · exact h
                      · simp [List.getElem?_eq_none h] at hku
                    rw [if_pos (by omega), if_neg q1]
                    exact hku
                have hspn : ∀ k, l.length * info.sz ≤ k → k < info.cap * info.sz → G.K b k = none := h5
                obtain ⟨G', b1, b2', b3⟩ := grown_put hr (l2 := l2) (w' := w.setRow b cc.toArray) (blk := b) (cap := info.cap) (us := us ++ us2) g1 hst hne rfl rfl rfl (by simp)
                  (fun k hk hne' => setRow_other w b k _ (fun e' => hne' (by rw [hblk, e']))) (.inl hblk) (setRow_heap w b c _ tt _ h1) hRa hU hF hcclow (by rw [hlen]; exact hroom) hlim (by simpa [hccl] using h2) g3.nil.2
                  (fun b' j u hu' hb' => by
                    rw [hblk] at hb'
                    cases hb'
                    have hc0 : c[j]? = some u := by simpa [World.cell?, h1] using hr.kc _ _ _ hu'
                    refine cell_of_row (setRow_heap w b c _ tt _ h1) ?_
                    by_cases q : j < l.length * info.sz
                    · have : (us ++ us2)[j]? = some u := by
                        rw [List.getElem?_append_left (by rw [hul, hsz]; exact q)]
                        have hlt' : j < us.length := by rw [hul, hsz]; exact q
                        have := h4 j us[j] (List.getElem?_eq_getElem hlt')
                        rw [hc0] at this
                        rw [List.getElem?_eq_getElem hlt', Option.some.inj this]
                      exact hcclow j u this
                    · have hno : ¬ j < info.cap * info.sz := fun h => by rw [hspn j (by omega) h] at hu'; cases hu'
                      rw [List.getElem?_toArray, hccget j (by rw [hul2, ← Nat.add_mul, hsz]; omega)]
                      exact hc0)
                  (fun k q1 q2 => h5 k (by rw [hlen, Nat.add_mul] at q1; omega) q2)
                  (fun hm k q => by
                    by_cases q' : k < l.length * info.sz
                    · exact h6 hm k q'
                    · exact h5 k (by omega) (by rw [hlen] at q; omega))
                  (fun hm k u hu' u' hu'' => by
                    by_cases q' : k < l.length * info.sz
                    · rw [List.getElem?_append_left (by rw [hul, hsz]; exact q')] at hu''
                      have := h7 hm k u' hu''
                      rw [hu'] at this
                      exact (Option.some.inj this).symm
                    · exfalso
                      have hlt' : k < (us ++ us2).length := by
                        rcases Nat.lt_or_ge k (us ++ us2).length with h | h
                        · exact h
                        · simp [List.getElem?_eq_none h] at hu''
                      rw [List.length_append, hul, hul2, ← Nat.add_mul, hsz] at hlt'
                      rw [h5 k (by omega) (by omega)] at hu'
                      cases hu')
                rw [hlen] at b2'
                exact ⟨_, _, .inl (key _ _ hrun), _, G', _, hk, b1, b2', b3⟩
              · have hge := grownCap_ge w (l.length + l2.length) info.cap e
                have hrun := run_append_grow (P := P) w t o.type e i zv hu hi hzv ⟨b, 0, none⟩ l.length info.cap us hul (fun j v hj => by rw [addr_add]; simpa using cell_of_row h1 (h4 j v hj)) _ _ cap2 us2 hul2 hcell2 (by omega) (by omega) (growslice_fits (by omega) hsmall2)
                rw [← hyv, ← g4] at hrun
                obtain ⟨G', b1, b2', b3⟩ := grown_put hr (l2 := l2) (w' := w.drew.alloc (.cells (us.toArray ++ us2.toArray ++ Builtin.zeroCells zv.cells (grownCap w (l.length + l2.length) info.cap e - (l.length + l2.length))) e)) (blk := w.heap.size) (cap := grownCap w (l.length + l2.length) info.cap e) (us := us ++ us2) g1 hst hne rfl rfl rfl (by simp)
                  (fun k hk _ => heap_alloc_old w.drew _ k hk) (.inr (Nat.le_refl _)) (heap_alloc_new w.drew _) hRa hU hF (fun k u hku => by
                    have hlt' : k < (us ++ us2).length := by
                      rcases Nat.lt_or_ge k (us ++ us2).length with h | h
                      · exact h
                      · simp [List.getElem?_eq_none h] at hku
                    rw [Array.getElem?_append_left (by simpa using hlt')]
                    simpa using hku) (by rw [hlen]; exact hge) hlim (by
                    rw [Array.size_append, size_zeroCells, hzs, hsz, Array.size_append, List.size_toArray, List.size_toArray, hul, hul2, hsz, ← Nat.add_mul, ← Nat.add_mul]
                    exact Nat.mul_le_mul_right _ (by omega)) (by have := grownCap_le_maxLen w (l.length + l2.length) info.cap e (by unfold Go.maxLen; omega); unfold Go.maxLen at this; omega) (fun b' j u hu' hb' => by
                    have := hr.K_lt hu'
                    exact cell_same (heap_alloc_old w.drew _ _ this) (hr.kc _ _ _ hu')) (fun k _ _ => K_new hr k) (fun _ k _ => K_new hr k) (fun _ k u hu' => by rw [K_new hr k] at hu'; cases hu')
                rw [hlen] at b2'
                exact ⟨_, _, .inl (key _ _ hrun), _, G', _, hk, b1, b2', b3⟩
        · exact hv.elim
      · exact hv.elim
    · exact hv.elim
  · exact hv.elim
end
end HL
