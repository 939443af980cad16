/- Draws: the programs that are read of texts; the law. -/
import Derived.Test.YtamneeogomklgaaGreatGLaw1
import Derived.Test.YtamneeogomklgaaGreatGV
set_option linter.unusedSimpArgs false
set_option linter.unusedVariables false
set_option linter.unusedSectionVars false
namespace W
set_option linter.unusedVariables false
set_option maxRecDepth 1000000
set_option maxHeartbeats 4000000
namespace Q
open Go HL HL.X
mutual
def bE : Exp → Bool
  | .mk k s _ l ds az => (!decide (k = 1) || (l.isEmpty && !decide (s = underB))) && ((decide (k = 6) || ds.isEmpty) && ((decide (k = 7) || az.isEmpty) && (bEs l && (bDs ds && bAs az))))
def bEs : List Exp → Bool
  | [] => true
  | e :: l => bE e && bEs l
def bAs : List Alt → Bool
  | [] => true
  | .mk _ _ e :: l => bE e && bAs l
def bD : Dec → Bool
  | .mk _ _ e ws => bE e && bDs ws
def bDs : List Dec → Bool
  | [] => true
  | d :: l => bD d && bDs l
end
mutual
theorem bE_w : ∀ e, bE e = true → wE e
  | .mk k s _ l ds az, h => by
    simp only [bE, Bool.and_eq_true, Bool.or_eq_true, Bool.not_eq_true', decide_eq_true_eq, decide_eq_false_iff_not, List.isEmpty_iff] at h
    obtain ⟨h1, h2, h3, h4, h5, h6⟩ := h
    exact ⟨fun q => h1.resolve_left (fun n => n q), fun n => h2.resolve_left n, fun n => h3.resolve_left n, bEs_w l h4, bDs_w ds h5, bAs_w az h6⟩
theorem bEs_w : ∀ l, bEs l = true → wEs l
  | [], _ => trivial
  | e :: l, h => by
    rw [bEs, Bool.and_eq_true] at h
    exact ⟨bE_w e h.1, bEs_w l h.2⟩
theorem bAs_w : ∀ l, bAs l = true → wAs l
  | [], _ => trivial
  | .mk _ _ e :: l, h => by
    rw [bAs, Bool.and_eq_true] at h
    exact ⟨bE_w e h.1, bAs_w l h.2⟩
theorem bD_w : ∀ d, bD d = true → wD d
  | .mk _ _ e ws, h => by
    rw [bD, Bool.and_eq_true] at h
    exact ⟨bE_w e h.1, bDs_w ws h.2⟩
theorem bDs_w : ∀ l, bDs l = true → wDs l
  | [], _ => trivial
  | d :: l, h => by
    rw [bDs, Bool.and_eq_true] at h
    exact ⟨bD_w d h.1, bDs_w l h.2⟩
end
def ndB : List ByteArray → Bool
  | [] => true
  | s :: l => !memB s l && ndB l
theorem ndB_nd : ∀ {l}, ndB l = true → l.Nodup
  | [], _ => List.nodup_nil
  | s :: l, h => by
    rw [ndB, Bool.and_eq_true] at h
    refine List.nodup_cons.2 ⟨fun q => ?_, ndB_nd h.2⟩
    rw [memB_iff.2 q] at h
    cases h.1
def chk (l : List Dec) : Bool := decide (l.length ≤ 1000) && ((l.all fun d => decide (d.cost ≤ 500000)) && (ndB (nmB l) && bDs l))
theorem chk_dn {l : List Dec} (h : chk l = true) : Dn l := by
  unfold chk at h
  rw [Bool.and_eq_true, Bool.and_eq_true, Bool.and_eq_true] at h
  obtain ⟨h1, h2, h3, h4⟩ := h
  exact dnA ⟨of_decide_eq_true h1, fun d hd => by have := List.all_eq_true.1 h2 d hd; simpa using this⟩ (ndB_nd h3) (wDs_iff.1 (bDs_w l h4))
def chkR (o : Option (Prog × Bool)) : Bool := match o with
  | some r => chk r.1.Decs
  | none => false
def texts : List ByteArray := [(⟨⟨[109, 97, 105, 110, 32, 61, 32, 49]⟩⟩ : ByteArray), (⟨⟨[109, 97, 105, 110, 32, 61, 32, 102, 32, 51, 10, 102, 32, 120, 32, 61, 32, 120, 32, 43, 32, 49]⟩⟩ : ByteArray), (⟨⟨[100, 97, 116, 97, 32, 84, 32, 61, 32, 65, 32, 124, 32, 66, 32, 73, 110, 116, 10, 109, 97, 105, 110, 32, 61, 32, 99, 97, 115, 101, 32, 66, 32, 53, 32, 111, 102, 10, 32, 32, 65, 32, 45, 62, 32, 48, 10, 32, 32, 66, 32, 110, 32, 45, 62, 32, 110]⟩⟩ : ByteArray), (⟨⟨[109, 97, 105, 110, 32, 61, 32, 108, 101, 116, 10, 32, 32, 32, 32, 120, 32, 61, 32, 50, 10, 32, 32, 32, 32, 121, 32, 61, 32, 120, 32, 42, 32, 120, 10, 32, 32, 105, 110, 32, 121]⟩⟩ : ByteArray), (⟨⟨[102, 32, 120, 32, 61, 32, 103, 32, 120, 10, 32, 32, 119, 104, 101, 114, 101, 10, 32, 32, 32, 32, 103, 32, 121, 32, 61, 32, 121, 32, 43, 32, 120, 10, 109, 97, 105, 110, 32, 61, 32, 102, 32, 52]⟩⟩ : ByteArray), (⟨⟨[100, 97, 116, 97, 32, 76, 32, 61, 32, 78, 32, 124, 32, 67, 32, 73, 110, 116, 32, 76, 10, 115, 117, 109, 32, 108, 32, 61, 32, 99, 97, 115, 101, 32, 108, 32, 111, 102, 10, 32, 32, 78, 32, 45, 62, 32, 48, 10, 32, 32, 67, 32, 104, 32, 116, 32, 45, 62, 32, 104, 32, 43, 32, 115, 117, 109, 32, 116, 10, 109, 97, 105, 110, 32, 61, 32, 115, 117, 109, 32, 40, 67, 32, 49, 32, 40, 67, 32, 50, 32, 78, 41, 41]⟩⟩ : ByteArray), (⟨⟨[109, 97, 105, 110, 32, 61, 32, 105, 102, 32, 49, 32, 60, 32, 50, 32, 116, 104, 101, 110, 32, 40, 92, 120, 32, 45, 62, 32, 120, 41, 32, 55, 32, 101, 108, 115, 101, 32, 109, 97, 105, 110]⟩⟩ : ByteArray), (⟨⟨[116, 119, 105, 99, 101, 32, 102, 32, 120, 32, 61, 32, 102, 32, 40, 102, 32, 120, 41, 10, 109, 97, 105, 110, 32, 61, 32, 116, 119, 105, 99, 101, 32, 40, 92, 110, 32, 45, 62, 32, 110, 32, 42, 32, 50, 41, 32, 51]⟩⟩ : ByteArray), (⟨⟨[111, 110, 101, 115, 32, 61, 32, 67, 32, 49, 32, 111, 110, 101, 115, 10, 100, 97, 116, 97, 32, 76, 32, 61, 32, 78, 32, 124, 32, 67, 32, 73, 110, 116, 32, 76, 10, 104, 100, 32, 108, 32, 61, 32, 99, 97, 115, 101, 32, 108, 32, 111, 102, 10, 32, 32, 67, 32, 104, 32, 116, 32, 45, 62, 32, 104, 10, 109, 97, 105, 110, 32, 61, 32, 104, 100, 32, 111, 110, 101, 115]⟩⟩ : ByteArray)]
theorem texts_ok : (texts.all fun t => chkR (Ev.spec_ParseProg 300 t)) = true := by kernel_rfl
theorem dTexts {t : ByteArray} (ht : t ∈ texts) : ∃ r, M.spec_ParseProg t = some r ∧ Dn r.1.Decs := by
  have h := List.all_eq_true.1 texts_ok t ht
  unfold chkR at h
  split at h
  · rename_i r e
    exact ⟨r, Ev.spec_ParseProg_run 300 e, chk_dn h⟩
  · cases h
theorem dP7 {c : Cur} (hc : okC c) : ∃ p c', M.spec_l7Prog c = some (p, c') ∧ Dn p.Decs ∧ okC c' := by
  obtain ⟨b, c1, e1, o1⟩ := dOnce hc (n := 4) (by omega) (by omega)
  rw [M.e_spec_l7Prog]
  simp only [e1, Option.bind_some]
  cases b with
  | true =>
    obtain ⟨p, c2, e2, g2, o2⟩ := dProgAny o1
    simp only [cond_true, e2, Option.bind_some]
    exact ⟨p, c2, rfl, g2, o2⟩
  | false =>
    obtain ⟨t, c2, e2, m2, o2⟩ := dStr o1 (l := texts) (by decide) (by decide)
    obtain ⟨r, e3, g3⟩ := dTexts m2
    have e4 : M.spec_l1Prog c1 = some (t, c2) := by
      rw [M.e_spec_l1Prog]
      exact (congrArg (fun z => Option.bind z _) e2).trans rfl
    simp only [cond_false, e4, e3, Option.bind_some]
    exact ⟨r.1, c2, rfl, g3, o2⟩
abbrev nFghx : List ByteArray := [(⟨⟨[102]⟩⟩ : ByteArray), (⟨⟨[103]⟩⟩ : ByteArray), (⟨⟨[104]⟩⟩ : ByteArray), (⟨⟨[120]⟩⟩ : ByteArray)]
theorem dDecs8 {c : Cur} (hc : okC c) : ∃ l c', M.spec_l8Decs c = some (l, c') ∧ Dn l ∧ okC c' := by
  obtain ⟨b, c1, e1, o1⟩ := dOnce hc (n := 2) (by omega) (by omega)
  rw [M.e_spec_l8Decs]
  simp only [e1, Option.bind_some]
  cases b with
  | true =>
    obtain ⟨p, c2, e2, g2, o2⟩ := dP7 o1
    simp only [cond_true, e2, Option.bind_some]
    exact ⟨p.Decs, c2, rfl, g2, o2⟩
  | false =>
    obtain ⟨v, c2, e2, a2, b2, o2⟩ := dBelow o1 (n := 4) (by omega) (by omega)
    have hw1 : IntKind.i64.wrap (1 + v) = 1 + v := wrap_ok (by omega)
    obtain ⟨ds, c3, e3, n3, g3, o3⟩ := (dAll 2 (by omega)).2.1 (ns := nFghx.take (1 + v).toNat) o2 (by simp; omega) (fun s hs => by
      have this : ∀ s ∈ nFghx, s.size ≤ 5 := by decide
      exact this s (List.mem_of_mem_take hs))
    have e3 : M.spec_l3DrawDecs (2, nFghx.take (1 + v).toNat, c2) = _ := e3
    have nd : (nFghx.take (1 + v).toNat).Nodup := List.Pairwise.sublist (List.take_sublist _ _) (by decide)
    refine ⟨ds, c3, ?_, gL_dn (by simp; omega) nd ⟨n3, g3⟩, o3⟩
    simp only [cond_false, e2, Option.bind_some, hw1]
    rw [gd_t (by omega), Option.bind_some, gd_t (by simp; omega), Option.bind_some, e3]
    rfl
theorem lawGroups {x : List Int} (hx : x.length ≤ lim) : M.laws_FnGroups x = some true := by
  by_cases hb : x.length ≤ 1048576
  · obtain ⟨c, e0, o0⟩ := dNew (x := x) (by omega)
    obtain ⟨l, c1, e1, d1, o1⟩ := dDecs8 o0
    obtain ⟨a, c2, e2, m2, o2⟩ := dStr o1 (l := [(⟨⟨[102]⟩⟩ : ByteArray), (⟨⟨[103]⟩⟩ : ByteArray), (⟨⟨[109, 97, 105, 110]⟩⟩ : ByteArray), (⟨⟨[120]⟩⟩ : ByteArray), (⟨⟨[113]⟩⟩ : ByteArray)]) (by simp) (by simp)
    obtain ⟨b, c3, e3, m3, o3⟩ := dStr o0 (l := [(⟨⟨[102]⟩⟩ : ByteArray), (⟨⟨[103]⟩⟩ : ByteArray), (⟨⟨[104]⟩⟩ : ByteArray), (⟨⟨[109, 97, 105, 110]⟩⟩ : ByteArray), (⟨⟨[120]⟩⟩ : ByteArray)]) (by simp) (by simp)
    have key : ∀ s ∈ [(⟨⟨[102]⟩⟩ : ByteArray), (⟨⟨[103]⟩⟩ : ByteArray), (⟨⟨[109, 97, 105, 110]⟩⟩ : ByteArray), (⟨⟨[120]⟩⟩ : ByteArray), (⟨⟨[113]⟩⟩ : ByteArray)], s ≠ nX ∧ s ≠ nK := by decide
    have f1 : M.spec_DrawGroups x = some l := by rw [M.e_spec_DrawGroups, e0, Option.bind_some, e1]; rfl
    have f2 : M.spec_DrawNeeds x = some (l, a) := by rw [M.e_spec_DrawNeeds, e0, Option.bind_some, e1, Option.bind_some, e2]; rfl
    have f3 : M.spec_DrawReaches x = some (l, a, b) := by rw [M.e_spec_DrawReaches, f2, Option.bind_some, e0, Option.bind_some, e3]; rfl
    exact d1.law hb f1 d1 f2 (key a m2).1 (key a m2).2 d1 f3 (key a m2).1 (key a m2).2
  · rw [M.e_laws_FnGroups, M.e_laws_big]
    simp only [Option.bind_some, show (1048576 : Int) < (x.length : Int) by omega, decide_true, cond_true]
end Q
end W
