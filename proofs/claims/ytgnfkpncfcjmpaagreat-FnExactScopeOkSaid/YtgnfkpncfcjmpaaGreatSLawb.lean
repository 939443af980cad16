/- ScopeOk: both give the same. -/
import Derived.Test.YtgnfkpncfcjmpaaGreatSLawa
set_option linter.unusedSimpArgs false
set_option linter.unusedVariables false
set_option linter.unusedSectionVars false
section
namespace W
set_option linter.unusedVariables false
set_option maxRecDepth 100000
set_option maxHeartbeats 1000000
namespace Q
open Go HL HL.X

/-! ### types of parts -/
theorem sp_sL2 {p : Prog} (hp : p.Datas.length ≤ 1048576) {i j : Nat} {d : Data} {c : Con} (hd : p.Datas[i]? = some d) (hc : d.Cons[j]? = some c) (hs : c.cost ≤ 1048576) (ho : ∀ t ∈ c.Args, okT t 1) :
    M.spec_ScopeOk_L2 ((i : Int), (j : Int), 0, p) = @ite _ (∀ t ∈ c.Args, thT p t) (Classical.propDecidable _) (some (.inr p)) (some (.inl false)) := by
  have hlim : lim = 140737488355328 := rfl
  obtain ⟨z1, z2, z3⟩ := szC hs
  refine (@allL _ _ c.Args (by omega) (fun k => M.spec_ScopeOk_L2 ((i : Int), (j : Int), k, p)) (thT p) (some (.inl false)) (some (.inr p)) (fun k t ht hm hix hi hw => ?_) ?_).trans ifany
  · show M.spec_ScopeOk_L2 ((i : Int), (j : Int), (k : Int), p) = _
    rw [M.e_spec_ScopeOk_L2]
    simp only [ix_of hd, ix_of hc, hi, decide_true, cond_true, hix, Option.bind_some, sp_th hp t (z3 t hm) 1 (ho t hm), hw]
    by_cases a : thT p t
    · rw [dc_t a, if_pos a]; rfl
    · rw [dc_f a, if_neg a]; rfl
  · show M.spec_ScopeOk_L2 ((i : Int), (j : Int), (c.Args.length : Int), p) = _
    rw [M.e_spec_ScopeOk_L2]
    simp [ix_of hd, ix_of hc]
theorem sp_sL1 {p : Prog} (hp : p.Datas.length ≤ 1048576) {i : Nat} {d : Data} (hd : p.Datas[i]? = some d) (hs : d.cost ≤ 1048576) (ho : ∀ c ∈ d.Cons, ∀ t ∈ c.Args, okT t 1) :
    M.spec_ScopeOk_L1 ((i : Int), 0, p) = @ite _ (∀ c ∈ d.Cons, ∀ t ∈ c.Args, thT p t) (Classical.propDecidable _) (some (.inr p)) (some (.inl false)) := by
  have hlim : lim = 140737488355328 := rfl
  obtain ⟨z1, z2, z3⟩ := szDt hs
  refine (@allL _ _ d.Cons (by omega) (fun k => M.spec_ScopeOk_L1 ((i : Int), k, p)) (fun c => ∀ t ∈ c.Args, thT p t) (some (.inl false)) (some (.inr p)) (fun k c hc hm hix hi hw => ?_) ?_).trans ifany
  · show M.spec_ScopeOk_L1 ((i : Int), (k : Int), p) = _
    rw [M.e_spec_ScopeOk_L1]
    simp only [ix_of hd, hi, decide_true, cond_true, Option.bind_some, sp_sL2 hp hd hc (z3 c hm) (ho c hm), hw]
    by_cases a : ∀ t ∈ c.Args, thT p t
    · rw [if_pos a, if_pos a]; rfl
    · rw [if_neg a, if_neg a]; rfl
  · show M.spec_ScopeOk_L1 ((i : Int), (d.Cons.length : Int), p) = _
    rw [M.e_spec_ScopeOk_L1]
    simp [ix_of hd]
theorem sp_sL0 {p : Prog} (hp : p.Datas.length ≤ 1048576) (hs : ∀ d ∈ p.Datas, d.cost ≤ 1048576) (ho : ∀ d ∈ p.Datas, ∀ c ∈ d.Cons, ∀ t ∈ c.Args, okT t 1) :
    M.spec_ScopeOk_L0 (0, p) = @ite _ (thP p) (Classical.propDecidable _) (some (.inr ())) (some (.inl false)) := by
  have hlim : lim = 140737488355328 := rfl
  refine (@allL _ _ p.Datas (by omega) (fun k => M.spec_ScopeOk_L0 (k, p)) (fun d => ∀ c ∈ d.Cons, ∀ t ∈ c.Args, thT p t) (some (.inl false)) (some (.inr ())) (fun k d hd hm hix hi hw => ?_) ?_).trans ifany
  · show M.spec_ScopeOk_L0 ((k : Int), p) = _
    rw [M.e_spec_ScopeOk_L0]
    simp only [hi, decide_true, cond_true, Option.bind_some, sp_sL1 hp hd (hs d hm) (ho d hm), hw]
    by_cases a : ∀ c ∈ d.Cons, ∀ t ∈ c.Args, thT p t
    · rw [if_pos a, if_pos a]; rfl
    · rw [if_neg a, if_neg a]; rfl
  · show M.spec_ScopeOk_L0 ((p.Datas.length : Int), p) = _
    rw [M.e_spec_ScopeOk_L0]
    simp

theorem im_anyNot {p : Prog} (hp : p.Datas.length ≤ 1048576) {l : List Ty} (hl : l.length ≤ 1048576) (hs : ∀ t ∈ l, t.cost ≤ 1048576) : M.slices_ContainsFunc_impl_Ty_at_ScopeOk_3 (l, p) = some (!(dc (∀ t ∈ l, thT p t)), p) := by
  have hlim : lim = 140737488355328 := rfl
  have h := idxG (l := l) (by omega) (L := fun i => M.slices_IndexFunc_impl_Ty_at_ScopeOk_3_L0 (l, (l.length : Int), i, p)) (fun x => ¬ thT p x) (fun i => .inl (i, p)) (.inr p) (fun i x hx hm hix hi hw => by
    show (_ → M.slices_IndexFunc_impl_Ty_at_ScopeOk_3_L0 (l, (l.length : Int), (i : Int), p) = _) ∧ (_ → M.slices_IndexFunc_impl_Ty_at_ScopeOk_3_L0 (l, (l.length : Int), (i : Int), p) = M.slices_IndexFunc_impl_Ty_at_ScopeOk_3_L0 (l, (l.length : Int), ((i + 1 : Nat) : Int), p))
    rw [M.e_slices_IndexFunc_impl_Ty_at_ScopeOk_3_L0]
    simp only [hi, decide_true, cond_true, hix, Option.bind_some, M.e_impl_ScopeOk_3, im_th hp x (hs x hm), hw]
    exact ⟨fun q => by rw [dc_f q]; rfl, fun q => by rw [dc_t (Classical.byContradiction q)]; rfl⟩) (by
    show M.slices_IndexFunc_impl_Ty_at_ScopeOk_3_L0 (l, (l.length : Int), (l.length : Int), p) = _
    rw [M.e_slices_IndexFunc_impl_Ty_at_ScopeOk_3_L0]
    simp)
  simp only [M.e_slices_ContainsFunc_impl_Ty_at_ScopeOk_3, M.e_slices_IndexFunc_impl_Ty_at_ScopeOk_3]
  rcases h with ⟨h1, j, h2⟩ | ⟨h1, h2⟩
  · have h2 : M.slices_IndexFunc_impl_Ty_at_ScopeOk_3_L0 (l, (l.length : Int), 0, p) = some (.inl ((j : Int), p)) := h2
    rw [h2, dc_f (show ¬ ∀ t ∈ l, thT p t from fun q => by obtain ⟨x, hx, n⟩ := h1; exact n (q x hx))]
    simp
  · have h2 : M.slices_IndexFunc_impl_Ty_at_ScopeOk_3_L0 (l, (l.length : Int), 0, p) = some (.inr p) := h2
    rw [h2, dc_t (show ∀ t ∈ l, thT p t from fun x hx => Classical.byContradiction fun n => h1 ⟨x, hx, n⟩)]
    simp
theorem im_sL2 {p : Prog} (hp : p.Datas.length ≤ 1048576) {l : List Con} (hl : l.length ≤ 1048576) (hs : ∀ c ∈ l, c.cost ≤ 1048576) : ∀ (k i : Nat) (ok : Bool), i + k = l.length →
    M.impl_ScopeOk_L2 (l, (l.length : Int), (i : Int), p, ok) = some (p, ok && al (fun c => ∀ t ∈ c.Args, thT p t) (l.drop i))
  | 0, i, ok, e => by
    have : ¬ ((i : Int) < (l.length : Int)) := by omega
    rw [M.e_impl_ScopeOk_L2]
    simp only [this, decide_false, cond_false]
    rw [List.drop_eq_nil_of_le (by omega), al, Bool.and_true]
  | k + 1, i, ok, e => by
    have hi : i < l.length := by omega
    have h1 : (i : Int) < (l.length : Int) := by omega
    have hw : IntKind.i64.wrap ((i : Int) + 1) = ((i + 1 : Nat) : Int) := by rw [wrap_ok (by omega)]; omega
    obtain ⟨z1, z2, z3⟩ := szC (hs l[i] (List.getElem_mem hi))
    rw [M.e_impl_ScopeOk_L2, List.drop_eq_getElem_cons hi]
    simp only [h1, decide_true, cond_true, ix_of (List.getElem?_eq_getElem hi), Option.bind_some, im_anyNot hp z2 z3, hw, al]
    cases ok
    · rw [cond_false, im_sL2 hp hl hs k (i + 1) _ (by omega)]
      simp
    · rw [cond_true, im_sL2 hp hl hs k (i + 1) _ (by omega)]
      simp
theorem im_sL1 {p : Prog} (hp : p.Datas.length ≤ 1048576) {l : List Data} (hl : l.length ≤ 1048576) (hs : ∀ d ∈ l, d.cost ≤ 1048576) : ∀ (k i : Nat) (ok : Bool), i + k = l.length →
    M.impl_ScopeOk_L1 (l, (l.length : Int), (i : Int), p, ok) = some (ok && al (fun d => ∀ c ∈ d.Cons, ∀ t ∈ c.Args, thT p t) (l.drop i))
  | 0, i, ok, e => by
    have : ¬ ((i : Int) < (l.length : Int)) := by omega
    rw [M.e_impl_ScopeOk_L1]
    simp only [this, decide_false, cond_false]
    rw [List.drop_eq_nil_of_le (by omega), al, Bool.and_true]
  | k + 1, i, ok, e => by
    have hi : i < l.length := by omega
    have h1 : (i : Int) < (l.length : Int) := by omega
    have hw : IntKind.i64.wrap ((i : Int) + 1) = ((i + 1 : Nat) : Int) := by rw [wrap_ok (by omega)]; omega
    obtain ⟨z1, z2, z3⟩ := szDt (hs l[i] (List.getElem_mem hi))
    have e2 := im_sL2 hp z2 z3 l[i].Cons.length 0 ok (by omega)
    rw [List.drop_zero] at e2
    have e2 : M.impl_ScopeOk_L2 (l[i].Cons, (l[i].Cons.length : Int), 0, p, ok) = _ := e2
    rw [M.e_impl_ScopeOk_L1, List.drop_eq_getElem_cons hi]
    simp only [h1, decide_true, cond_true, ix_of (List.getElem?_eq_getElem hi), Option.bind_some, e2, hw, al]
    rw [im_sL1 hp hl hs k (i + 1) _ (by omega), al_eq, Bool.and_assoc]

/-! ### names that are free -/
theorem FE_name : ∀ x : Dec, ∀ d, okD x d → ∀ s, FD s x → ¬ s = under := by
  have hu : ∀ {s : ByteArray}, nameB s = true → ¬ s = under := fun h e => by rw [e, name_not_under] at h; cases h
  refine Dec.ind (M0 := fun a => ∀ d, okE a.E d → ∀ s, FE s a.E → ¬ s = under) (M2 := fun e => ∀ d, okE e d → ∀ s, FE s e → ¬ s = under) (fun a ih => ih) (fun x ih1 ih2 d ho s h => ?_) (fun e ihL ihD ihA d ho s h => ?_)
  · obtain ⟨n1, n2, n3, n4⟩ := (okD_iff x d).1 ho
    rcases ((FD_iff s x).1 h).1 with h | ⟨y, hy, h⟩
    · exact ih1 _ n3 s h
    · exact ih2 y hy _ ((okW n4).2 y hy) s h
  · obtain ⟨d12, hh, oL, oA, oD⟩ := (okE_iff e d).1 ho
    obtain ⟨s1, s2, s3⟩ := shape hh
    rcases (FE_iff s e).1 h with ⟨k, rfl⟩ | ⟨⟨y, hy, h⟩ | ⟨y, hy, h⟩ | ⟨a, ha, h⟩, _⟩
    · exact hu (s3 k).2
    · exact ihL y hy _ (oL y hy) s h
    · have k6 : e.K = 6 := Classical.byContradiction fun n => by rw [s1 n] at hy; cases hy
      exact ihD y hy _ ((oD k6).2.2 y hy) s h
    · exact ihA a ha _ (oA a ha).2 s h.1
def clP (p : Prog) : Prop := ∀ x ∈ p.Decs, ∀ s, FD s x → s ∈ nm p.Decs

theorem im_freeOf {x : Dec} (hs : x.cost ≤ 1048576) (hc : cD x ≤ 1000000) (ho : okD x 0) : ∃ r, M.impl_FreeOfDec x = some r ∧ (∀ s, s ∈ r ↔ FD s x) ∧ r.length ≤ cD x := by
  obtain ⟨o, e1, m1, l1⟩ := imF_all x hs 0 (by omega) ho [] [] (by simp) (by simp; omega)
  refine ⟨sortedB o, ?_, fun s => by rw [sortedB_mem, m1]; simp, Nat.le_trans (sortedB_len o) (by simpa using l1)⟩
  rw [M.e_impl_FreeOfDec]
  simp only [e1, Option.bind_some, M.e_impl_sorted]
theorem im_anyFree {l N : List ByteArray} (hl : l.length ≤ 2000000) (hN : N.length ≤ 2000000) : M.slices_ContainsFunc_string_at_ScopeOk_1 (l, N) = some (!(dc (∀ s ∈ l, s ∈ N)), N) := by
  have hlim : lim = 140737488355328 := rfl
  have hc : ∀ s, M.slices_Contains_string (N, s) = some (dc (s ∈ N)) := im_contains (l := N) (by omega)
  have h := idxG (l := l) (by omega) (L := fun i => M.slices_IndexFunc_string_at_ScopeOk_1_L0 (l, (l.length : Int), i, N)) (fun x => ¬ x ∈ N) (fun i => .inl (i, N)) (.inr N) (fun i x hx hm hix hi hw => by
    show (_ → M.slices_IndexFunc_string_at_ScopeOk_1_L0 (l, (l.length : Int), (i : Int), N) = _) ∧ (_ → M.slices_IndexFunc_string_at_ScopeOk_1_L0 (l, (l.length : Int), (i : Int), N) = M.slices_IndexFunc_string_at_ScopeOk_1_L0 (l, (l.length : Int), ((i + 1 : Nat) : Int), N))
    rw [M.e_slices_IndexFunc_string_at_ScopeOk_1_L0]
    simp only [hi, decide_true, cond_true, hix, Option.bind_some, M.e_impl_ScopeOk_1, hc, hw]
    exact ⟨fun q => by rw [dc_f q]; rfl, fun q => by rw [dc_t (Classical.byContradiction q)]; rfl⟩) (by
    show M.slices_IndexFunc_string_at_ScopeOk_1_L0 (l, (l.length : Int), (l.length : Int), N) = _
    rw [M.e_slices_IndexFunc_string_at_ScopeOk_1_L0]
    simp)
  simp only [M.e_slices_ContainsFunc_string_at_ScopeOk_1, M.e_slices_IndexFunc_string_at_ScopeOk_1]
  rcases h with ⟨h1, j, h2⟩ | ⟨h1, h2⟩
  · have h2 : M.slices_IndexFunc_string_at_ScopeOk_1_L0 (l, (l.length : Int), 0, N) = some (.inl ((j : Int), N)) := h2
    rw [h2, dc_f (show ¬ ∀ s ∈ l, s ∈ N from fun q => by obtain ⟨x, hx, n⟩ := h1; exact n (q x hx))]
    simp
  · have h2 : M.slices_IndexFunc_string_at_ScopeOk_1_L0 (l, (l.length : Int), 0, N) = some (.inr N) := h2
    rw [h2, dc_t (show ∀ s ∈ l, s ∈ N from fun x hx => Classical.byContradiction fun n => h1 ⟨x, hx, n⟩)]
    simp

def scP (p : Prog) : Prop := progP p ∧ clP p ∧ (∀ x ∈ p.Decs, gD p x) ∧ thP p

theorem im_scope {p : Prog} (hs : p.cost ≤ 1048576) : M.impl_ScopeOk p = some (dc (scP p)) := by
  have hlim : lim = 140737488355328 := rfl
  obtain ⟨⟨z1, z2⟩, z3, z4⟩ := szP hs
  have h0 : M.impl_ProgOk p = some (dc (progP p)) := im_prog hs
  rw [M.e_impl_ScopeOk, h0]
  by_cases a : progP p
  rotate_left
  · rw [dc_f a, dc_f (show ¬ scP p from fun q => a q.1)]; rfl
  rw [dc_t a]
  obtain ⟨hda, hds, hcc⟩ := a
  have h1 : M.impl_ScopeOk_L0 (p.Decs, (p.Decs.length : Int), 0, p, nm p.Decs) = @ite _ (clP p) (Classical.propDecidable _) (some (.inr p)) (some (.inl false)) := (@allL _ _ p.Decs (by omega) (fun i => M.impl_ScopeOk_L0 (p.Decs, (p.Decs.length : Int), i, p, nm p.Decs)) (fun x => ∀ s, FD s x → s ∈ nm p.Decs) (some (.inl false)) (some (.inr p)) (fun i x hx hm hix hi hw => by
    show M.impl_ScopeOk_L0 (p.Decs, (p.Decs.length : Int), (i : Int), p, nm p.Decs) = _
    have hcx := sumC_mem (c := cD) hm
    obtain ⟨r, e1, m1, l1⟩ := im_freeOf (z4 x hm) (by omega) (hds.2.2 x hm)
    have hq : (∀ s ∈ r, s ∈ nm p.Decs) ↔ ∀ s, FD s x → s ∈ nm p.Decs := by simp only [m1]
    rw [M.e_impl_ScopeOk_L0]
    simp only [hi, decide_true, cond_true, hix, Option.bind_some, e1, im_anyFree (l := r) (N := nm p.Decs) (by omega) (by rw [nm_len]; omega), hw]
    rw [dc_iff hq]
    by_cases b : ∀ s, FD s x → s ∈ nm p.Decs
    · rw [dc_t b, if_pos b]; rfl
    · rw [dc_f b, if_neg b]; rfl) (by
    show M.impl_ScopeOk_L0 (p.Decs, (p.Decs.length : Int), (p.Decs.length : Int), p, nm p.Decs) = _
    rw [M.e_impl_ScopeOk_L0]
    simp)).trans ifany
  simp only [Option.bind_some, Bool.not_true, cond_false, im_nm z3, h1]
  by_cases b : clP p
  rotate_left
  · rw [if_neg b, dc_f (show ¬ scP p from fun q => b q.2.1)]; rfl
  rw [if_pos b]
  have h2 := im_sL1 (p := p) (by omega) (l := p.Datas) (by omega) z2 p.Datas.length 0 (al (gD p) p.Decs) (by omega)
  rw [List.drop_zero] at h2
  have h2 : M.impl_ScopeOk_L1 (p.Datas, (p.Datas.length : Int), 0, p, al (gD p) p.Decs) = _ := h2
  simp only [Option.bind_some, Sum.elim_inr, im_l7 hs, Bool.true_and, h2]
  rw [al_eq, al_eq, ← dc_and]
  exact congrArg some (dc_iff ⟨fun q => ⟨⟨hda, hds, hcc⟩, b, q.1, q.2⟩, fun q => ⟨q.2.2.1, q.2.2.2⟩⟩)

theorem sp_scope {p : Prog} (hs : p.cost ≤ 1048576) : M.spec_ScopeOk p = some (dc (scP p)) := by
  have hlim : lim = 140737488355328 := rfl
  obtain ⟨⟨z1, z2⟩, z3, z4⟩ := szP hs
  have h0 : M.spec_ProgOk p = some (dc (progP p)) := sp_prog hs
  have h7 : M.spec_l7Decs (p, p.Decs) = some (dc (∀ x ∈ p.Decs, gD p x)) := (sp_l7 hs).trans (congrArg some (dcd Iff.rfl))
  rw [M.e_spec_ScopeOk, h0]
  by_cases a : progP p
  rotate_left
  · rw [dc_f a, dc_f (show ¬ scP p from fun q => a q.1)]; rfl
  rw [dc_t a]
  have hpp := a
  obtain ⟨hda, hds, hcc⟩ := a
  simp only [Option.bind_some, Bool.not_true, cond_false, h7]
  by_cases g : ∀ x ∈ p.Decs, gD p x
  rotate_left
  · rw [dc_f g, dc_f (show ¬ scP p from fun q => g q.2.2.1)]; rfl
  rw [dc_t g]
  obtain ⟨r, e1, m1, l1⟩ := sp_freeDecs z3 (by omega) (fun x hx => by
    have := sumC_mem (c := cD) hx
    exact spF_all x (z4 x hx) (by omega) 0 (hds.2.2 x hx))
  simp only [Bool.not_true, cond_false, e1, Option.bind_some]
  have hcl : clP p ↔ ∀ s, ¬ s ∈ r := by
    constructor
    · intro c s hm
      obtain ⟨⟨⟨x, hx, hf⟩, _⟩, hn⟩ := (m1 s).1 hm
      exact hn (c x hx s hf)
    · intro c x hx s hf
      refine Classical.byContradiction fun hn => c s ((m1 s).2 ⟨⟨⟨x, hx, hf⟩, FE_name x 0 (hds.2.2 x hx) s hf⟩, hn⟩)
  by_cases b : clP p
  rotate_left
  · have : 0 < r.length := by
      rcases Nat.eq_zero_or_pos r.length with q | q
      · exact absurd (hcl.2 (by rw [List.length_eq_zero_iff.1 q]; simp)) b
      · exact q
    have h : (0 : Int) < (r.length : Int) := by omega
    rw [decide_eq_true h, dc_f (show ¬ scP p from fun q => b q.2.1)]; rfl
  have h : ¬ (0 : Int) < (r.length : Int) := by
    have : r = [] := List.eq_nil_iff_forall_not_mem.2 (hcl.1 b)
    rw [this]; simp
  rw [decide_eq_false h]
  simp only [cond_false]
  rw [sp_sL0 (by omega) z2 (fun d hd c hc t ht => ((hda.1 d hd).2.2 c hc).1 t ht |>.1)]
  by_cases t : thP p
  · rw [if_pos t, dc_t (show scP p from ⟨hpp, b, g, t⟩)]; rfl
  · rw [if_neg t, dc_f (show ¬ scP p from fun q => t q.2.2.2)]; rfl

theorem lawScope {p : Prog} (h : p.small) : M.laws_FnExactScopeOk p = some true := by
  rw [M.e_laws_FnExactScopeOk, szProg p h 1048576 (by omega) (by omega)]
  simp only [Option.bind_some]
  by_cases hc : p.cost ≤ 1048576
  rotate_left
  · have : rest p.cost 1048576 < 0 := by unfold rest; split <;> omega
    rw [decide_eq_true this]; rfl
  have h0 : ¬ rest p.cost 1048576 < 0 := by unfold rest; split <;> omega
  rw [decide_eq_false h0]
  simp only [cond_false, toProg p hc, Option.bind_some, im_scope hc, sp_scope hc, eqProg p h p]
  simp
end Q
end W
end
section
/- ScopeOk: the law's function answers true. -/
namespace W
set_option linter.unusedVariables false
set_option maxRecDepth 100000
open Go HL HL.X
theorem Ty.enc_eq (K_ : Int) (S_ : ByteArray) (N_ : Int) (L_ : List Ty) : Ty.enc (Ty.mk K_ S_ N_ L_) = .agg ([HV.int .i64 K_] ++ ([HV.str S_] ++ ([HV.int .i64 N_] ++ ([HV.sl (List.map Ty.enc L_)] ++ ([]))))) := by rw [Ty.enc]
theorem Con.enc_eq (Name_ : ByteArray) (Args_ : List Ty) : Con.enc (Con.mk Name_ Args_) = .agg ([HV.str Name_] ++ ([HV.sl (List.map Ty.enc Args_)] ++ ([]))) := by rw [Con.enc]
theorem Data.enc_eq (Name_ : ByteArray) (Cons_ : List Con) : Data.enc (Data.mk Name_ Cons_) = .agg ([HV.str Name_] ++ ([HV.sl (List.map Con.enc Cons_)] ++ ([]))) := by rw [Data.enc]
theorem Exp.enc_eq (K_ : Int) (S_ : ByteArray) (N_ : Int) (L_ : List Exp) (Decs_ : List Dec) (Alts_ : List Alt) : Exp.enc (Exp.mk K_ S_ N_ L_ Decs_ Alts_) = .agg ([HV.int .i64 K_] ++ ([HV.str S_] ++ ([HV.int .i64 N_] ++ ([HV.sl (List.map Exp.enc L_)] ++ ([HV.sl (List.map Dec.enc Decs_)] ++ ([HV.sl (List.map Alt.enc Alts_)] ++ ([]))))))) := by rw [Exp.enc]
theorem Dec.enc_eq (Name_ : ByteArray) (Pars_ : List ByteArray) (E_ : Exp) (Where_ : List Dec) : Dec.enc (Dec.mk Name_ Pars_ E_ Where_) = .agg ([HV.str Name_] ++ ([HV.sl (List.map HV.str Pars_)] ++ ((Exp.enc E_).cells ++ ([HV.sl (List.map Dec.enc Where_)] ++ ([]))))) := by rw [Dec.enc]
theorem Alt.enc_eq (Great_ : ByteArray) (Vars_ : List ByteArray) (E_ : Exp) : Alt.enc (Alt.mk Great_ Vars_ E_) = .agg ([HV.str Great_] ++ ([HV.sl (List.map HV.str Vars_)] ++ ((Exp.enc E_).cells ++ ([])))) := by rw [Alt.enc]
theorem Prog.enc_eq (Datas_ : List Data) (Decs_ : List Dec) : Prog.enc (Prog.mk Datas_ Decs_) = .agg ([HV.sl (List.map Data.enc Datas_)] ++ ([HV.sl (List.map Dec.enc Decs_)] ++ ([]))) := by rw [Prog.enc]
theorem impl_looker.enc_eq (many_ : Int) : impl_looker.enc (impl_looker.mk many_) = .agg ([HV.int .i64 many_] ++ ([])) := by rw [impl_looker.enc]
namespace Q
theorem ext_all : ∀ s ∈ tab, s.ext = none ∨ s = s_slices_Grow_string ∨ s = s_impl_sorted := by
  have e : tab = tab.take 72 ++ s_slices_Grow_string :: ((tab.drop 73).take 22 ++ s_impl_sorted :: tab.drop 96) := by kernel_rfl
  have h1 : ((tab.take 72).all fun s => s.ext.isNone) = true := by kernel_rfl
  have h2 : (((tab.drop 73).take 22).all fun s => s.ext.isNone) = true := by kernel_rfl
  have h3 : ((tab.drop 96).all fun s => s.ext.isNone) = true := by kernel_rfl
  intro s hs
  rw [e] at hs
  rcases List.mem_append.1 hs with hs | hs
  · exact .inl (by simpa using List.all_eq_true.1 h1 s hs)
  rcases List.mem_cons.1 hs with hs | hs
  · exact .inr (.inl hs)
  rcases List.mem_append.1 hs with hs | hs
  · exact .inl (by simpa using List.all_eq_true.1 h2 s hs)
  rcases List.mem_cons.1 hs with hs | hs
  · exact .inr (.inr hs)
  · exact .inl (by simpa using List.all_eq_true.1 h3 s hs)
theorem hext : ∀ s ∈ tab, ∀ f, s.ext = some f → ∀ x o, f x = some o → ClaimF P s x o := by
  intro s hs f hf x o h
  rcases ext_all s hs with e | rfl | rfl
  · rw [e] at hf; cases hf
  · cases hf
    exact J.grow_claim x o h
  · cases hf
    exact J.sorted_claim x o h
theorem law_FnExactScopeOk (p : Prog) (h : p.small) : HCp P s_laws_FnExactScopeOk.fid [Prog.enc p] (HV.bool true) :=
  law_of (tab := tab) S_ok hext (s := s_laws_FnExactScopeOk) (by simp [tab]) (lawScope h) rfl rfl rfl
end Q
end W
end
