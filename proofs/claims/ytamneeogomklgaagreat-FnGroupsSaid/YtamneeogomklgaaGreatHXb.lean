/- HX: all operations, together. Nothing of a seat is named here. -/
import Derived.Test.YtamneeogomklgaaGreatHXa
set_option linter.unusedSimpArgs false
set_option linter.unusedVariables false
set_option linter.unusedSectionVars false
section
namespace HL
namespace X
open Go
section
variable {S : DSys} {O : Type} {c : (i : Q S) → i.In → Option i.Out} {r : O} {P : Program} {tab : List (FS S)}
variable {st : TSt S} {hst : St} {env : TEnv S} {henv : Env}
theorem Kn.weak {w l w' l' : List Nat} {k : TV S → TSt S → Tree S O} {K : HV → St → Prop} (hk : Kn c r st hst w' l' k K) (hw : ∀ j, j ∈ w → j ∈ w') (hl : ∀ j, j ∈ l → j ∈ l') : Kn c r st hst w l k K :=
  fun v st' x hst' h1 h2 h3 h4 h5 => hk v st' x hst' h1 h2 h3 h4 (h5.mono hw hl)
theorem iaddr_sound (ok : S.Ok) {fz : Bool} {sz : Nat} {x i : HArg} (he : RE st env henv) (hs : RSt st hst) {k : TV S → TSt S → Tree S O} (h : interp c (top tab fz env st (.iaddr sz x i) k) = some r) : ∃ v z, qv fz henv hst (.iaddr sz x i) = some z ∧ Rv st v z ∧ interp c (k v st) = some r := by
  simp only [top] at h
  replace h := topt_s h
  obtain ⟨v, e1, h⟩ := h
  replace h := topt_s h
  obtain ⟨iv, e2, h⟩ := h
  replace h := tint_s h
  obtain ⟨kd, j, rfl, h⟩ := h
  obtain ⟨a, q1, ha⟩ := tev_sound he e1
  obtain ⟨b, q2, hb⟩ := tev_sound he e2
  rw [hb.int] at q2
  simp only [qv, q1, q2]
  cases ha with
  | d e =>
    rename_i t u
    cases t with
    | ls t =>
      replace h : interp c (cond (Nat.beq (szT S t) sz) (.opt (ix u j) fun e => k (.eptr t u j.toNat 0 e) st) .fail) = some r := h
      replace h := cond_s h
      obtain ⟨h1, h⟩ := h
      have h1 := beq_t h1
      replace h := opt_s h
      obtain ⟨y, hy, h⟩ := h
      have g1 := ix_nn hy
      have g2 := ix_get hy
      rcases e.sl_inv with ⟨rfl, hn⟩ | ⟨l', rfl, hl⟩
      · have : u = [] := by simpa using hn
        subst this
        simp at g2
      · obtain ⟨z, hz, hze⟩ := hl.get (i := j.toNat) (y := encT S t y) (by simp [g2])
        refine ⟨_, .eptr l' sz j.toNat 0, ?_, ?_, h⟩
        · simp only [if_pos g1, hz]
          rw [if_pos (by rw [els_sz ok hl z (List.mem_of_getElem? hz), h1])]
        · rw [← h1]; exact .eptr hl g2
    | _ => cases h
  | own hn =>
    rename_i id ver n
    simp only at h
    replace h := topt_s h
    obtain ⟨o, ho, h⟩ := h
    replace h := cond_s h
    obtain ⟨h1, h⟩ := h
    have h1 := beq_t h1
    replace h := gd_s h
    obtain ⟨g1, h⟩ := h
    replace h := gd_s h
    obtain ⟨g2, h⟩ := h
    obtain ⟨p1, p2, p3⟩ := getO_some ho
    obtain ⟨ho', hy, hro⟩ := hs.get p1
    obtain ⟨lh, rfl, hl⟩ := hro.arr_of p2
    have hnow := own_now hn ho
    refine ⟨_, .ptr id n j.toNat 0, ?_, ?_, h⟩
    · simp only [hy]
      rw [if_pos ⟨h1, by rw [hl, hnow], g1, by rw [hnow]; exact g2⟩]
    · exact .ap hn fun o' a1 a2 a3 => by
        rw [p1] at a1
        cases a1
        omega
  | _ => cases h
theorem zTc_sz {tab : List (FS S)} {sz : Nat} {t : Tc} (h : zTc tab sz = some t) : szT S t = sz := by
  induction tab with
  | nil => cases h
  | cons s r ih =>
    simp only [zTc] at h
    split at h
    · rename_i t' _
      cases hb : Nat.beq (szT S t') sz with
      | true => rw [hb] at h; cases h; exact beq_t hb
      | false => rw [hb] at h; exact ih h
    · exact ih h
theorem zObj_ro (ok : S.Ok) {tab : List (FS S)} {sz n : Nat} {z : TV S} {h : HV} (hv : Rv st z h) (hs : tsz z = sz) (ht : ttup z = false) :
    RO st (zObj tab sz n z) (.arr sz (List.replicate n h) true) ∧ 1 ≤ (zObj tab sz n z).cv ∧ (zObj tab sz n z).ver = 0 ∧ (zObj tab sz n z).len = n := by
  unfold zObj
  split
  · rename_i t hz
    split
    · rename_i x hx
      refine ⟨?_, Nat.le_refl _, rfl, by simp [TO.len]⟩
      have := zTc_sz hz
      subst this
      exact .arr (by rw [List.map_replicate]; exact EqvL.rep (shut_sound ok hx hv) n)
    · exact ⟨.arrZ hv hs ht, Nat.le_refl _, rfl, rfl⟩
  · exact ⟨.arrZ hv hs ht, Nat.le_refl _, rfl, rfl⟩
theorem top_sound (ok : S.Ok) (hcall : CallOk P tab c) {fz : Bool} {op : HOp} (he : RE st env henv) (hs : RSt st hst) {k : TV S → TSt S → Tree S O} (h : interp c (top tab fz env st op k) = some r) {K : HV → St → Prop}
    (hk : Kn c r st hst (wrOp env op) (wlOp tab env st op) k K) : vcOp P fz henv hst op K := by
  cases op with
  | mov x =>
    simp only [top] at h
    replace h := topt_s h
    obtain ⟨v, e1, h⟩ := h
    obtain ⟨y, q1, hy⟩ := tev_sound he e1
    simp only [vcOp, q1]
    exact hk.same hs h hy
  | pick cc a b =>
    simp only [top] at h
    replace h := topt_s h
    obtain ⟨vc, e0, h⟩ := h
    replace h := topt_s h
    obtain ⟨va, e1, h⟩ := h
    replace h := topt_s h
    obtain ⟨vb, e2, h⟩ := h
    replace h := tbool_s h
    obtain ⟨t, rfl, h⟩ := h
    obtain ⟨y0, q0, r0⟩ := tev_sound he e0
    obtain ⟨y1, q1, r1⟩ := tev_sound he e1
    obtain ⟨y2, q2, r2⟩ := tev_sound he e2
    rw [r0.bool] at q0
    simp only [vcOp, q0, q1, q2]
    rcases cnd_s h with ⟨rfl, h⟩ | ⟨rfl, h⟩
    · exact hk.same hs h r1
    · exact hk.same hs h r2
  | alloc z =>
    simp only [top] at h
    replace h := topt_s h
    obtain ⟨v, e1, h⟩ := h
    replace h := condf_s h
    obtain ⟨h1, h⟩ := h
    have hv : Rv st v z := ofHV_sound z v e1
    have hz := ttup_sound ok hv h1
    simp only [vcOp]
    have fin : K (.ptr hst.length 1 0 0) (hst ++ [.box z]) := by
      refine hk.push hs h ?_ (.box hv h1) fun q => by cases q
      rw [hs.1]; exact .bp
    exact fin
  | box x =>
    simp only [top] at h
    replace h := topt_s h
    obtain ⟨v, e1, h⟩ := h
    replace h := condf_s h
    obtain ⟨h1, h⟩ := h
    obtain ⟨y, q1, hv⟩ := tev_sound he e1
    have hz := ttup_sound ok hv h1
    simp only [vcOp, q1]
    have fin : K (.ptr hst.length 1 0 0) (hst ++ [.box y]) := by
      refine hk.push hs h ?_ (.box hv h1) fun q => by cases q
      rw [hs.1]; exact .bp
    exact fin
  | build z parts =>
    simp only [top] at h
    replace h := topt_s h
    obtain ⟨vs, e1, h⟩ := h
    replace h := topt_s h
    obtain ⟨⟨as, st1⟩, e2, h⟩ := h
    replace h := topt_s h
    obtain ⟨zs, e3, h⟩ := h
    replace h := topt_s h
    obtain ⟨cs, e4, h⟩ := h
    replace h := condf_s h
    obtain ⟨h1, h⟩ := h
    rw [tparts_map] at e1
    obtain ⟨ys, q1, hv⟩ := tevs_sound he e1
    obtain ⟨p1, p2, p3, p4⟩ := tcnL'_sound ok e2 hv hs
    simp only at e4 h1 h
    have hzl : parts.length = as.length := by
      have a1 := evs_len q1
      have a2 := p1.1
      have a3 : (vcOp.cnL' fz hst ys).1.length = ys.length := by
        rw [tcnL'_eq]
        split
        · have : ∀ {l : List HV} {s : St}, (cnLA s l).1.length = l.length := by
            intro l
            induction l with
            | nil => intro s; rfl
            | cons a l ih => intro s; simp [cnLA, ih]
          exact this
        · rfl
      simp at a1
      omega
    obtain ⟨hs2, q2, hc⟩ := tfill_sound ok (st := st1) (ofHVs_sound z zs e3) e4 (tzip_get (ps := parts) hzl p1)
    simp only [vcOp, q1, q2]
    refine ⟨fun v hv l e => ?_, hk _ _ _ _ h (.agg hc.1 hc.2) p2 p3 (p4.mono (fun _ q => by cases q) (fun _ q => by cases q))⟩
    obtain ⟨i, hi⟩ := List.getElem?_of_mem hv
    have hil : i < as.length := by rw [p1.1]; exact get_lt hi
    have := p1.2 i _ _ (List.getElem?_eq_getElem hil) hi
    exact ttup_sound ok this (anyTup_f h1 _ (List.getElem_mem hil)) l e
  | bslice sz n z parts =>
    simp only [top] at h
    replace h := topt_s h
    obtain ⟨xs, e0, h⟩ := h
    replace h := topt_s h
    obtain ⟨vs, e1, h⟩ := h
    replace h := topt_s h
    obtain ⟨⟨as, st1⟩, e2, h⟩ := h
    replace h := cond_s h
    obtain ⟨h1, h⟩ := h
    simp only [Bool.and_eq_true] at h1 h
    obtain ⟨⟨⟨⟨g1, g2⟩, g3⟩, g4⟩, g5⟩ := h1
    have g1 := beq_t g1
    have g3 := beq_t g3
    have g4 := blt_t g4
    have g5 := ble_t g5
    obtain ⟨b1, b2⟩ := bparts_s e0
    subst b1
    obtain ⟨ys, q1, hv⟩ := tevs_sound he e1
    obtain ⟨p1, p2, p3, p4⟩ := tcnL'_sound ok e2 hv hs
    have hal := allSz_sound g2
    simp only [vcOp, q1]
    simp only [List.length_map] at g1
    have each : ∀ v ∈ (vcOp.cnL' fz hst ys).1, ∃ a ∈ as, Rv st1 a v := by
      intro v hv
      obtain ⟨i, hi⟩ := List.getElem?_of_mem hv
      have hil : i < as.length := by rw [p1.1]; exact get_lt hi
      exact ⟨_, List.getElem_mem hil, p1.2 i _ _ (List.getElem?_eq_getElem hil) hi⟩
    refine ⟨by rw [b2, g1, List.range_eq_range'], fun v hv => ?_, fun v hv => ?_, g3, g4, g5, ?_⟩
    · obtain ⟨a, ha, hr⟩ := each v hv
      exact ttup_sound ok hr (hal a ha).2
    · obtain ⟨a, ha, hr⟩ := each v hv
      rw [← tsz_sound ok hr]; exact (hal a ha).1
    · refine hk _ _ _ _ h ?_ (p2.push (.arrV (p1.mono0 (.push _ _)) hal)) (p3.trans (.push _ _ fun _ => Nat.le_refl _)) ((p4.mono (fun _ q => by cases q) (fun _ q => by cases q)).trans (.push _ _ _ _))
      rw [← p2.1]
      refine .own ⟨by simp, fun o' a1 a2 => ?_⟩
      simp at a1
      subst a1
      refine ⟨Nat.le_refl _, fun _ => ?_⟩
      simp only [TO.len]
      rw [← g1]
      have a1 := evs_len q1
      have a3 : (vcOp.cnL' fz hst ys).1.length = ys.length := by
        rw [tcnL'_eq]
        split
        · have : ∀ {l : List HV} {s : St}, (cnLA s l).1.length = l.length := by
            intro l
            induction l with
            | nil => intro s; rfl
            | cons a l ih => intro s; simp [cnLA, ih]
          exact this
        · rfl
      simp at a1
      have := p1.1
      omega
  | load ag n a => exact load_sound ok he hs h hk
  | store n a x => exact store_sound ok he hs h hk
  | nilchk x =>
    simp only [top] at h
    replace h := topt_s h
    obtain ⟨v, e1, h⟩ := h
    obtain ⟨y, q1, hv⟩ := tev_sound he e1
    simp only [vcOp, q1]
    cases hv with
    | bp => exact hk.same hs h .bp
    | ap a b => exact hk.same hs h (.ap a b)
    | eptr a b => exact hk.same hs h (.eptr a b)
    | _ => cases h
  | bin o x y =>
    simp only [top] at h
    replace h := topt_s h
    obtain ⟨a, e1, h⟩ := h
    replace h := topt_s h
    obtain ⟨b, e2, h⟩ := h
    obtain ⟨y1, q1, r1⟩ := tev_sound he e1
    obtain ⟨y2, q2, r2⟩ := tev_sound he e2
    obtain ⟨v, z, e3, hz, h⟩ := tbin_sound h r1 r2
    simp only [vcOp, q1, q2, e3]
    exact hk.same hs h hz
  | bbin o x y =>
    simp only [top] at h
    replace h := topt_s h
    obtain ⟨a, e1, h⟩ := h
    replace h := topt_s h
    obtain ⟨b, e2, h⟩ := h
    obtain ⟨y1, q1, r1⟩ := tev_sound he e1
    obtain ⟨y2, q2, r2⟩ := tev_sound he e2
    obtain ⟨v, z, e3, hz, h⟩ := tbbin_sound h r1 r2
    simp only [vcOp, q1, q2, e3]
    exact hk.same hs h hz
  | pbin o x y =>
    simp only [top] at h
    replace h := topt_s h
    obtain ⟨a, e1, h⟩ := h
    replace h := topt_s h
    obtain ⟨b, e2, h⟩ := h
    obtain ⟨y1, q1, r1⟩ := tev_sound he e1
    obtain ⟨y2, q2, r2⟩ := tev_sound he e2
    obtain ⟨v, z, e3, hz, h⟩ := tpbin_sound h r1 r2
    simp only [vcOp, q1, q2, e3]
    exact hk.same hs h hz
  | shft o x y =>
    simp only [top] at h
    replace h := topt_s h
    obtain ⟨a, e1, h⟩ := h
    replace h := topt_s h
    obtain ⟨b, e2, h⟩ := h
    obtain ⟨y1, q1, r1⟩ := tev_sound he e1
    obtain ⟨y2, q2, r2⟩ := tev_sound he e2
    obtain ⟨v, z, e3, hz, h⟩ := tshft_sound h r1 r2
    simp only [vcOp, q1, q2, e3]
    exact hk.same hs h hz
  | abin ks ne x y =>
    simp only [top] at h
    replace h := topt_s h
    obtain ⟨a, e1, h⟩ := h
    replace h := topt_s h
    obtain ⟨b, e2, h⟩ := h
    obtain ⟨y1, q1, r1⟩ := tev_sound he e1
    obtain ⟨y2, q2, r2⟩ := tev_sound he e2
    obtain ⟨v, z, e3, hz, h⟩ := tabin_sound ok h r1 r2
    simp only [vcOp, q1, q2, e3]
    exact hk.same hs h hz
  | not x =>
    simp only [top] at h
    replace h := topt_s h
    obtain ⟨a, e1, h⟩ := h
    replace h := tbool_s h
    obtain ⟨b, rfl, h⟩ := h
    obtain ⟨y1, q1, r1⟩ := tev_sound he e1
    rw [r1.bool] at q1
    simp only [vcOp, q1]
    exact hk.same hs h (rB _)
  | neg x =>
    simp only [top] at h
    replace h := topt_s h
    obtain ⟨a, e1, h⟩ := h
    replace h := tint_s h
    obtain ⟨kd, n, rfl, h⟩ := h
    obtain ⟨y1, q1, r1⟩ := tev_sound he e1
    rw [r1.int] at q1
    simp only [vcOp, q1]
    exact hk.same hs h (rI _ _)
  | conv k0 x =>
    simp only [top] at h
    replace h := topt_s h
    obtain ⟨a, e1, h⟩ := h
    replace h := tint_s h
    obtain ⟨kd, n, rfl, h⟩ := h
    obtain ⟨y1, q1, r1⟩ := tev_sound he e1
    rw [r1.int] at q1
    simp only [vcOp, q1]
    exact hk.same hs h (rI _ _)
  | mkfn f a b =>
    simp only [top] at h
    replace h := topt_s h
    obtain ⟨va, e1, h⟩ := h
    replace h := topt_s h
    obtain ⟨vb, e2, h⟩ := h
    obtain ⟨y1, q1, r1⟩ := tevs_sound he e1
    obtain ⟨y2, q2, r2⟩ := tevs_sound he e2
    simp only [vcOp, q1, q2]
    exact hk.same hs h (.fn r1.1 r1.2 r2.1 r2.2)
  | mkslice sz bytes z n cc =>
    simp only [top] at h
    replace h := topt_s h
    obtain ⟨a, e1, h⟩ := h
    replace h := topt_s h
    obtain ⟨b, e2, h⟩ := h
    replace h := topt_s h
    obtain ⟨zv, e3, h⟩ := h
    replace h := cond_s h
    obtain ⟨h1, h⟩ := h
    simp only [Bool.and_eq_true, Bool.not_eq_true'] at h1
    obtain ⟨⟨g1, g2⟩, g3⟩ := h1
    have g1 := ble_t g1
    have g2 := beq_t g2
    replace h := tint_s h
    obtain ⟨ka, x, rfl, h⟩ := h
    replace h := tint_s h
    obtain ⟨kb, y, rfl, h⟩ := h
    obtain ⟨y1, q1, r1⟩ := tev_sound he e1
    obtain ⟨y2, q2, r2⟩ := tev_sound he e2
    rw [r1.int] at q1
    rw [r2.int] at q2
    have hz : Rv st zv z := ofHV_sound z zv e3
    obtain ⟨f1, f2, f3⟩ := tzfz_sound ok (fz := fz) hz ⟨z, e3⟩
    simp only [vcOp, q1, q2]
    have hxy : x = y ∧ interp c (.gd (0 ≤ x) (.gd (x ≤ 1099511627776) (k (.own st.length 0) (st ++ [zObj tab sz x.toNat (tzfz fz zv)])))) = some r := by
      cases hsa : sameArg n cc with
      | true =>
        rw [hsa] at h
        refine ⟨?_, h⟩
        unfold sameArg at hsa
        split at hsa
        · have := beq_t hsa
          subst this
          rw [q1] at q2
          cases q2; rfl
        · have := of_decide_eq_true hsa
          subst this
          simp only [ev, Option.some.injEq, HV.int.injEq] at q1 q2
          rw [← q1.2, ← q2.2]
        · cases hsa
      | false =>
        rw [hsa] at h
        exact gd_s h
    obtain ⟨hxy, h⟩ := hxy
    replace h := gd_s h
    obtain ⟨b1, h⟩ := h
    replace h := gd_s h
    obtain ⟨b2, h⟩ := h
    refine ⟨hxy, b1, b2, g1, by rw [← tsz_sound ok hz]; exact g2, ttup_sound ok hz g3, ?_⟩
    obtain ⟨o1, o2, o3, o4⟩ := zObj_ro ok (st := st) (tab := tab) (n := x.toNat) f1 (by rw [f2, g2]) (by rw [f3, g3])
    refine hk.push hs h ?_ o1 fun _ => o2
    rw [← hs.1]
    refine .own ⟨by simp, fun o' a1 a2 => ?_⟩
    simp at a1
    subst a1
    exact ⟨by rw [o3]; exact Nat.le_refl _, fun _ => by rw [o4]⟩
  | substr x lo hi =>
    simp only [top] at h
    replace h := topt_s h
    obtain ⟨a, e1, h⟩ := h
    replace h := tstr_s h
    obtain ⟨s, rfl, h⟩ := h
    obtain ⟨y1, q1, r1⟩ := tev_sound he e1
    rw [r1.str] at q1
    obtain ⟨a, b, e2, e3, g1, g2, g3, h⟩ := tpart_bound he h
    simp only [vcOp, q1, e2, e3]
    exact ⟨g1, g2, g3, hk.same hs h (rZ _)⟩
  | slice sz x lo hi mx =>
    simp only [top] at h
    replace h := topt_s h
    obtain ⟨v, e1, h⟩ := h
    obtain ⟨y1, q1, r1⟩ := tev_sound he e1
    exact tslice_sound ok he hs q1 r1 (fun id hi => by simp only [wlOp, idArg, e1]; exact hi) h hk
  | faddr off a =>
    simp only [top] at h
    replace h := topt_s h
    obtain ⟨v, e1, h⟩ := h
    obtain ⟨y, q1, hv⟩ := tev_sound he e1
    simp only [vcOp, q1]
    cases hv with
    | bp => exact hk.same hs h .bp
    | ap a b => exact hk.same hs h (.ap a b)
    | eptr a b => exact hk.same hs h (.eptr a b)
    | _ => cases h
  | fld ag off n x =>
    simp only [top] at h
    replace h := topt_s h
    obtain ⟨v, e1, h⟩ := h
    replace h := cond_s h
    obtain ⟨h1, h⟩ := h
    replace h := topt_s h
    obtain ⟨u, e2, h⟩ := h
    obtain ⟨y, q1, hv⟩ := tev_sound he e1
    obtain ⟨z, q2, hz⟩ := tld_sound ok hv e2
    have e3 : y = .agg y.cells := isAgg_cells (by rw [← tagg_sound ok hv]; exact h1)
    rw [e3] at q1 q2
    simp only [vcOp, q1, q2]
    exact hk.same hs h hz
  | iaddr sz x i =>
    obtain ⟨v, z, q, hz, h⟩ := iaddr_sound ok he hs h
    exact qv_vc q (hk.same hs h hz)
  | idx x i =>
    simp only [top] at h
    replace h := topt_s h
    obtain ⟨v, e1, h⟩ := h
    replace h := topt_s h
    obtain ⟨iv, e2, h⟩ := h
    replace h := tstr_s h
    obtain ⟨s, rfl, h⟩ := h
    replace h := tint_s h
    obtain ⟨kd, j, rfl, h⟩ := h
    replace h := opt_s h
    obtain ⟨b, hb, h⟩ := h
    obtain ⟨y1, q1, r1⟩ := tev_sound he e1
    obtain ⟨y2, q2, r2⟩ := tev_sound he e2
    rw [r1.str] at q1
    rw [r2.int] at q2
    obtain ⟨cc, g1, g2⟩ := bx_get hb
    simp only [vcOp, q1, q2]
    exact ⟨bx_nn hb, cc, g1, by rw [g2]; exact hk.same hs h (rI _ _)⟩
  | ext x i =>
    simp only [top] at h
    replace h := topt_s h
    obtain ⟨v, e1, h⟩ := h
    obtain ⟨y, q1, hv⟩ := tev_sound he e1
    cases hv with
    | tup a b =>
      simp only at h
      replace h := topt_s h
      obtain ⟨u, e2, h⟩ := h
      rw [nth_eq] at e2
      obtain ⟨z, hz, hr⟩ := RvL.get ⟨a, b⟩ e2
      simp only [vcOp, q1, hz]
      exact hk.same hs h hr
    | _ => cases h
  | len x =>
    simp only [top] at h
    replace h := topt_s h
    obtain ⟨v, e1, h⟩ := h
    obtain ⟨y, q1, hv⟩ := tev_sound he e1
    simp only [vcOp, q1]
    cases hv with
    | nils => exact hk.same hs h (rI _ _)
    | slV a b => exact fun _ => hk.same hs h (by rw [← a]; exact rI _ _)
    | d e =>
      rename_i t u
      cases t with
      | ls t =>
        replace h : interp c (k (I .i64 ((u.length : Nat) : Int)) st) = some r := h
        rcases e.sl_inv with ⟨rfl, hn⟩ | ⟨l', rfl, hl⟩
        · have : u = [] := by simpa using hn
          subst this
          exact hk.same hs h (rI _ _)
        · exact fun _ => hk.same hs h (by rw [els_len hl]; exact rI _ _)
      | _ => cases h
    | own hn =>
      simp only at h
      replace h := topt_s h
      obtain ⟨o, ho, h⟩ := h
      obtain ⟨p1, p2, p3⟩ := getO_some ho
      obtain ⟨ho', hy, hro⟩ := hs.get p1
      obtain ⟨lh, rfl, hl⟩ := hro.arr_of p2
      have hnow := own_now hn ho
      simp only [hy]
      exact ⟨by rw [hl, hnow], fun _ => hk.same hs h (by rw [hnow]; exact rI _ _)⟩
    | _ => cases h
  | cap x =>
    simp only [top] at h
    replace h := topt_s h
    obtain ⟨v, e1, h⟩ := h
    obtain ⟨y, q1, hv⟩ := tev_sound he e1
    simp only [vcOp, q1]
    cases hv with
    | nils => exact hk.same hs h (rI _ _)
    | _ => cases h
  | slen x =>
    simp only [top] at h
    replace h := topt_s h
    obtain ⟨v, e1, h⟩ := h
    replace h := tstr_s h
    obtain ⟨s, rfl, h⟩ := h
    obtain ⟨y, q1, hv⟩ := tev_sound he e1
    rw [hv.str] at q1
    simp only [vcOp, q1]
    exact fun _ => hk.same hs h (rI _ _)
  | snil ne x =>
    simp only [top] at h
    replace h := topt_s h
    obtain ⟨v, e1, h⟩ := h
    obtain ⟨y, q1, hv⟩ := tev_sound he e1
    simp only [vcOp, q1]
    have both : ∀ {b : Bool}, interp c (.meet (k (B true) st) (k (B false) st)) = some r → K (.bool b) hst := by
      intro b h
      obtain ⟨h1, h2⟩ := meet_s h
      cases b with
      | true => exact hk.same hs h1 (rB _)
      | false => exact hk.same hs h2 (rB _)
    cases hv with
    | nils => exact fun b => both h
    | d e =>
      rename_i t u
      cases t with
      | ls t =>
        replace h : interp c (.cnd u.isEmpty (.meet (k (B true) st) (k (B false) st)) (k (B ne) st)) = some r := h
        rcases e.sl_inv with ⟨rfl, hn⟩ | ⟨l', rfl, hl⟩
        · have : u = [] := by simpa using hn
          subst this
          exact fun b => both h
        · intro b hb
          rcases cnd_s h with ⟨h1, h⟩ | ⟨h1, h⟩
          · exact both h
          · have : l' ≠ [] := by
              intro e2
              subst e2
              have := els_len hl
              cases u with
              | nil => cases h1
              | cons => simp at this
            rw [hb this]
            exact hk.same hs h (rB _)
      | _ => cases h
    | own hn =>
      simp only at h
      replace h := topt_s h
      obtain ⟨o, ho, h⟩ := h
      obtain ⟨p1, p2, p3⟩ := getO_some ho
      obtain ⟨ho', hy, hro⟩ := hs.get p1
      have hnow := own_now hn ho
      cases hro with
      | arr hl =>
        rename_i t u mu ver cv lh
        simp only at h
        simp only [hy]
        refine ⟨by rw [els_len hl, hnow]; rfl, fun b hb => ?_⟩
        rcases cnd_s h with ⟨h1, h⟩ | ⟨h1, h⟩
        · exact both h
        · have : lh ≠ [] := by
            intro e2
            subst e2
            have := els_len hl
            cases u with
            | nil => cases h1
            | cons => simp at this
          rw [hb this]
          exact hk.same hs h (rB _)
      | arrV hl hss =>
        rename_i sz u mu ver lh
        simp only [hy]
        refine ⟨by rw [← hl.1, hnow]; rfl, fun b hb => ?_⟩
        cases u with
        | nil => exact both h
        | cons a u =>
          have : lh ≠ [] := by
            intro e2
            subst e2
            exact absurd hl.1 (by simp)
          rw [hb this]
          exact hk.same hs h (rB _)
      | _ => cases h
    | _ => cases h
  | bstr x =>
    simp only [top, bytesT'] at h
    replace h := topt_s h
    obtain ⟨v, e1, h⟩ := h
    replace h := topt_s h
    obtain ⟨e, e2, h⟩ := h
    replace h := topt_s h
    obtain ⟨l, e3, h⟩ := h
    obtain ⟨y, q1, hv⟩ := tev_sound he e1
    obtain ⟨l2, q2, hE⟩ := tels_sound e2 hv hs
    simp only [vcOp, q1, bstrF, q2, bytesF_of (elTo_sound ok e3 hE), Option.map_some]
    exact hk.same hs h (rZ _)
  | bmark x =>
    simp only [top] at h
    replace h := topt_s h
    obtain ⟨v, e1, h⟩ := h
    obtain ⟨y, q1, hv⟩ := tev_sound he e1
    simp only [vcOp, q1]
    cases hv with
    | own hn =>
      rename_i id ver n
      simp only at h
      replace h := topt_s h
      obtain ⟨o, ho, h⟩ := h
      obtain ⟨p1, p2, p3⟩ := getO_some ho
      obtain ⟨ho', hy, hro⟩ := hs.get p1
      have hnow := own_now hn ho
      have hm : Mo st (st.set id .dead) := .set fun q => by cases q
      have hs2 : RSt (st.set id .dead) (hst.set id .dead) := hs.set hm .dead
      have hf : Fr (wrOp env (.bmark x)) (wlOp tab env st (.bmark x)) hst (hst.set id .dead) := .set fun o3 a1 a2 => absurd (by simp only [wlOp, idArg, e1, idOf]; simp) a2
      cases hro with
      | arr hl =>
        rename_i t u mu ver cv lh
        cases mu with
        | false => cases h
        | true =>
          simp only at h
          replace h := gd_s h
          obtain ⟨h1, h⟩ := h
          rw [setN_eq] at h
          simp only [hy]
          refine ⟨by rw [els_len hl, hnow]; rfl, ?_, hk _ _ _ _ h (.d (.sl hl.1 hl.2)) hs2 hm hf⟩
          intro e2
          subst e2
          have := els_len hl
          simp at this
          omega
      | arrV hl hss =>
        rename_i sz u mu ver lh
        cases mu with
        | false => cases u <;> cases h
        | true =>
          cases u with
          | nil => cases h
          | cons a u =>
            simp only at h
            rw [setN_eq] at h
            simp only [hy]
            refine ⟨by rw [← hl.1, hnow]; rfl, ?_, hk _ _ _ _ h (.slV hl.1 (hl.mono hm).2) hs2 hm hf⟩
            intro e2
            subst e2
            exact absurd hl.1 (by simp)
      | _ => cases h
    | _ => cases h
  | clr sz z x =>
    simp only [top] at h
    replace h := topt_s h
    obtain ⟨v, e1, h⟩ := h
    replace h := topt_s h
    obtain ⟨zv, e3, h⟩ := h
    obtain ⟨y, q1, hv⟩ := tev_sound he e1
    simp only [vcOp, q1]
    cases hv with
    | otl hn =>
      rename_i id ver i n
      simp only at h
      replace h := topt_s h
      obtain ⟨o, ho, h⟩ := h
      obtain ⟨p1, p2, p3⟩ := getO_some ho
      obtain ⟨ho', hy, hro⟩ := hs.get p1
      have hnow := own_now hn ho
      cases hro with
      | arr hl =>
        rename_i t u mu ver' cv lh
        cases mu with
        | false => cases h
        | true =>
          simp only at h
          replace h := cond_s h
          obtain ⟨h1, h⟩ := h
          simp only [Bool.and_eq_true, Bool.not_eq_true'] at h1
          obtain ⟨⟨g1, g2⟩, g3⟩ := h1
          have g1 := beq_t g1
          have g2 := beq_t g2
          replace h := topt_s h
          obtain ⟨w, e4, h⟩ := h
          have hz : Rv st zv z := ofHV_sound z zv e3
          obtain ⟨f1, f2, f3⟩ := tzfz_sound ok (fz := fz) hz ⟨z, e3⟩
          rw [setN_eq] at h
          simp only [hy]
          have hm : Mo st (st.set id (.arr t (u.take i ++ List.replicate (u.length - i) w) true ver (cv + 1))) := .set fun _ => ⟨_, p1, ⟨rfl, Nat.le_of_eq p3, fun _ => by
            simp only [TO.len, List.length_append, List.length_take, List.length_replicate]
            omega, Nat.le_succ _, fun t l mu v c e1 e2 => by cases e1; exact absurd e2 (Nat.succ_ne_self _)⟩⟩
          refine ⟨g1, by rw [els_len hl, hnow]; rfl, by rw [← tsz_sound ok hz]; exact g2, ttup_sound ok hz g3, ?_⟩
          refine hk _ _ _ _ h .und (hs.set hm ?_) hm (.set fun o3 a1 _ => ⟨?_, fun a2 => absurd (by simp only [wrOp, idArg, e1, idOf]; simp) a2⟩)
          · rw [← els_len hl]
            refine .arr ?_
            rw [List.map_append, List.map_take, List.map_replicate]
            exact (hl.take i).append (.rep (shut_sound ok e4 f1) _)
          · rw [hy] at a1
            cases a1
            refine ⟨_, _, rfl, ?_⟩
            simp only [List.length_append, List.length_take, List.length_replicate]
            omega
      | _ => cases h
    | _ => cases h
  | append sz bytes x y =>
    simp only [top] at h
    replace h := topt_s h
    obtain ⟨a, e1, h⟩ := h
    replace h := topt_s h
    obtain ⟨b, e2, h⟩ := h
    obtain ⟨y1, q1, r1⟩ := tev_sound he e1
    obtain ⟨y2, q2, r2⟩ := tev_sound he e2
    exact tappend_sound ok hs q1 q2 r1 r2 (fun id hi => by simp only [wlOp, idArg, e1]; exact hi) h hk
  | max x y =>
    simp only [top] at h
    replace h := topt_s h
    obtain ⟨a, e1, h⟩ := h
    replace h := topt_s h
    obtain ⟨b, e2, h⟩ := h
    replace h := tint_s h
    obtain ⟨ka, m, rfl, h⟩ := h
    replace h := tint_s h
    obtain ⟨kb, n, rfl, h⟩ := h
    obtain ⟨y1, q1, r1⟩ := tev_sound he e1
    obtain ⟨y2, q2, r2⟩ := tev_sound he e2
    rw [r1.int] at q1
    rw [r2.int] at q2
    split at h
    · rename_i e
      simp only [vcOp, q1, q2]
      exact ⟨e, hk.same hs h (rI _ _)⟩
    · cases h
  | min x y =>
    simp only [top] at h
    replace h := topt_s h
    obtain ⟨a, e1, h⟩ := h
    replace h := topt_s h
    obtain ⟨b, e2, h⟩ := h
    replace h := tint_s h
    obtain ⟨ka, m, rfl, h⟩ := h
    replace h := tint_s h
    obtain ⟨kb, n, rfl, h⟩ := h
    obtain ⟨y1, q1, r1⟩ := tev_sound he e1
    obtain ⟨y2, q2, r2⟩ := tev_sound he e2
    rw [r1.int] at q1
    rw [r2.int] at q2
    split at h
    · rename_i e
      simp only [vcOp, q1, q2]
      exact ⟨e, hk.same hs h (rI _ _)⟩
    · cases h
  | call f args =>
    simp only [top] at h
    replace h := topt_s h
    obtain ⟨fv, e1, h⟩ := h
    replace h := topt_s h
    obtain ⟨vs, e2, h⟩ := h
    obtain ⟨y1, q1, r1⟩ := tev_sound he e1
    obtain ⟨y2, q2, r2⟩ := tevs_sound he e2
    simp only [vcOp, q1, q2]
    split at h
    · rename_i g a b
      obtain ⟨x, y, rfl, ra, rb⟩ := r1.fn_inv
      refine hcall h ((ra.append r2).append rb) hs (hk.weak (fun _ q => by cases q) fun j q => ?_)
      simp only [wlOp, e1, e2]
      exact q
    · cases h
end
end X
end HL
end
section
namespace HL
namespace X
open Go
section
variable {S : DSys} {O : Type} {c : (i : Q S) → i.In → Option i.Out} {r : O} {P : Program} {tab : List (FS S)}
variable {st : TSt S} {hst : St} {env : TEnv S} {henv : Env}
theorem own?_sound (ok : S.Ok) {v : TV S} {h : HV} (hr : Rv st v h) (hv : ownV v = false) : own? h = false := by
  cases hr with
  | own a => cases hv
  | d e =>
    rename_i t x
    have hc := (e.cl (encT_cl ok t x)).2
    cases h <;> first | rfl | exact absurd (hc _) (Nat.lt_irrefl _)
  | _ => rfl
theorem tup?_sound (ok : S.Ok) {v : TV S} {h : HV} (hr : Rv st v h) (hv : ttup v = false) : tup? h = false := by
  have := ttup_sound ok hr hv
  cases h <;> first | rfl | exact absurd rfl (this _)
theorem calmT_f : ∀ {l : List (TV S)}, calmT l = true → ∀ v ∈ l, ownV v = false
  | [], _, v, h => by cases h
  | a :: l, h, v, hv => by
    simp only [calmT, Bool.and_eq_true, Bool.not_eq_true'] at h
    rcases List.mem_cons.1 hv with rfl | hv
    · exact h.1
    · exact calmT_f h.2 v hv
theorem calmB_f : ∀ {l : List (TV S)}, calmB l = true → ∀ v ∈ l, ttup v = false
  | [], _, v, h => by cases h
  | a :: l, h, v, hv => by
    simp only [calmB, Bool.and_eq_true, Bool.not_eq_true'] at h
    rcases List.mem_cons.1 hv with rfl | hv
    · exact h.1
    · exact calmB_f h.2 v hv
theorem calm_sound (ok : S.Ok) {v : TV S} {h : HV} (hr : Rv st v h) (hv : calmT (tcells v) = true) : calm h = true := by
  unfold calm
  rw [List.all_eq_true]
  intro x hx
  obtain ⟨i, hi⟩ := List.getElem?_of_mem hx
  have hc := tcells_sound ok hr
  have hil : i < (tcells v).length := by rw [hc.1]; exact get_lt hi
  have := hc.2 i _ _ (List.getElem?_eq_getElem hil) hi
  simp [own?_sound ok this (calmT_f hv _ (List.getElem_mem hil))]
theorem tcn1_calm {v : TV S} (hv : ownV v = false) : ∃ w, tcn1 st v = some (w, st) := by
  cases v <;> first | exact ⟨_, rfl⟩ | cases hv
theorem tcnL_calm : ∀ {l : List (TV S)}, (∀ v ∈ l, ownV v = false) → ∃ w, tcnL st l = some (w, st)
  | [], _ => ⟨_, rfl⟩
  | a :: l, h => by
    obtain ⟨w, hw⟩ := tcn1_calm (st := st) (h a (by simp))
    obtain ⟨ws, hws⟩ := tcnL_calm (l := l) fun v hv => h v (by simp [hv])
    exact ⟨w :: ws, by simp only [tcnL, hw, hws]⟩
theorem tcnA_calm {fz : Bool} {v : TV S} (hv : calmT (tcells v) = true) : ∃ w, tcnA fz st v = some (w, st) := by
  cases fz with
  | false => exact ⟨v, rfl⟩
  | true =>
    cases v with
    | agg cs =>
      obtain ⟨w, hw⟩ := tcnL_calm (st := st) (l := cs) (calmT_f hv)
      exact ⟨.agg w, by simp only [tcnA, hw]⟩
    | own a b => cases hv
    | _ => exact ⟨_, rfl⟩
theorem quiet_sound (ok : S.Ok) {fz : Bool} {op : HOp} (hq : quietOk env st op = true) (he : RE st env henv) (hs : RSt st hst) {k : TV S → TSt S → Tree S O} (h : interp c (top tab (qfz fz op) env st op k) = some r) :
    ∃ v z, qv fz henv hst op = some z ∧ Rv st v z ∧ interp c (k v st) = some r := by
  simp only [quietOk, Bool.and_eq_true] at hq
  obtain ⟨hq1, hq2⟩ := hq
  cases op with
  | mov x =>
    simp only [top] at h
    replace h := topt_s h
    obtain ⟨v, e1, h⟩ := h
    obtain ⟨y, q1, hy⟩ := tev_sound he e1
    exact ⟨v, y, q1, hy, h⟩
  | pick cc a b =>
    simp only [top] at h
    replace h := topt_s h
    obtain ⟨vc, e0, h⟩ := h
    replace h := topt_s h
    obtain ⟨va, e1, h⟩ := h
    replace h := topt_s h
    obtain ⟨vb, e2, h⟩ := h
    replace h := tbool_s h
    obtain ⟨t, rfl, h⟩ := h
    obtain ⟨y0, q0, r0⟩ := tev_sound he e0
    obtain ⟨y1, q1, r1⟩ := tev_sound he e1
    obtain ⟨y2, q2, r2⟩ := tev_sound he e2
    rw [r0.bool] at q0
    simp only [qv, q0, q1, q2]
    rcases cnd_s h with ⟨rfl, h⟩ | ⟨rfl, h⟩
    · exact ⟨va, y1, rfl, r1, h⟩
    · exact ⟨vb, y2, rfl, r2, h⟩
  | build z parts =>
    simp only [top] at h
    replace h := topt_s h
    obtain ⟨vs, e1, h⟩ := h
    replace h := topt_s h
    obtain ⟨⟨as, st1⟩, e2, h⟩ := h
    replace h := topt_s h
    obtain ⟨zs, e3, h⟩ := h
    replace h := topt_s h
    obtain ⟨cs, e4, h⟩ := h
    replace h := condf_s h
    obtain ⟨h1, h⟩ := h
    simp only [e1] at hq2
    have hb := calmB_f hq2
    rw [tparts_map] at e1
    obtain ⟨ys, q1, hv⟩ := tevs_sound he e1
    have e2 : some (vs, st) = some (as, st1) := e2
    cases e2
    simp only at e4 h1 h
    have hzl : parts.length = vs.length := by
      have a1 := evs_len q1
      have a2 := hv.1
      simp at a1
      omega
    obtain ⟨hs2, q2, hc⟩ := tfill_sound ok (st := st) (ofHVs_sound z zs e3) e4 (tzip_get (ps := parts) hzl hv)
    refine ⟨.agg cs, .agg hs2, ?_, .agg hc.1 hc.2, h⟩
    simp only [qv, q1]
    rw [if_pos]
    · simp only [q2]
    · rw [List.all_eq_true]
      intro x hx
      obtain ⟨i, hi⟩ := List.getElem?_of_mem hx
      have hil : i < vs.length := by rw [hv.1]; exact get_lt hi
      have hr := hv.2 i _ _ (List.getElem?_eq_getElem hil) hi
      have := hb _ (List.getElem_mem hil)
      simp [tup?_sound ok hr this]
  | load ag n a =>
    simp only [top] at h
    replace h := topt_s h
    obtain ⟨p, e1, h⟩ := h
    obtain ⟨x, e2, hx⟩ := tev_sound he e1
    simp only [qv, e2]
    have fin : ∀ {v : TV S} {u : HV} {off : Nat}, Rv st v u → (ag = true → ∀ w, tld true off n v = some w → calmT (tcells w) = true) → interp c (tload fz st ag off n v k) = some r →
        ∃ v' z, (match ld ag off n u with
          | some h => if ag then (if calm h then some (cnA fz hst h).1 else none) else some h
          | none => none) = some z ∧ Rv st v' z ∧ interp c (k v' st) = some r := by
      intro v u off hv hcalm h
      unfold tload at h
      split at h
      · rename_i w hw
        obtain ⟨y, f1, hy⟩ := tld_sound ok hv hw
        simp only [f1]
        cases ag with
        | false => exact ⟨w, y, rfl, hy, h⟩
        | true =>
          simp only at h
          have hcw := hcalm rfl w hw
          obtain ⟨w', hw'⟩ := tcnA_calm (st := st) (fz := fz) hcw
          simp only [hw'] at h
          obtain ⟨g1, g2, g3, g4⟩ := tcnA_sound ok hw' hy hs
          refine ⟨w', (cnA fz hst y).1, ?_, g1, h⟩
          simp only [if_true, calm_sound ok hy hcw]
      · cases h
    cases hx with
    | bp =>
      rename_i id off
      simp only at h
      replace h := topt_s h
      obtain ⟨v, e3, h⟩ := h
      obtain ⟨ho, hy, hro⟩ := hs.get (getB_some e3)
      cases hro with
      | box hv ht =>
        rename_i hv'
        simp only [hy, Option.bind_some, items]
        rw [if_pos (show [hv'].length = 1 from rfl)]
        simp only [List.getElem?_cons_zero]
        refine fin hv (fun hag w hw => ?_) h
        subst hag
        simp only [e1, e3, hw] at hq2
        exact hq2
    | ap hn hi =>
      rename_i id ver i off m
      simp only at h
      replace h := topt_s h
      obtain ⟨o, ho, h⟩ := h
      obtain ⟨p1, p2, p3⟩ := getO_some ho
      obtain ⟨ho', hy, hro⟩ := hs.get p1
      have hnow := own_now hn ho
      cases hro with
      | arr hl =>
        rename_i t l' mu ver' cv lh
        simp only at h
        replace h := opt_s h
        obtain ⟨e, he', h⟩ := h
        obtain ⟨z, hz, hze⟩ := hl.get (i := i) (y := encT S t e) (by simp [he'])
        simp only [hy, Option.bind_some, items]
        rw [if_pos (by rw [els_len hl, hnow]; rfl)]
        simp only [hz]
        refine fin (.d hze) (fun hag w hw => ?_) h
        exact dcalm ok hw
      | _ => cases h
    | eptr hl hi =>
      rename_i t l' i off e lh
      simp only at h
      replace h := topt_s h
      obtain ⟨u, e3, h⟩ := h
      obtain ⟨z, hz, hze⟩ := hl.get (i := i) (y := encT S t e) (by simp [hi])
      obtain ⟨y, g1, g2⟩ := tld_sound ok (st := st) (.d hze) e3
      simp only [hz]
      rw [if_pos (els_sz ok hl z (List.mem_of_getElem? hz))]
      exact ⟨u, y, g1, g2, h⟩
    | _ => cases h
  | nilchk x =>
    simp only [top] at h
    replace h := topt_s h
    obtain ⟨v, e1, h⟩ := h
    obtain ⟨y, q1, hv⟩ := tev_sound he e1
    simp only [qv, q1]
    cases hv with
    | bp => exact ⟨_, _, rfl, .bp, h⟩
    | ap a b => exact ⟨_, _, rfl, .ap a b, h⟩
    | eptr a b => exact ⟨_, _, rfl, .eptr a b, h⟩
    | _ => cases h
  | bin o x y =>
    simp only [top] at h
    replace h := topt_s h
    obtain ⟨a, e1, h⟩ := h
    replace h := topt_s h
    obtain ⟨b, e2, h⟩ := h
    obtain ⟨y1, q1, r1⟩ := tev_sound he e1
    obtain ⟨y2, q2, r2⟩ := tev_sound he e2
    obtain ⟨v, z, e3, hz, h⟩ := tbin_sound h r1 r2
    exact ⟨v, z, by simp only [qv, q1, q2, e3], hz, h⟩
  | bbin o x y =>
    simp only [top] at h
    replace h := topt_s h
    obtain ⟨a, e1, h⟩ := h
    replace h := topt_s h
    obtain ⟨b, e2, h⟩ := h
    obtain ⟨y1, q1, r1⟩ := tev_sound he e1
    obtain ⟨y2, q2, r2⟩ := tev_sound he e2
    obtain ⟨v, z, e3, hz, h⟩ := tbbin_sound h r1 r2
    exact ⟨v, z, by simp only [qv, q1, q2, e3], hz, h⟩
  | pbin o x y =>
    simp only [top] at h
    replace h := topt_s h
    obtain ⟨a, e1, h⟩ := h
    replace h := topt_s h
    obtain ⟨b, e2, h⟩ := h
    obtain ⟨y1, q1, r1⟩ := tev_sound he e1
    obtain ⟨y2, q2, r2⟩ := tev_sound he e2
    obtain ⟨v, z, e3, hz, h⟩ := tpbin_sound h r1 r2
    exact ⟨v, z, by simp only [qv, q1, q2, e3], hz, h⟩
  | shft o x y =>
    simp only [top] at h
    replace h := topt_s h
    obtain ⟨a, e1, h⟩ := h
    replace h := topt_s h
    obtain ⟨b, e2, h⟩ := h
    obtain ⟨y1, q1, r1⟩ := tev_sound he e1
    obtain ⟨y2, q2, r2⟩ := tev_sound he e2
    obtain ⟨v, z, e3, hz, h⟩ := tshft_sound h r1 r2
    exact ⟨v, z, by simp only [qv, q1, q2, e3], hz, h⟩
  | abin ks ne x y =>
    simp only [top] at h
    replace h := topt_s h
    obtain ⟨a, e1, h⟩ := h
    replace h := topt_s h
    obtain ⟨b, e2, h⟩ := h
    obtain ⟨y1, q1, r1⟩ := tev_sound he e1
    obtain ⟨y2, q2, r2⟩ := tev_sound he e2
    obtain ⟨v, z, e3, hz, h⟩ := tabin_sound ok h r1 r2
    exact ⟨v, z, by simp only [qv, q1, q2, e3], hz, h⟩
  | not x =>
    simp only [top] at h
    replace h := topt_s h
    obtain ⟨a, e1, h⟩ := h
    replace h := tbool_s h
    obtain ⟨b, rfl, h⟩ := h
    obtain ⟨y1, q1, r1⟩ := tev_sound he e1
    rw [r1.bool] at q1
    exact ⟨_, _, by simp only [qv, q1], rB _, h⟩
  | neg x =>
    simp only [top] at h
    replace h := topt_s h
    obtain ⟨a, e1, h⟩ := h
    replace h := tint_s h
    obtain ⟨kd, n, rfl, h⟩ := h
    obtain ⟨y1, q1, r1⟩ := tev_sound he e1
    rw [r1.int] at q1
    exact ⟨_, _, by simp only [qv, q1], rI _ _, h⟩
  | conv k0 x =>
    simp only [top] at h
    replace h := topt_s h
    obtain ⟨a, e1, h⟩ := h
    replace h := tint_s h
    obtain ⟨kd, n, rfl, h⟩ := h
    obtain ⟨y1, q1, r1⟩ := tev_sound he e1
    rw [r1.int] at q1
    exact ⟨_, _, by simp only [qv, q1], rI _ _, h⟩
  | mkfn f a b =>
    simp only [top] at h
    replace h := topt_s h
    obtain ⟨va, e1, h⟩ := h
    replace h := topt_s h
    obtain ⟨vb, e2, h⟩ := h
    obtain ⟨y1, q1, r1⟩ := tevs_sound he e1
    obtain ⟨y2, q2, r2⟩ := tevs_sound he e2
    exact ⟨_, _, by simp only [qv, q1, q2], .fn r1.1 r1.2 r2.1 r2.2, h⟩
  | substr x lo hi =>
    simp only [top] at h
    replace h := topt_s h
    obtain ⟨a, e1, h⟩ := h
    replace h := tstr_s h
    obtain ⟨s, rfl, h⟩ := h
    obtain ⟨y1, q1, r1⟩ := tev_sound he e1
    rw [r1.str] at q1
    obtain ⟨a, b, e2, e3, g1, g2, g3, h⟩ := tpart_bound he h
    exact ⟨_, _, by simp only [qv, q1, e2, e3]; rw [if_pos ⟨g1, g2, g3⟩], rZ _, h⟩
  | faddr off a =>
    simp only [top] at h
    replace h := topt_s h
    obtain ⟨v, e1, h⟩ := h
    obtain ⟨y, q1, hv⟩ := tev_sound he e1
    simp only [qv, q1]
    cases hv with
    | bp => exact ⟨_, _, rfl, .bp, h⟩
    | ap a b => exact ⟨_, _, rfl, .ap a b, h⟩
    | eptr a b => exact ⟨_, _, rfl, .eptr a b, h⟩
    | _ => cases h
  | fld ag off n x =>
    simp only [top] at h
    replace h := topt_s h
    obtain ⟨v, e1, h⟩ := h
    replace h := cond_s h
    obtain ⟨h1, h⟩ := h
    replace h := topt_s h
    obtain ⟨u, e2, h⟩ := h
    obtain ⟨y, q1, hv⟩ := tev_sound he e1
    obtain ⟨z, q2, hz⟩ := tld_sound ok hv e2
    have e3 : y = .agg y.cells := isAgg_cells (by rw [← tagg_sound ok hv]; exact h1)
    rw [e3] at q1 q2
    exact ⟨_, _, by simp only [qv, q1, q2], hz, h⟩
  | iaddr sz x i => exact iaddr_sound ok he hs h
  | idx x i =>
    simp only [top] at h
    replace h := topt_s h
    obtain ⟨v, e1, h⟩ := h
    replace h := topt_s h
    obtain ⟨iv, e2, h⟩ := h
    replace h := tstr_s h
    obtain ⟨s, rfl, h⟩ := h
    replace h := tint_s h
    obtain ⟨kd, j, rfl, h⟩ := h
    replace h := opt_s h
    obtain ⟨b, hb, h⟩ := h
    obtain ⟨y1, q1, r1⟩ := tev_sound he e1
    obtain ⟨y2, q2, r2⟩ := tev_sound he e2
    rw [r1.str] at q1
    rw [r2.int] at q2
    obtain ⟨cc, g1, g2⟩ := bx_get hb
    exact ⟨_, .int .u8 b, by simp only [qv, q1, q2, g1]; rw [if_pos (bx_nn hb), g2], rI _ _, h⟩
  | ext x i =>
    simp only [top] at h
    replace h := topt_s h
    obtain ⟨v, e1, h⟩ := h
    obtain ⟨y, q1, hv⟩ := tev_sound he e1
    cases hv with
    | tup a b =>
      simp only at h
      replace h := topt_s h
      obtain ⟨u, e2, h⟩ := h
      rw [nth_eq] at e2
      obtain ⟨z, hz, hr⟩ := RvL.get ⟨a, b⟩ e2
      exact ⟨u, z, by simp only [qv, q1, hz], hr, h⟩
    | _ => cases h
  | len x =>
    simp only [top] at h
    replace h := topt_s h
    obtain ⟨v, e1, h⟩ := h
    obtain ⟨y, q1, hv⟩ := tev_sound he e1
    simp only [qv, q1]
    cases hv with
    | nils => exact ⟨_, _, rfl, rI _ _, h⟩
    | slV a b => exact ⟨_, _, rfl, by rw [← a]; exact rI _ _, h⟩
    | d e =>
      rename_i t u
      cases t with
      | ls t =>
        replace h : interp c (k (I .i64 ((u.length : Nat) : Int)) st) = some r := h
        rcases e.sl_inv with ⟨rfl, hn⟩ | ⟨l', rfl, hl⟩
        · have : u = [] := by simpa using hn
          subst this
          exact ⟨_, _, rfl, rI _ _, h⟩
        · exact ⟨_, _, rfl, by rw [els_len hl]; exact rI _ _, h⟩
      | _ => cases h
    | own hn =>
      simp only at h
      replace h := topt_s h
      obtain ⟨o, ho, h⟩ := h
      obtain ⟨p1, p2, p3⟩ := getO_some ho
      obtain ⟨ho', hy, hro⟩ := hs.get p1
      obtain ⟨lh, rfl, hl⟩ := hro.arr_of p2
      have hnow := own_now hn ho
      simp only [hy]
      rw [if_pos (by rw [hl, hnow])]
      exact ⟨_, _, rfl, by rw [hnow]; exact rI _ _, h⟩
    | _ => cases h
  | slen x =>
    simp only [top] at h
    replace h := topt_s h
    obtain ⟨v, e1, h⟩ := h
    replace h := tstr_s h
    obtain ⟨s, rfl, h⟩ := h
    obtain ⟨y, q1, hv⟩ := tev_sound he e1
    rw [hv.str] at q1
    exact ⟨_, _, by simp only [qv, q1], rI _ _, h⟩
  | bstr x =>
    simp only [top, bytesT'] at h
    replace h := topt_s h
    obtain ⟨v, e1, h⟩ := h
    replace h := topt_s h
    obtain ⟨e, e2, h⟩ := h
    replace h := topt_s h
    obtain ⟨l, e3, h⟩ := h
    obtain ⟨y, q1, hv⟩ := tev_sound he e1
    obtain ⟨l2, q2, hE⟩ := tels_sound e2 hv hs
    exact ⟨_, _, by simp only [qv, q1, bstrF, q2, bytesF_of (elTo_sound ok e3 hE), Option.map_some], rZ _, h⟩
  | max x y =>
    simp only [top] at h
    replace h := topt_s h
    obtain ⟨a, e1, h⟩ := h
    replace h := topt_s h
    obtain ⟨b, e2, h⟩ := h
    replace h := tint_s h
    obtain ⟨ka, m, rfl, h⟩ := h
    replace h := tint_s h
    obtain ⟨kb, n, rfl, h⟩ := h
    obtain ⟨y1, q1, r1⟩ := tev_sound he e1
    obtain ⟨y2, q2, r2⟩ := tev_sound he e2
    rw [r1.int] at q1
    rw [r2.int] at q2
    split at h
    · rename_i e
      exact ⟨_, _, by simp only [qv, q1, q2, if_pos e], rI _ _, h⟩
    · cases h
  | min x y =>
    simp only [top] at h
    replace h := topt_s h
    obtain ⟨a, e1, h⟩ := h
    replace h := topt_s h
    obtain ⟨b, e2, h⟩ := h
    replace h := tint_s h
    obtain ⟨ka, m, rfl, h⟩ := h
    replace h := tint_s h
    obtain ⟨kb, n, rfl, h⟩ := h
    obtain ⟨y1, q1, r1⟩ := tev_sound he e1
    obtain ⟨y2, q2, r2⟩ := tev_sound he e2
    rw [r1.int] at q1
    rw [r2.int] at q2
    split at h
    · rename_i e
      exact ⟨_, _, by simp only [qv, q1, q2, if_pos e], rI _ _, h⟩
    · cases h
  | _ => cases hq1
where
  dcalm (ok : S.Ok) {t : Tc} {e : T S.ty t} {off n : Nat} {w : TV S} (h : tld true off n (.d t e) = some w) : calmT (tcells w) = true := by
    have key : ∀ (l : List (Lf S)), calmT (l.map Lf.v) = true := by
      intro l
      induction l with
      | nil => rfl
      | cons a l ih => simp only [List.map_cons, calmT, ih, Lf.v, ownV]; rfl
    simp only [tld] at h
    cases hb : (Nat.beq off 0 && tagg (.d t e : TV S) && Nat.beq (tsz (.d t e : TV S)) n) with
    | true =>
      rw [hb] at h
      cases h
      exact key _
    | false =>
      rw [hb] at h
      cases t with
      | st i =>
        obtain ⟨j, y, rfl, _⟩ := subF_sound ok 5 _ off n w h
        exact key _
      | _ => cases h
end
end X
end HL
end
section
namespace HL
namespace X
open Go
theorem qv_congr {fz : Bool} {env env' : Env} {st : St} {op : HOp} (h : ∀ x ∈ op.args, ev env x = ev env' x) : qv fz env st op = qv fz env' st op := by
  cases op <;> simp only [HOp.args] at h <;> simp only [qv]
  case mov x => rw [h x (by simp)]
  case pick c a b => rw [h c (by simp), h a (by simp), h b (by simp)]
  case build z parts => rw [evs_congr h]
  case load a b x => rw [h x (by simp)]
  case nilchk x => rw [h x (by simp)]
  case bin op x y => rw [h x (by simp), h y (by simp)]
  case bbin op x y => rw [h x (by simp), h y (by simp)]
  case pbin op x y => rw [h x (by simp), h y (by simp)]
  case not x => rw [h x (by simp)]
  case neg x => rw [h x (by simp)]
  case conv k x => rw [h x (by simp)]
  case mkfn f a b => rw [evs_congr fun x hx => h x (by simp [hx]), evs_congr (xs := b) fun x hx => h x (by simp [hx])]
  case substr x lo hi =>
    have e1 : ∀ d, boundOf env d lo = boundOf env' d lo := fun d => bound_congr fun x hx => h x (by simp [hx])
    have e2 : ∀ d, boundOf env d hi = boundOf env' d hi := fun d => bound_congr fun x hx => h x (by simp [hx])
    simp only [e1, e2, h x (by simp)]
  case faddr a x => rw [h x (by simp)]
  case fld a b c x => rw [h x (by simp)]
  case iaddr a x y => rw [h x (by simp), h y (by simp)]
  case idx x y => rw [h x (by simp), h y (by simp)]
  case ext x y => rw [h x (by simp)]
  case len x => rw [h x (by simp)]
  case slen x => rw [h x (by simp)]
  case shft a x y => rw [h x (by simp), h y (by simp)]
  case abin a b x y => rw [h x (by simp), h y (by simp)]
  case bstr x => rw [h x (by simp)]
  case max x y => rw [h x (by simp), h y (by simp)]
  case min x y => rw [h x (by simp), h y (by simp)]
theorem eff_congr {fz : Bool} {env env' : Env} {st : St} {i : HIns} (h : ∀ t ∈ i.reads, lk env t = lk env' t) : eff fz env st i = eff fz env' st i := by
  have hq : qv fz env st i.op = qv fz env' st i.op := qv_congr fun x hx => ev_congr fun t ht => h t (by
    simp only [HIns.reads, List.mem_append, List.mem_flatMap]
    exact .inl ⟨x, hx, ht⟩)
  unfold eff
  cases hg : i.guard with
  | none => exact hq
  | some p =>
    obtain ⟨s, b⟩ := p
    have hs : lk env s = lk env' s := h s (by simp [HIns.reads, hg])
    simp only [hs, hq]
def idH : HV → List Nat
  | .ptr id _ _ _ => [id]
  | .own id _ => [id]
  | .otl id _ _ => [id]
  | _ => []
theorem cn1_any {s s' : St} {h : HV} (hn : own? h = false) : (cn1 s h).1 = (cn1 s' h).1 ∧ (cn1 s h).2 = s ∧ (cn1 s' h).2 = s' := by
  cases h <;> first | exact ⟨rfl, rfl, rfl⟩ | (simp [own?] at hn)
theorem cnL_any {s s' : St} : ∀ {l : List HV}, (∀ h ∈ l, own? h = false) → (cnL s l).1 = (cnL s' l).1
  | [], _ => rfl
  | x :: l, hn => by
    obtain ⟨h1, h2, h3⟩ := cn1_any (s := s) (s' := s') (hn x (by simp))
    simp only [cnL, h2, h3, h1]
    rw [cnL_any (s := s) (s' := s') fun h hh => hn h (by simp [hh])]
theorem cnA_any {fz : Bool} {s s' : St} {h : HV} (hc : calm h = true) : (cnA fz s h).1 = (cnA fz s' h).1 := by
  have hn : ∀ x ∈ h.cells, own? x = false := fun x hx => by simpa using List.all_eq_true.1 hc x hx
  cases fz with
  | false => rfl
  | true =>
    cases h with
    | agg cs =>
      simp only [cnA, if_true]
      rw [cnL_any (s := s) (s' := s') (l := cs) hn]
    | own a b => have := hn _ (List.mem_singleton.2 rfl); simp [own?] at this
    | _ => exact (cn1_any (hn _ (List.mem_singleton.2 rfl))).1
theorem items_sim {o o' : HO} (h : OSm o o') {l : List HV} (hi : items o = some l) : items o' = some l := by
  cases o with
  | box v => have h : o' = .box v := h; subst h; exact hi
  | arr sz l' m => obtain ⟨m', rfl⟩ := h; exact hi
  | dead => cases hi
theorem qv_frame {fz : Bool} {env : Env} {s s' : St} {op : HOp} {z : HV} (h : qv fz env s op = some z)
    (hf : ∀ x h0, rdArg op = some x → ev env x = some h0 → ∀ id ∈ idH h0, ∀ o, s[id]? = some o → ∃ o', s'[id]? = some o' ∧ OL o o' ∧ (rdAll op = true → OSm o o')) : qv fz env s' op = some z := by
  cases op <;> simp only [qv] at h ⊢ <;> try exact h
  case load ag n a =>
    cases hE : ev env a with
    | none => simp only [hE] at h; cases h
    | some v =>
      simp only [hE] at h ⊢
      cases v with
      | ptr id m i off =>
        simp only at h ⊢
        cases hl : (s[id]?).bind items with
        | none => simp only [hl] at h; cases h
        | some l =>
          simp only [hl] at h
          simp only [Option.bind_eq_some_iff] at hl
          obtain ⟨o, ho, hi⟩ := hl
          obtain ⟨o', ho', _, hS⟩ := hf a _ rfl hE id (by simp [idH]) o ho
          have hi' := items_sim (hS rfl) hi
          simp only [ho', Option.bind_some, hi']
          split at h
          · rename_i hm
            rw [if_pos hm]
            cases hx : l[i]? with
            | none => simp only [hx] at h; cases h
            | some x =>
              simp only [hx] at h ⊢
              cases hy : ld ag off n x with
              | none => simp only [hy] at h; cases h
              | some y =>
                simp only [hy] at h ⊢
                cases ag with
                | false => exact h
                | true =>
                  simp only [if_true] at h ⊢
                  split at h
                  · rename_i hc
                    rw [if_pos hc, ← h, cnA_any hc]
                  · cases h
          · cases h
      | _ => exact h
  case iaddr sz x i =>
    cases hE : ev env x with
    | none => simp only [hE] at h; cases h
    | some v =>
      cases hE2 : ev env i with
      | none => simp only [hE, hE2] at h; cases v <;> cases h
      | some iv =>
        simp only [hE, hE2] at h ⊢
        cases v with
        | own id n =>
          cases iv with
          | int kd j =>
            simp only at h ⊢
            cases hl : s[id]? with
            | none => simp only [hl] at h; cases h
            | some o =>
              simp only [hl] at h
              cases o with
              | arr sz' l m =>
                obtain ⟨o', ho', hO, _⟩ := hf x _ rfl hE id (by simp [idH]) _ hl
                obtain ⟨l', m', rfl, hlen⟩ := hO
                simp only [ho', hlen]
                exact h
              | _ => cases h
          | _ => exact h
        | _ => cases iv <;> exact h
  case len x =>
    cases hE : ev env x with
    | none => simp only [hE] at h; cases h
    | some v =>
      simp only [hE] at h ⊢
      cases v with
      | own id n =>
        simp only at h ⊢
        cases hl : s[id]? with
        | none => simp only [hl] at h; cases h
        | some o =>
          simp only [hl] at h
          cases o with
          | arr sz' l m =>
            obtain ⟨o', ho', hO, _⟩ := hf x _ rfl hE id (by simp [idH]) _ hl
            obtain ⟨l', m', rfl, hlen⟩ := hO
            simp only [ho', hlen]
            exact h
          | _ => cases h
      | _ => exact h
  case bstr x =>
    cases hE : ev env x with
    | none => simp only [hE] at h; cases h
    | some v =>
      simp only [hE] at h ⊢
      unfold bstrF at h ⊢
      cases hl : elemsOf s v with
      | none => simp only [hl] at h; cases h
      | some l =>
        simp only [hl] at h
        have : elemsOf s' v = some l := by
          unfold elemsOf at hl ⊢
          cases v with
          | own id n =>
            simp only at hl ⊢
            cases hl' : s[id]? with
            | none => simp only [hl'] at hl; cases hl
            | some o =>
              simp only [hl'] at hl
              cases o with
              | arr sz' l' m =>
                obtain ⟨o', ho', _, hS⟩ := hf x _ rfl hE id (by simp [idH]) _ hl'
                obtain ⟨m', rfl⟩ := hS rfl
                simp only [ho']
                exact hl
              | _ => cases hl
          | _ => exact hl
        rw [this]
        exact h
/-! ### what was looked at stays as it was -/
def wfP : DPlan → List HIns → Prop
  | .done, _ => True
  | .none, _ => True
  | .q i r, done => wfP r (i :: done)
  | .l _ c r m, done => (∀ x ∈ c, x ∈ done) ∧ wfP r done ∧ wfP m done
section
variable {L : DL} {T : List (List Nat)}
def doneOf (L : DL) (T : List (List Nat)) (C : List Nat) : List HIns := (C.filter fun j => !loudI L T j).map (insAt L)
theorem wf_alts {C : List Nat} {f : Nat → Option DPlan} : ∀ {l : List Nat} {p : DPlan}, altsOf L T C f l = some p → (∀ i ∈ l, ∀ q, f i = some q → wfP q (doneOf L T C)) → wfP p (doneOf L T C)
  | [], p, h, _ => by cases h; trivial
  | i :: l, p, h, hf => by
    simp only [altsOf, Option.bind_eq_some_iff, Option.map_eq_some_iff] at h
    obtain ⟨q, h1, m, h2, rfl⟩ := h
    refine ⟨fun x hx => ?_, hf i (by simp) q h1, wf_alts h2 fun j hj => hf j (by simp [hj])⟩
    simp only [chkOf, List.mem_map, List.mem_filter, Bool.and_eq_true] at hx
    obtain ⟨j, ⟨h3, h4, _⟩, rfl⟩ := hx
    exact List.mem_map.2 ⟨j, List.mem_filter.2 ⟨h3, h4⟩, rfl⟩
theorem wf_mkplan : ∀ {n : Nat} {C : List Nat} {p : DPlan}, mkplan L T n C = some p → wfP p (doneOf L T C)
  | 0, C, p, h => by
    simp only [mkplan] at h
    split at h
    · cases h; trivial
    · cases h
  | n + 1, C, p, h => by
    simp only [mkplan] at h
    split at h
    · cases h; trivial
    · split at h
      · rename_i i hi
        simp only [Option.map_eq_some_iff] at h
        obtain ⟨q, h1, rfl⟩ := h
        have := wf_mkplan h1
        have hl := List.find?_some hi
        simp only [doneOf, List.filter_cons, hl, if_true, List.map_cons] at this
        exact this
      · rename_i hno
        refine wf_alts h fun i hi q hq => ?_
        have := wf_mkplan hq
        have hl : loudI L T i = true := by
          have := List.find?_eq_none.1 hno i hi
          simpa using this
        simp only [doneOf, List.filter_cons, hl, Bool.not_true, Bool.false_eq_true, if_false] at this
        exact this
theorem wf_plan {p : DPlan} (h : planOf L = some p) : wfP p [] := by
  unfold planOf at h
  simp only at h
  split at h
  · exact wf_mkplan h
  · cases h
end
theorem strip_dreg {P : Program} {N : Nat} {code : Code} {p : DPlan} (h : strip P N code = some (.dreg p)) : wfP p [] := by
  unfold strip at h
  split at h
  all_goals first
    | (cases h; done)
    | (simp only [Option.map_eq_some_iff] at h
       obtain ⟨x, h1, h2⟩ := h
       first
         | (cases h2; done)
         | skip)
    | (split at h
       · simp only [Option.map_eq_some_iff, Option.bind_eq_some_iff] at h
         obtain ⟨q, ⟨L, h1, h2⟩, h3⟩ := h
         cases h3
         exact wf_plan h2
       · cases h)
    | (simp only [Option.bind_eq_bind, Option.bind_eq_some_iff, Option.pure_def] at h
       obtain ⟨x, h1, y, h2, h3⟩ := h
       first
         | (cases h3; done)
         | (obtain ⟨z, hz, h4⟩ := h3
            cases h4))
end X
end HL
end
section
namespace HL
namespace X
open Go
section
variable {S : DSys} {O : Type} {c : (i : Q S) → i.In → Option i.Out} {r : O} {P : Program} {tab : List (FS S)}
variable {st : TSt S} {hst : St} {env : TEnv S} {henv : Env}
def Kept (no : List Nat) (a b : Env) : Prop := ∀ n, n ∉ no → lk b n = lk a n
theorem Kept.refl (no : List Nat) (a : Env) : Kept no a a := fun _ _ => rfl
theorem Kept.trans {no : List Nat} {a b d : Env} (h : Kept no a b) (h' : Kept no b d) : Kept no a d := fun n hn => (h' n hn).trans (h n hn)
theorem Kept.mono {no no' : List Nat} {a b : Env} (h : Kept no a b) (hs : ∀ n, n ∈ no → n ∈ no') : Kept no' a b := fun n hn => h n fun q => hn (hs n q)
theorem Kept.put {no : List Nat} {a : Env} {d : Option Nat} {z : HV} (hd : ∀ n, d = some n → n ∈ no) : Kept no a (putE a d z) := fun n hn => by
  cases d with
  | none => rfl
  | some d =>
    simp only [putE, lk]
    rw [if_neg]
    intro e
    subst e
    exact hn (hd d rfl)
theorem RE.over (he : RE st env henv) {s : Nat} {t : Bool} (hs : lk henv s = some (.bool t)) : RE st ((s, B t) :: env) henv := by
  intro n v hv
  rw [tlk_cons] at hv
  split at hv
  · rename_i e
    subst e
    cases hv
    exact ⟨_, hs, rB t⟩
  · exact he n v hv
theorem tins_sound (ok : S.Ok) (hcall : CallOk P tab c) {fz : Bool} {i : HIns} (he : RE st env henv) (hs : RSt st hst) {k : TEnv S → TSt S → Tree S O} (h : interp c (tins tab fz env st i k) = some r) {K : HV → St → Prop}
    (hk : ∀ env' st' z hst', interp c (k env' st') = some r → RE st' env' (putE henv i.dst z) → RSt st' hst' → Mo st st' → Fr (wrOp (envI env i) i.op) (wlOp tab (envI env i) st i.op) hst hst' → K z hst') : vcIns P fz henv hst i K := by
  obtain ⟨d, op, g⟩ := i
  cases g with
  | none =>
    simp only [tins] at h
    simp only [vcIns]
    exact top_sound ok hcall he hs h fun v st' x hst' h1 h2 h3 h4 h5 => hk _ _ _ _ h1 ((he.mono h4).put h2) h3 h4 h5
  | some p =>
    obtain ⟨s, b⟩ := p
    simp only [tins] at h
    replace h := topt_s h
    obtain ⟨v, e1, h⟩ := h
    obtain ⟨y, q1, hv⟩ := he s v e1
    simp only [vcIns, q1]
    have skip : ∀ {env' : TEnv S}, RE st env' henv → interp c (k (tput env' d .und) st) = some r → K undefH hst := fun he' h => hk _ _ _ _ h (he'.put .und) hs (.refl _) (.refl _ _ _)
    have run : ∀ {t : Bool}, lk henv s = some (.bool t) → t = b → interp c (top tab fz ((s, B t) :: env) st op fun v st' => k (tput ((s, B t) :: env) d v) st') = some r → vcOp P fz henv hst op K := by
      intro t hl htb hrun
      subst htb
      have he' := he.over hl
      exact top_sound ok hcall he' hs hrun fun v st' x hst' h1 h2 h3 h4 h5 => hk _ _ _ _ h1 ((he'.mono h4).put h2) h3 h4 h5
    have main : ∀ {t : Bool}, lk henv s = some (.bool t) → interp c (match b with
      | true => .cnd t (top tab fz ((s, B true) :: env) st op fun v st' => k (tput ((s, B true) :: env) d v) st') (k (tput ((s, B false) :: env) d .und) st)
      | false => .cnd t (k (tput ((s, B true) :: env) d .und) st) (top tab fz ((s, B false) :: env) st op fun v st' => k (tput ((s, B false) :: env) d v) st')) = some r →
        (t = b → vcOp P fz henv hst op K) ∧ (t = (!b) → K undefH hst) := by
      clear h
      intro t hl hm
      cases b with
      | true =>
        rcases cnd_s hm with ⟨rfl, hm⟩ | ⟨rfl, hm⟩
        · exact ⟨fun _ => run hl rfl hm, fun e => by simp at e⟩
        · exact ⟨fun e => by simp at e, fun _ => skip (he.over hl) hm⟩
      | false =>
        rcases cnd_s hm with ⟨rfl, hm⟩ | ⟨rfl, hm⟩
        · exact ⟨fun e => by simp at e, fun _ => skip (he.over hl) hm⟩
        · exact ⟨fun _ => run hl rfl hm, fun e => by simp at e⟩
    cases hv with
    | und => exact skip he h
    | d e =>
      rename_i ty x
      cases ty with
      | bool =>
        have := e.bool
        subst this
        exact main q1 h
      | _ => cases h
    | _ => cases h
theorem vcOps_cons {P : Program} {fz : Bool} {i : HIns} {l : List HIns} {env : Env} {s : St} {k : Env → St → Prop} : vcOps P fz (i :: l) env s k = vcIns P fz env s i fun z s' => vcOps P fz l (putE env i.dst z) s' k := by
  obtain ⟨d, op, g⟩ := i
  cases g with
  | none => rfl
  | some p =>
    obtain ⟨s0, b⟩ := p
    simp only [vcOps, vcIns]
    cases lk env s0 with
    | none => rfl
    | some v => cases v with
      | tup l => cases l <;> rfl
      | _ => rfl
theorem tinss_sound (ok : S.Ok) (hcall : CallOk P tab c) {fz : Bool} : ∀ {l : List HIns} {st : TSt S} {hst : St} {env : TEnv S} {henv : Env} {k : TEnv S → TSt S → Tree S O} {K : Env → St → Prop}, RE st env henv → RSt st hst →
    interp c (tinss tab fz l env st k) = some r →
    (∀ env' st' henv' hst', interp c (k env' st') = some r → RE st' env' henv' → RSt st' hst' → Kept (dstsI l) henv henv' → Mo st st' → K henv' hst') → vcOps P fz l henv hst K
  | [], st, hst, env, henv, k, K, he, hs, h, hk => hk env st henv hst h he hs (.refl _ _) (.refl _)
  | i :: l, st, hst, env, henv, k, K, he, hs, h, hk => by
    rw [vcOps_cons]
    simp only [tinss] at h
    refine tins_sound ok hcall he hs h fun env' st' z hst' h1 h2 h3 h4 h5 => ?_
    refine tinss_sound ok hcall h2 h3 h1 fun env2 st2 henv2 hst2 g1 g2 g3 g4 g5 => hk _ _ _ _ g1 g2 g3 ?_ (h4.trans g5)
    have a1 : Kept (dstsI (i :: l)) henv (putE henv i.dst z) := .put fun n hn => by simp [dstsI, hn]
    refine a1.trans (g4.mono fun n hn => ?_)
    simp only [dstsI]
    split
    · exact List.mem_cons_of_mem _ hn
    · exact hn
theorem elem_f {a : Nat} {l : List Nat} (h : l.elem a = false) : a ∉ l := fun q => by
  have : l.elem a = true := List.elem_eq_true_of_mem q
  rw [h] at this; cases this
theorem meets_f : ∀ {a b : List Nat}, meets a b = false → ∀ x ∈ a, x ∉ b
  | [], _, _, x, h => by cases h
  | y :: a, b, h, x, hx => by
    simp only [meets, Bool.or_eq_false_iff] at h
    rcases List.mem_cons.1 hx with rfl | hx
    · exact elem_f h.1
    · exact meets_f h.2 x hx
theorem freeD_t {d : Option Nat} : ∀ {l : List HIns}, freeD d l = true → ∀ c ∈ l, ∀ n, d = some n → n ∉ c.reads ∧ c.dst ≠ some n
  | [], _, c, h => by cases h
  | y :: l, h, c, hc => by
    simp only [freeD, Bool.and_eq_true, Bool.not_eq_true'] at h
    rcases List.mem_cons.1 hc with rfl | hc
    · intro n hn
      subst hn
      have := elem_f h.1
      simp only [List.mem_append, not_or] at this
      refine ⟨this.1, fun e => this.2 ?_⟩
      rw [e]
      simp
    · exact freeD_t h.2 c hc
theorem idOf_sound (ok : S.Ok) {v : TV S} {h : HV} (hr : Rv st v h) : idH h = idOf v := by
  cases hr with
  | d e =>
    rename_i t x
    have hc := (e.cl (encT_cl ok t x)).2
    cases h <;> first | rfl | exact absurd (hc _) (Nat.lt_irrefl _)
  | _ => rfl
def VD (fz : Bool) (stale : List (Option Nat)) (done : List HIns) (henv : Env) (hst : St) : Prop :=
  ∀ x ∈ done, inO x.dst stale = false → ∃ z, eff fz henv hst x = some z ∧ ∀ d, x.dst = some d → lk henv d = some z
theorem inO_app {d : Option Nat} : ∀ {a b : List (Option Nat)}, inO d (a ++ b) = (inO d a || inO d b)
  | [], b => by simp [inO]
  | x :: a, b => by simp only [List.cons_append, inO, inO_app (a := a), Bool.or_assoc]
theorem inO_self {d : Option Nat} {l : List (Option Nat)} : inO d (d :: l) = true := by
  cases d with
  | none => simp [inO]
  | some n => simp [inO]
theorem staleOf_f {d : Option Nat} {w l : List Nat} : ∀ {done : List HIns} {x : HIns}, x ∈ done → inO x.dst (staleOf env d w l done) = false →
    freeD d [x] = true ∧ ∀ a, rdArg x.op = some a → ∃ v, tev env a = some v ∧ (rdAll x.op = true → meets (idOf v) w = false) ∧ meets (idOf v) l = false
  | [], x, h, _ => by cases h
  | y :: done, x, hx, h => by
    simp only [staleOf] at h
    rcases List.mem_cons.1 hx with rfl | hx
    · cases hb : isStale env d w l x with
      | true =>
        rw [hb] at h
        simp only [cond_true, inO_self] at h
        cases h
      | false =>
        simp only [isStale, Bool.or_eq_false_iff, Bool.not_eq_false'] at hb
        refine ⟨hb.1, fun a ha => ?_⟩
        have h2 := hb.2
        rw [ha] at h2
        simp only at h2
        split at h2
        · cases h2
        · rename_i v hv
          simp only [Bool.or_eq_false_iff, Bool.and_eq_false_iff] at h2
          refine ⟨v, hv, fun hr => ?_, h2.2⟩
          rcases h2.1 with q | q
          · rw [hr] at q; cases q
          · exact q
    · refine staleOf_f hx ?_
      cases hb : isStale env d w l y with
      | true =>
        rw [hb] at h
        simp only [cond_true, inO, Bool.or_eq_false_iff] at h
        exact h.2
      | false => rw [hb] at h; exact h
theorem chkOk_t : ∀ {stale : List (Option Nat)} {l : List HIns}, chkOk stale l = true → ∀ x ∈ l, inO x.dst stale = false
  | _, [], _, x, h => by cases h
  | stale, y :: l, h, x, hx => by
    simp only [chkOk, Bool.and_eq_true, Bool.not_eq_true'] at h
    rcases List.mem_cons.1 hx with rfl | hx
    · exact h.1
    · exact chkOk_t h.2 x hx
theorem eff_frame {fz : Bool} {env : Env} {s s' : St} {i : HIns} {z : HV} (h : eff fz env s i = some z)
    (hf : ∀ x h0, rdArg i.op = some x → ev env x = some h0 → ∀ id ∈ idH h0, ∀ o, s[id]? = some o → ∃ o', s'[id]? = some o' ∧ OL o o' ∧ (rdAll i.op = true → OSm o o')) : eff fz env s' i = some z := by
  unfold eff at h ⊢
  cases hg : i.guard with
  | none => simp only [hg] at h ⊢; exact qv_frame h hf
  | some p =>
    obtain ⟨s0, b⟩ := p
    simp only [hg] at h ⊢
    cases hl : lk env s0 with
    | none => simp only [hl] at h; cases h
    | some v =>
      simp only [hl] at h ⊢
      cases v with
      | bool t =>
        simp only at h ⊢
        split at h
        · rename_i e; rw [if_pos e]; exact qv_frame h hf
        · rename_i e; rw [if_neg e]; exact h
      | tup l => cases l <;> exact h
      | _ => exact h
theorem VD.step (ok : S.Ok) {fz : Bool} {stale : List (Option Nat)} {done : List HIns} (he : RE st env henv) (hv : VD fz stale done henv hst) {d : Option Nat} {w l : List Nat} {z : HV} {hst' : St} (hf : Fr w l hst hst') :
    VD fz (staleOf env d w l done ++ stale) done (putE henv d z) hst' := by
  intro x hx hn
  rw [inO_app, Bool.or_eq_false_iff] at hn
  obtain ⟨y, e1, e2⟩ := hv x hx hn.2
  obtain ⟨h1, h2⟩ := staleOf_f hx hn.1
  have h3 : ∀ n, d = some n → n ∉ x.reads ∧ x.dst ≠ some n := freeD_t h1 x (by simp)
  have hlk : ∀ n, d ≠ some n → lk (putE henv d z) n = lk henv n := fun n hn => lk_put_ne hn
  refine ⟨y, ?_, fun n hn => ?_⟩
  · rw [eff_congr (env' := henv) fun t ht => hlk t fun e => (h3 t e).1 ht]
    refine eff_frame e1 fun a h0 ha hev id hid o ho => ?_
    obtain ⟨v, hv1, hv2, hv3⟩ := h2 a ha
    obtain ⟨h0', q1, q2⟩ := tev_sound he hv1
    rw [hev] at q1
    cases q1
    rw [idOf_sound ok q2] at hid
    obtain ⟨o', p1, p2, p3⟩ := hf.ob id o ho (meets_f hv3 id hid)
    exact ⟨o', p1, p2, fun hr => p3 (meets_f (hv2 hr) id hid)⟩
  · rw [hlk n fun e => (h3 n e).2 hn]
    exact e2 n hn
theorem tins_quiet (ok : S.Ok) {fz : Bool} {i : HIns} (hq : quietOk (envI env i) st i.op = true) (he : RE st env henv) (hs : RSt st hst) {k : TEnv S → TSt S → Tree S O} (h : interp c (tins tab (qfz fz i.op) env st i k) = some r) :
    ∃ env' z, eff fz henv hst i = some z ∧ RE st env' (putE henv i.dst z) ∧ interp c (k env' st) = some r := by
  obtain ⟨d, op, g⟩ := i
  cases g with
  | none =>
    simp only [tins] at h
    obtain ⟨v, z, q, hz, h⟩ := quiet_sound ok hq he hs h
    exact ⟨_, z, q, he.put hz, h⟩
  | some p =>
    obtain ⟨s, b⟩ := p
    simp only [tins] at h
    replace h := topt_s h
    obtain ⟨v, e1, h⟩ := h
    obtain ⟨y, q1, hv⟩ := he s v e1
    simp only [eff, q1]
    have main : ∀ {t : Bool}, lk henv s = some (.bool t) → interp c (match b with
      | true => .cnd t (top tab (qfz fz op) ((s, B true) :: env) st op fun v st' => k (tput ((s, B true) :: env) d v) st') (k (tput ((s, B false) :: env) d .und) st)
      | false => .cnd t (k (tput ((s, B true) :: env) d .und) st) (top tab (qfz fz op) ((s, B false) :: env) st op fun v st' => k (tput ((s, B false) :: env) d v) st')) = some r →
        ∃ env' z, (if t = b then qv fz henv hst op else some undefH) = some z ∧ RE st env' (putE henv d z) ∧ interp c (k env' st) = some r := by
      clear h
      intro t hl hm
      cases b with
      | true =>
        rcases cnd_s hm with ⟨rfl, hm⟩ | ⟨rfl, hm⟩
        · obtain ⟨v, z, q, hz, hm⟩ := quiet_sound ok hq (he.over hl) hs hm
          exact ⟨_, z, by rw [if_pos rfl]; exact q, (he.over hl).put hz, hm⟩
        · exact ⟨_, undefH, by rw [if_neg (by simp)], (he.over hl).put .und, hm⟩
      | false =>
        rcases cnd_s hm with ⟨rfl, hm⟩ | ⟨rfl, hm⟩
        · exact ⟨_, undefH, by rw [if_neg (by simp)], (he.over hl).put .und, hm⟩
        · obtain ⟨v, z, q, hz, hm⟩ := quiet_sound ok hq (he.over hl) hs hm
          exact ⟨_, z, by rw [if_pos rfl]; exact q, (he.over hl).put hz, hm⟩
    cases hv with
    | und => exact ⟨_, undefH, rfl, he.put .und, h⟩
    | d e =>
      rename_i ty x
      cases ty with
      | bool =>
        have := e.bool
        subst this
        exact main q1 h
      | _ => cases h
    | _ => cases h
theorem tplan_sound (ok : S.Ok) (hcall : CallOk P tab c) {fz : Bool} : ∀ {p : DPlan} {done : List HIns} {stale : List (Option Nat)} {st : TSt S} {hst : St} {env : TEnv S} {henv : Env} {k : TEnv S → TSt S → Tree S O} {K : Env → St → Prop},
    RE st env henv → RSt st hst → wfP p done → VD fz stale done henv hst → interp c (tplan tab fz p done stale env st k) = some r →
    (∀ env' st' henv' hst', interp c (k env' st') = some r → RE st' env' henv' → RSt st' hst' → Kept (dstsP p) henv henv' → Mo st st' → K henv' hst') → dvc P fz p henv hst K
  | .done, done, stale, st, hst, env, henv, k, K, he, hs, hw, hv, h, hk => hk env st henv hst h he hs (.refl _ _) (.refl _)
  | .none, done, stale, st, hst, env, henv, k, K, he, hs, hw, hv, h, hk => by cases h
  | .q i p, done, stale, st, hst, env, henv, k, K, he, hs, hw, hv, h, hk => by
    simp only [tplan] at h
    replace h := cond_s h
    obtain ⟨h1, h⟩ := h
    simp only [Bool.and_eq_true, Bool.not_eq_true'] at h1
    obtain ⟨⟨g1, g2⟩, g3⟩ := h1
    obtain ⟨env', z, q, he', h⟩ := tins_quiet ok g1 he hs h
    have hlk : ∀ n, i.dst ≠ some n → lk (putE henv i.dst z) n = lk henv n := fun n hn => lk_put_ne hn
    refine ⟨z, q, tplan_sound ok hcall he' hs hw (fun x hx hn => ?_) h fun env2 st2 henv2 hst2 a1 a2 a3 a4 a5 => hk _ _ _ _ a1 a2 a3 ?_ a5⟩
    · rcases List.mem_cons.1 hx with rfl | hx
      · refine ⟨z, ?_, fun d hd => by rw [hd]; simp [putE, lk]⟩
        rw [eff_congr (env' := henv) fun t ht => hlk t fun e => ?_]
        · exact q
        · rw [e] at g3
          exact elem_f g3 ht
      · obtain ⟨y, e1, e2⟩ := hv x hx hn
        have h3 := freeD_t g2 x hx
        refine ⟨y, ?_, fun n hn => by rw [hlk n fun e => (h3 n e).2 hn]; exact e2 n hn⟩
        rw [eff_congr (env' := henv) fun t ht => hlk t fun e => (h3 t e).1 ht]
        exact e1
    · have b1 : Kept (dstsP (.q i p)) henv (putE henv i.dst z) := .put fun n hn => by simp [dstsP, hn]
      refine b1.trans (a4.mono fun n hn => ?_)
      simp only [dstsP]
      split
      · exact List.mem_cons_of_mem _ hn
      · exact hn
  | .l i cc p m, done, stale, st, hst, env, henv, k, K, he, hs, hw, hv, h, hk => by
    simp only [tplan] at h
    have hthis : interp c (cond (chkOk (staleOf env i.dst (wrOp (envI env i) i.op) (wlOp tab (envI env i) st i.op) done ++ stale) cc)
        (tins tab fz env st i fun env' st' => tplan tab fz p done (staleOf env i.dst (wrOp (envI env i) i.op) (wlOp tab (envI env i) st i.op) done ++ stale) env' st' k) .fail) = some r ∧
        (m = .none ∨ interp c (tplan tab fz m done stale env st k) = some r) := by
      cases hm : isNone m with
      | true =>
        rw [hm] at h
        exact ⟨h, .inl (by cases m <;> first | rfl | cases hm)⟩
      | false =>
        rw [hm] at h
        obtain ⟨h1, h2⟩ := meet_s h
        exact ⟨h1, .inr h2⟩
    obtain ⟨h, hm⟩ := hthis
    replace h := cond_s h
    obtain ⟨h1, h⟩ := h
    obtain ⟨hw1, hw2, hw3⟩ := hw
    refine ⟨tins_sound ok hcall he hs h fun env' st' z hst' a1 a2 a3 a4 a5 => ?_, ?_⟩
    · have hvd := VD.step ok he hv (d := i.dst) (z := z) a5
      refine ⟨?_, tplan_sound ok hcall a2 a3 hw2 hvd a1 fun env2 st2 henv2 hst2 b1 b2 b3 b4 b5 => hk _ _ _ _ b1 b2 b3 ?_ (a4.trans b5)⟩
      · have : ∀ {l : List HIns}, (∀ x ∈ l, x ∈ done) → chkOk (staleOf env i.dst (wrOp (envI env i) i.op) (wlOp tab (envI env i) st i.op) done ++ stale) l = true → chkAll fz (putE henv i.dst z) hst' l := by
          intro l
          induction l with
          | nil => intro _ _; trivial
          | cons x l ih =>
            intro hl hc
            obtain ⟨y, e1, e2⟩ := hvd x (hl x (by simp)) (chkOk_t hc x (by simp))
            simp only [chkOk, Bool.and_eq_true] at hc
            refine ⟨?_, ih (fun w hw => hl w (by simp [hw])) hc.2⟩
            split
            · rename_i d hd; rw [e1, e2 d hd]
            · exact ⟨y, e1⟩
        exact this hw1 h1
      · have b0 : Kept (dstsP (.l i cc p m)) henv (putE henv i.dst z) := .put fun n hn => by simp [dstsP, hn]
        refine b0.trans (b4.mono fun n hn => ?_)
        simp only [dstsP]
        split
        · exact List.mem_cons_of_mem _ (List.mem_append_left _ hn)
        · exact List.mem_append_left _ hn
    · rcases hm with rfl | hm
      · trivial
      · refine tplan_sound ok hcall he hs hw3 hv hm fun env2 st2 henv2 hst2 b1 b2 b3 b4 b5 => hk _ _ _ _ b1 b2 b3 (b4.mono fun n hn => ?_) b5
        simp only [dstsP]
        split
        · exact List.mem_cons_of_mem _ (List.mem_append_right _ hn)
        · exact List.mem_append_right _ hn
end
end X
end HL
end
section
namespace HL
namespace X
open Go
/-! ### ghost steps -/
def Rle (h h' : HV) : Prop := (h.flat = true → h'.flat = true) ∧ h.cells.length = h'.cells.length ∧ ∀ G u, R G (.val u h) → R G (.val u h')
theorem Rle.refl (h : HV) : Rle h h := ⟨id, rfl, fun _ _ => id⟩
theorem Eqv.rle {h h' : HV} (e : Eqv h h') : Rle h h' := ⟨fun q => by rw [← e.flat]; exact q, e.len, fun _ _ hr => R.eqv hr e⟩
structure GV (h : HV) (a : St) (h' : HV) (b : St) : Prop where
  flat : h.flat = true → h'.flat = true
  cells : h.cells.length = h'.cells.length
  bx : ∀ (j : Nat) (x : HV), a[j]? = some (HO.box x) → b[j]? = some (HO.box x)
  gh : ∀ P G w u, Rel P G a w → R G (.val u h) → ∃ G', Rel P G' b w ∧ R G' (.val u h') ∧ Step G w G' w
structure GL (hs : List HV) (a : St) (hs' : List HV) (b : St) : Prop where
  flat : (∀ c ∈ hs, c.flat = true) → ∀ c ∈ hs', c.flat = true
  len : hs.length = hs'.length
  bx : ∀ (j : Nat) (x : HV), a[j]? = some (HO.box x) → b[j]? = some (HO.box x)
  gh : ∀ P G w us, Rel P G a w → R G (.vals us hs) → ∃ G', Rel P G' b w ∧ R G' (.vals us hs') ∧ Step G w G' w
theorem GV.refl (h : HV) (a : St) : GV h a h a := ⟨id, rfl, fun _ _ => id, fun _ G w u hr hv => ⟨G, hr, hv, Step.refl _ _⟩⟩
theorem GL.nil (a : St) : GL [] a [] a := ⟨fun h => h, rfl, fun _ _ => id, fun _ G w u hr hv => ⟨G, hr, hv, Step.refl _ _⟩⟩
theorem GL.cons {h h' : HV} {hs hs' : List HV} {a b d : St} (g : GV h a h' b) (g' : GL hs b hs' d) : GL (h :: hs) a (h' :: hs') d where
  flat q c hc := by
    rcases List.mem_cons.1 hc with rfl | hc
    · exact g.flat (q h (by simp))
    · exact g'.flat (fun c hc => q c (by simp [hc])) c hc
  len := by simp [g'.len]
  bx j x hj := g'.bx j x (g.bx j x hj)
  gh P G w us hr hv := by
    cases hv with
    | vcons h1 h2 =>
      obtain ⟨G1, a1, a2, a3⟩ := g.gh P G w _ hr h1
      obtain ⟨G2, b1, b2, b3⟩ := g'.gh P G1 w _ a1 (h2.mono a3)
      exact ⟨G2, b1, .vcons (a2.mono b3) b2, a3.trans b3⟩
theorem cn1_len (s : St) (h : HV) : (cn1 s h).1.cells.length = h.cells.length ∧ (h.flat = true → (cn1 s h).1.flat = true) := by
  cases h with
  | own id n =>
    simp only [cn1]
    split
    · split
      · exact ⟨rfl, fun _ => rfl⟩
      · exact ⟨rfl, fun _ => rfl⟩
    · exact ⟨rfl, fun _ => rfl⟩
  | nils => exact ⟨rfl, fun _ => rfl⟩
  | _ => exact ⟨rfl, id⟩
theorem cnL_len (s : St) : ∀ (l : List HV), (cnL s l).1.length = l.length
  | [] => rfl
  | x :: l => by simp [cnL, cnL_len _ l]
theorem cn1_bx (s : St) (h : HV) : ∀ (j : Nat) (x : HV), s[j]? = some (HO.box x) → (cn1 s h).2[j]? = some (HO.box x) := by
  intro j x hj
  cases h with
  | own id n =>
    simp only [cn1]
    split
    · rename_i sz l m hl
      split
      · by_cases e : id = j
        · subst e; rw [hj] at hl; cases hl
        · simp only; rw [List.getElem?_set_ne e]; exact hj
      · exact hj
    · exact hj
  | _ => exact hj
theorem cnL_bx (s : St) : ∀ (l : List HV) (j : Nat) (x : HV), s[j]? = some (HO.box x) → (cnL s l).2[j]? = some (HO.box x)
  | [], j, x, h => h
  | y :: l, j, x, h => cnL_bx _ l j x (cn1_bx s y j x h)
theorem cnA_GV (fz : Bool) (s : St) (h : HV) : GV h s (cnA fz s h).1 (cnA fz s h).2 where
  flat q := by
    cases fz with
    | false => exact q
    | true =>
      cases hg : h.isAgg with
      | true => cases h <;> first | (simp [HV.flat] at q; done) | (simp [HV.isAgg] at hg)
      | false => rw [cnA_of hg]; exact (cn1_len s h).2 q
  cells := by
    cases fz with
    | false => rfl
    | true =>
      cases hg : h.isAgg with
      | true =>
        obtain ⟨l, rfl⟩ : ∃ l, h = .agg l := by cases h <;> first | exact ⟨_, rfl⟩ | (simp [HV.isAgg] at hg)
        rw [cnA_agg']; exact (cnL_len s l).symm
      | false => rw [cnA_of hg]; exact (cn1_len s h).1.symm
  bx j x hj := by
    cases fz with
    | false => exact hj
    | true =>
      cases hg : h.isAgg with
      | true =>
        obtain ⟨l, rfl⟩ : ∃ l, h = .agg l := by cases h <;> first | exact ⟨_, rfl⟩ | (simp [HV.isAgg] at hg)
        rw [cnA_agg']; exact cnL_bx s l j x hj
      | false => rw [cnA_of hg]; exact cn1_bx s h j x hj
  gh P G w u hr hv := cnA_sound fz hr hv
theorem Rel.move {P : Program} {G : Gh} {s : St} {w : World} (h : Rel P G s w) {id : Nat} {sz : Nat} {l : List HV} {m : Bool} (ho : s[id]? = some (.arr sz l m)) :
    ∃ info, G.s[id]? = some info ∧ Rel P ⟨G.base, G.K, G.s ++ [info]⟩ (s.set id .dead ++ [.arr sz l m]) w ∧ Step G w ⟨G.base, G.K, G.s ++ [info]⟩ w := by
  obtain ⟨info, hi⟩ := h.get ho
  obtain ⟨z, f⟩ := h.obj id info _ hi ho
  have rl := f l m rfl
  have hk := h.kill id
  have hlt := get_lt ho
  refine ⟨info, hi, hk.newAt (o := .arr sz l m) (l := l) (m := m) rfl z rfl rfl rfl (Nat.le_refl _) (fun _ _ => rfl) (fun b hb => .inl ⟨id, info, hi, hb⟩) (fun j i x b b' h1 h2 h3 h4 h5 => ?_) ?_⟩
  · by_cases e : id = j
    · subst e
      rw [List.getElem?_set_self hlt] at h2
      cases h2
      cases h3
    · rw [List.getElem?_set_ne e] at h2
      exact h.dis j id i info x _ b' b h1 hi h2 ho h3 rfl (fun q => e q.symm) h4 h5
  · exact rl
theorem move_GV {s : St} {id n sz : Nat} {l : List HV} {m : Bool} (ho : s[id]? = some (.arr sz l m)) : GV (.own id n) s (.own s.length n) (s.set id .dead ++ [.arr sz l m]) where
  flat _ := rfl
  cells := rfl
  bx j x hj := by
    rw [List.getElem?_append_left (by simpa using get_lt hj)]
    by_cases e : id = j
    · subst e; rw [ho] at hj; cases hj
    · rw [List.getElem?_set_ne e]; exact hj
  gh P G w u hr hv := by
    obtain ⟨info, hi, h1, h2⟩ := Rel.move hr ho
    refine ⟨_, h1, ?_, h2⟩
    cases hv with
    | own hi' hn hp =>
      rw [hi] at hi'
      cases hi'
      exact .own (by simp [← hr.len]) hn hp
theorem tcn1_ttup {S : DSys} {st st' : TSt S} {v v' : TV S} (hc : tcn1 st v = some (v', st')) : ttup v' = ttup v := by
  cases v with
  | own id ver =>
    simp only [tcn1] at hc
    split at hc
    · rename_i o ho
      split at hc
      · rename_i w hw
        cases hc
        cases o <;> first | (cases hw; rfl) | cases hw
      · cases hc
    · cases hc
  | _ => cases hc; rfl
theorem own_ncl {id n : Nat} : ¬ Cl (.own id n) := fun h => by
  have := h.1 (fun _ => id + 1)
  simp [HV.ren] at this
theorem cn1_eqv (s : St) {x : HV} (h : Cl x) : Eqv x (cn1 s x).1 := by
  cases x <;> first | exact absurd h own_ncl | exact .nils | exact .refl _
theorem cnL_eqv : ∀ (s : St) {l : List HV}, ClL l → EqvL l (cnL s l).1
  | s, [], h => .nil
  | s, x :: l, h => by
    have h' := ClL_iff.1 h
    exact .cons (cn1_eqv s (h' x (by simp))) (cnL_eqv _ (ClL_iff.2 fun y hy => h' y (by simp [hy])))
theorem cnA_eqv (s : St) {h : HV} (hc : Cl h) : Eqv h (cnA true s h).1 := by
  cases hg : h.isAgg with
  | true =>
    obtain ⟨l, rfl⟩ : ∃ l, h = .agg l := by cases h <;> first | exact ⟨_, rfl⟩ | (simp [HV.isAgg] at hg)
    rw [cnA_agg']
    have := cnL_eqv s (clagg_inv hc)
    exact .agg this.1 this.2
  | false => rw [cnA_of hg]; exact cn1_eqv s hc
section
variable {S : DSys} (ok : S.Ok)
include ok
mutual
theorem coV_sound {m : Nat} : ∀ (sh : VS) (v v' : TV S) (st st' : TSt S) (h : HV) (hst : St), coV m sh v st = some (v', st') → Rv st v h → RSt st hst →
    ∃ h' hst', Rv st' v' h' ∧ RSt st' hst' ∧ Mo st st' ∧ (m = 0 → Fr [] [] hst hst') ∧ (ttup v' = ttup v ∧ (Cl h → isD sh = true → Eqv h h')) ∧ GV h hst h' hst'
  | .d t, v, v', st, st', h, hst, hc, hr, hs => by
    have main : tcnA true st v = some (v', st') → ∃ h' hst', Rv st' v' h' ∧ RSt st' hst' ∧ Mo st st' ∧ (m = 0 → Fr [] [] hst hst') ∧ (ttup v' = ttup v ∧ (Cl h → isD (.d t) = true → Eqv h h')) ∧ GV h hst h' hst' := by
      intro hc
      obtain ⟨p1, p2, p3, p4⟩ := tcnA_sound ok hc hr hs
      refine ⟨_, _, p1, p2, p3, fun _ => p4, ⟨?_, fun q _ => cnA_eqv hst q⟩, cnA_GV true hst h⟩
      simp only [tcnA] at hc
      split at hc
      · split at hc
        · cases hc; rfl
        · cases hc
      · exact tcn1_ttup hc
    cases hr with
    | own hn =>
      rename_i id ver n
      simp only [coV] at hc
      split at hc
      · rename_i o ho
        split at hc
        · rename_i t
          split at hc
          · rename_i l hl
            simp only [setN_eq, Option.some.injEq, Prod.mk.injEq] at hc
            obtain ⟨rfl, rfl⟩ := hc
            obtain ⟨lh, h1, h2, h3, h4, h5⟩ := frz_step hs hn ho
            obtain ⟨lh', e1, e2, e3⟩ := els_sound ok h3 hl
            simp only [HO.arr.injEq] at e1
            obtain ⟨e4, rfl, _⟩ := e1
            obtain ⟨q1, q2, q3⟩ := getO_some ho
            have hm : Mo st (st.set id (.arr t l false o.ver o.cv)) := .set fun _ => ⟨o, q1, ⟨q2, Nat.le_refl _, fun _ => e3, Nat.le_refl _, fun t' l' mu v c e5 _ => by
              subst e5
              simp only [TO.els] at hl
              have := to_eq hl
              cases this
              exact ⟨false, _, rfl⟩⟩⟩
            have g := cnA_GV true hst (.own id n)
            have e6 : cnA true hst (.own id n) = (.sl lh, hst.set id (.arr o.sz lh false)) := by
              show cn1 hst (.own id n) = _
              simp only [cn1, h1, if_pos h2]
            rw [e6] at g
            refine ⟨_, _, .d (.sl e2.1 e2.2), hs.set hm (by rw [e4]; exact .arr e2), hm, fun _ => .set fun o' ho' _ => ?_, ⟨rfl, fun q _ => absurd q own_ncl⟩, g⟩
            rw [h1] at ho'
            cases ho'
            exact ⟨⟨lh, false, rfl, rfl⟩, fun _ => ⟨false, rfl⟩⟩
          · cases hc
        · cases hc
      · cases hc
    | nils => exact main hc
    | _ => exact main hc
  | .own j t, v, v', st, st', h, hst, hc, hr, hs => by
    cases hr with
    | nils =>
      simp only [coV, Option.some.injEq, Prod.mk.injEq] at hc
      obtain ⟨rfl, rfl⟩ := hc
      have g : GV .nils hst (.own hst.length 0) (hst ++ [.arr (szT S t) [] true]) := ⟨fun _ => rfl, rfl, fun j x hj => by rw [List.getElem?_append_left (get_lt hj)]; exact hj, fun P G w u hr hv => cnO_sound (szT S t) hr hv⟩
      refine ⟨_, _, ?_, hs.push (.arr (t := t) (l := []) .nil), .push _ _ fun _ => Nat.le_refl _, fun _ => .push _ _ _ _, ⟨rfl, fun _ q => by cases q⟩, g⟩
      rw [← hs.1]
      exact .own ⟨by simp, fun o a1 a2 => by simp at a1; subst a1; exact ⟨Nat.le_refl _, fun _ => rfl⟩⟩
    | own hn =>
      rename_i id ver n
      simp only [coV] at hc
      cases hb : (Nat.blt id m && Nat.ble m j) with
      | false =>
        rw [hb] at hc
        cases hc
        exact ⟨_, _, .own hn, hs, .refl _, fun _ => .refl _ _ _, ⟨rfl, fun _ q => by cases q⟩, .refl _ _⟩
      | true =>
        rw [hb] at hc
        simp only [cond_true] at hc
        split at hc
        · rename_i o ho
          simp only [setN_eq, Option.some.injEq, Prod.mk.injEq] at hc
          obtain ⟨rfl, rfl⟩ := hc
          obtain ⟨q1, q2, q3⟩ := getO_some ho
          obtain ⟨x, hx, hro⟩ := hs.get q1
          obtain ⟨lh, rfl, hl⟩ := hro.arr_of q2
          have hm : Mo st (st.set id .dead) := .set fun q => by cases q
          have hm2 : Mo st (st.set id .dead ++ [o.cv1]) := hm.trans (.push _ _ fun q => cv1_le q)
          have hs2 : RSt (st.set id .dead) (hst.set id .dead) := hs.set hm .dead
          refine ⟨_, _, ?_, hs2.push (hro.cv1.mono hm2), hm2, fun h0 => ?_, ⟨rfl, fun _ q => by cases q⟩, move_GV hx⟩
          · rw [← hs.1]
            refine .own ⟨by simp, fun o' a1 a2 => ?_⟩
            rw [List.getElem?_append_right (by simp)] at a1
            simp at a1
            subst a1
            exact ⟨by rw [cv1_ver]; exact Nat.le_of_eq q3.symm, fun _ => by rw [cv1_len]; exact own_now hn ho⟩
          · subst h0
            simp only [Bool.and_eq_true] at hb
            have := blt_t hb.1
            omega
        · cases hc
    | d e => cases hc; exact ⟨_, _, .d e, hs, .refl _, fun _ => .refl _ _ _, ⟨rfl, fun _ q => by cases q⟩, .refl _ _⟩
    | nilp => cases hc; exact ⟨_, _, .nilp, hs, .refl _, fun _ => .refl _ _ _, ⟨rfl, fun _ q => by cases q⟩, .refl _ _⟩
    | nilf => cases hc; exact ⟨_, _, .nilf, hs, .refl _, fun _ => .refl _ _ _, ⟨rfl, fun _ q => by cases q⟩, .refl _ _⟩
    | und => cases hc; exact ⟨_, _, .und, hs, .refl _, fun _ => .refl _ _ _, ⟨rfl, fun _ q => by cases q⟩, .refl _ _⟩
    | bp => cases hc; exact ⟨_, _, .bp, hs, .refl _, fun _ => .refl _ _ _, ⟨rfl, fun _ q => by cases q⟩, .refl _ _⟩
    | ap a b => cases hc; exact ⟨_, _, .ap a b, hs, .refl _, fun _ => .refl _ _ _, ⟨rfl, fun _ q => by cases q⟩, .refl _ _⟩
    | otl a => cases hc; exact ⟨_, _, .otl a, hs, .refl _, fun _ => .refl _ _ _, ⟨rfl, fun _ q => by cases q⟩, .refl _ _⟩
    | eptr a b => cases hc; exact ⟨_, _, .eptr a b, hs, .refl _, fun _ => .refl _ _ _, ⟨rfl, fun _ q => by cases q⟩, .refl _ _⟩
    | slV a b => cases hc; exact ⟨_, _, .slV a b, hs, .refl _, fun _ => .refl _ _ _, ⟨rfl, fun _ q => by cases q⟩, .refl _ _⟩
    | agg a b => cases hc; exact ⟨_, _, .agg a b, hs, .refl _, fun _ => .refl _ _ _, ⟨rfl, fun _ q => by cases q⟩, .refl _ _⟩
    | tup a b => cases hc; exact ⟨_, _, .tup a b, hs, .refl _, fun _ => .refl _ _ _, ⟨rfl, fun _ q => by cases q⟩, .refl _ _⟩
    | fn a b c d => cases hc; exact ⟨_, _, .fn a b c d, hs, .refl _, fun _ => .refl _ _ _, ⟨rfl, fun _ q => by cases q⟩, .refl _ _⟩
  | .ptr _ _, v, v', st, st', h, hst, hc, hr, hs => by
    simp only [coV, Option.some.injEq, Prod.mk.injEq] at hc
    obtain ⟨rfl, rfl⟩ := hc
    exact ⟨_, _, hr, hs, .refl _, fun _ => .refl _ _ _, ⟨rfl, fun _ q => by cases q⟩, .refl _ _⟩
  | .nilp, v, v', st, st', h, hst, hc, hr, hs => by
    simp only [coV, Option.some.injEq, Prod.mk.injEq] at hc
    obtain ⟨rfl, rfl⟩ := hc
    exact ⟨_, _, hr, hs, .refl _, fun _ => .refl _ _ _, ⟨rfl, fun _ _ => .refl _⟩, .refl _ _⟩
  | .nilf, v, v', st, st', h, hst, hc, hr, hs => by
    simp only [coV, Option.some.injEq, Prod.mk.injEq] at hc
    obtain ⟨rfl, rfl⟩ := hc
    exact ⟨_, _, hr, hs, .refl _, fun _ => .refl _ _ _, ⟨rfl, fun _ _ => .refl _⟩, .refl _ _⟩
  | .fn f a b, v, v', st, st', h, hst, hc, hr, hs => by
    simp only [coV] at hc
    split at hc
    · rename_i g x y
      obtain ⟨hx, hy, rfl, r1, r2⟩ := hr.fn_inv
      split at hc
      · rename_i x' st1 h1
        split at hc
        · rename_i y' st2 h2
          cases hc
          obtain ⟨hx', s1, p1, p2, p3, p4, _, p5⟩ := coL_sound a x _ st _ hx hst h1 r1 hs
          obtain ⟨hy', s2, q1, q2, q3, q4, _, q5⟩ := coL_sound b y _ _ _ hy s1 h2 (r2.mono p3) p2
          refine ⟨.fn g hx' hy', s2, .fn p1.1 (p1.mono q3).2 q1.1 q1.2, q2, p3.trans q3, fun hm => (p4 hm).trans (q4 hm), ⟨rfl, fun _ q => by cases q⟩, ⟨fun _ => rfl, rfl, fun j z hj => q5.bx j z (p5.bx j z hj), fun P G w u hr hv => ?_⟩⟩
          cases hv with
          | fn g1 g2 =>
            obtain ⟨G1, a1, a2, a3⟩ := p5.gh P G w _ hr g1
            obtain ⟨G2, b1, b2, b3⟩ := q5.gh P G1 w _ a1 (g2.mono a3)
            exact ⟨G2, b1, .fn (a2.mono b3) b2, a3.trans b3⟩
        · cases hc
      · cases hc
    · simp only [Option.some.injEq, Prod.mk.injEq] at hc
      obtain ⟨rfl, rfl⟩ := hc
      exact ⟨_, _, hr, hs, .refl _, fun _ => .refl _ _ _, ⟨rfl, fun _ q => by cases q⟩, .refl _ _⟩
  | .agg l, v, v', st, st', h, hst, hc, hr, hs => by
    simp only [coV] at hc
    split at hc
    · rename_i cs
      obtain ⟨hx, rfl, r1⟩ := hr.agg_inv
      split at hc
      · rename_i x' st1 h1
        cases hc
        obtain ⟨hx', s1, p1, p2, p3, p4, p6, p5⟩ := coL_sound l cs _ st _ hx hst h1 r1 hs
        refine ⟨.agg hx', s1, .agg p1.1 p1.2, p2, p3, p4, ⟨rfl, fun _ q => by cases q⟩, ⟨(fun q => by cases q), p5.len, p5.bx, fun P G w u hr hv => ?_⟩⟩
        cases hv with
        | agg g1 g2 =>
          obtain ⟨G1, a1, a2, a3⟩ := p5.gh P G w _ hr g2
          exact ⟨G1, a1, .agg (p5.flat g1) a2, a3⟩
      · cases hc
    · simp only [Option.some.injEq, Prod.mk.injEq] at hc
      obtain ⟨rfl, rfl⟩ := hc
      exact ⟨_, _, hr, hs, .refl _, fun _ => .refl _ _ _, ⟨rfl, fun _ q => by cases q⟩, .refl _ _⟩
theorem coL_sound {m : Nat} : ∀ (sh : List VS) (v v' : List (TV S)) (st st' : TSt S) (h : List HV) (hst : St), coL m sh v st = some (v', st') → RvL st v h → RSt st hst →
    ∃ h' hst', RvL st' v' h' ∧ RSt st' hst' ∧ Mo st st' ∧ (m = 0 → Fr [] [] hst hst') ∧ (∀ (i : Nat) (s : VS) (z : HV), sh[i]? = some s → h[i]? = some z → isD s = true → Cl z → ∃ z', h'[i]? = some z' ∧ Eqv z z') ∧ GL h hst h' hst'
  | [], [], v', st, st', h, hst, hc, hr, hs => by
    cases hc
    rw [hr.nil_inv]
    exact ⟨[], hst, .nil, hs, .refl _, fun _ => .refl _ _ _, (fun i s z q => by simp at q), .nil _⟩
  | sh :: r, x :: xs, v', st, st', h, hst, hc, hr, hs => by
    simp only [coL] at hc
    split at hc
    · rename_i x' st1 h1
      split at hc
      · rename_i xs' st2 h2
        cases hc
        obtain ⟨y, ys, rfl, r1, r2⟩ := hr.inv
        obtain ⟨y', s1, p1, p2, p3, p4, p6, p5⟩ := coV_sound sh x _ st _ y hst h1 r1 hs
        obtain ⟨ys', s2, q1, q2, q3, q4, q6, q5⟩ := coL_sound r xs _ _ _ ys s1 h2 (r2.mono p3) p2
        exact ⟨y' :: ys', s2, .cons (p1.mono q3) q1, q2, p3.trans q3, fun hm => (p4 hm).trans (q4 hm), (fun i s z g1 g2 g3 g4 => by
          cases i with
          | zero =>
            simp only [List.getElem?_cons_zero, Option.some.injEq] at g1 g2
            subst g1 g2
            exact ⟨y', rfl, p6.2 g4 g3⟩
          | succ i => exact q6 i s z (by simpa using g1) (by simpa using g2) g3 g4), .cons p5 q5⟩
      · cases hc
    · cases hc
  | [], _ :: _, v', st, st', h, hst, hc, hr, hs => by simp [coL] at hc
  | _ :: _, [], v', st, st', h, hst, hc, hr, hs => by simp [coL] at hc
end
end
end X
end HL
end
section
namespace HL
namespace X
open Go
section
variable {S : DSys}
/-! ### values of a form, as a proof sees them -/
def lenAt (T : TSt S) (id : Nat) : Nat := match nth T id with
  | some o => o.len
  | none => 0
mutual
def encV (T : TSt S) : TV S → HV
  | .d t x => encT S t x
  | .nilp => .nilp
  | .nils => .nils
  | .nilf => .nilf
  | .und => .tup []
  | .bp id off => .ptr id 1 0 off
  | .ap id _ i off => .ptr id (lenAt T id) i off
  | .own id _ => .own id (lenAt T id)
  | .otl id _ i => .otl id (lenAt T id) i
  | .eptr t l i off _ => .eptr (l.map (encT S t)) (szT S t) i off
  | .slV l => .sl (encVs T l)
  | .agg l => .agg (encVs T l)
  | .tup l => .tup (encVs T l)
  | .fn f a b => .fn f (encVs T a) (encVs T b)
def encVs (T : TSt S) : List (TV S) → List HV
  | [] => []
  | v :: r => encV T v :: encVs T r
end
def encO (T : TSt S) : TO S → HO
  | .box v => .box (encV T v)
  | .arr t l mu _ _ => .arr (szT S t) (l.map (encT S t)) mu
  | .arrV sz l mu _ => .arr sz (encVs T l) mu
  | .arrZ sz n z mu _ => .arr sz (List.replicate n (encV T z)) mu
  | .dead => .dead
def encSt (T : TSt S) : St := T.map (encO T)
def Has (ls : List (Lf S)) (ts : List Tc) : Prop := ∃ r, ls.map (fun l => l.t) = ts ++ r
theorem Has.left {ls : List (Lf S)} {a b : List Tc} (h : Has ls (a ++ b)) : Has ls a := by
  obtain ⟨r, h⟩ := h
  exact ⟨b ++ r, by rw [h, List.append_assoc]⟩
theorem Has.drop {ls : List (Lf S)} {a b : List Tc} (h : Has ls (a ++ b)) : Has (ls.drop a.length) b := by
  obtain ⟨r, h⟩ := h
  exact ⟨r, by rw [List.map_drop, h, List.append_assoc, List.drop_left']; rfl⟩
theorem Has.cons {ls : List (Lf S)} {t : Tc} {ts : List Tc} (h : Has ls (t :: ts)) : ∃ x r, ls = ⟨t, x⟩ :: r ∧ Has r ts := by
  obtain ⟨r, h⟩ := h
  cases ls with
  | nil => simp at h
  | cons l ls =>
    simp only [List.map_cons, List.cons_append, List.cons.injEq] at h
    obtain ⟨t', x⟩ := l
    obtain ⟨h1, h2⟩ := h
    simp only at h1
    subst h1
    exact ⟨x, ls, rfl, r, h2⟩
theorem unpk_has : ∀ (ts : List Tc) (x : Pk S.ty ts), (unpk S ts x).map (fun l => l.t) = ts
  | [], _ => rfl
  | [t], x => rfl
  | t :: u :: r, x => by simp only [unpk, List.map_cons, unpk_has (u :: r) x.2]
theorem pack_unpk : ∀ {ts : List Tc} {ls : List (Lf S)} {x : Pk S.ty ts}, pack S ts ls = some x → unpk S ts x = ls
  | [], [], x, h => rfl
  | [], _ :: _, x, h => by simp [pack] at h
  | [t], [l], x, h => by
    simp only [pack] at h
    simp only [unpk, to_eq h]
  | [t], [], x, h => by simp [pack] at h
  | [t], _ :: _ :: _, x, h => by simp [pack] at h
  | t :: u :: r, [], x, h => by simp [pack] at h
  | t :: u :: r, l :: ls, x, h => by
    simp only [pack] at h
    split at h
    · rename_i a b h1 h2
      cases h
      simp only [unpk, to_eq h1, pack_unpk h2]
    · cases h
variable (ok : S.Ok)
theorem enc_ownR {T : TSt S} {j : Nat} (h : j < T.length) : OwnR T j 0 (lenAt T j) := ⟨h, fun o ho _ => ⟨Nat.zero_le _, fun _ => by simp only [lenAt, nth_eq, ho]⟩⟩
mutual
theorem opV_ok (T : TSt S) : ∀ (sh : VS) (ls : List (Lf S)), Has ls sh.tys → wfV T.length sh = true →
    Rv T (opV sh ls).1 (encV T (opV sh ls).1) ∧ ttup (opV sh ls).1 = false ∧ (opV sh ls).2 = ls.drop sh.tys.length
  | .d t, ls, h, _ => by
    obtain ⟨x, r, rfl, _⟩ := Has.cons h
    exact ⟨.d (.refl _), rfl, rfl⟩
  | .own j t, ls, h, hw => ⟨.own (enc_ownR (blt_t hw)), rfl, rfl⟩
  | .ptr j off, ls, h, hw => ⟨.bp, rfl, rfl⟩
  | .nilp, ls, h, hw => ⟨.nilp, rfl, rfl⟩
  | .nilf, ls, h, hw => ⟨.nilf, rfl, rfl⟩
  | .fn f a b, ls, h, hw => by
    simp only [wfV, Bool.and_eq_true] at hw
    simp only [VS.tys] at h
    obtain ⟨r1, e1⟩ := opL_ok T a ls h.left hw.1
    obtain ⟨r2, e2⟩ := opL_ok T b (opL a ls).2 (by rw [e1]; exact h.drop) hw.2
    refine ⟨.fn r1.1 r1.2 r2.1 r2.2, rfl, ?_⟩
    show (opL b (opL a ls).2).2 = _
    rw [e2, e1, List.drop_drop, VS.tys, List.length_append]
  | .agg l, ls, h, hw => by
    obtain ⟨r1, e1⟩ := opL_ok T l ls h hw
    exact ⟨.agg r1.1 r1.2, rfl, e1⟩
theorem opL_ok (T : TSt S) : ∀ (sh : List VS) (ls : List (Lf S)), Has ls (tysL sh) → wfVs T.length sh = true →
    RvL T (opL sh ls).1 (encVs T (opL sh ls).1) ∧ (opL sh ls).2 = ls.drop (tysL sh).length
  | [], ls, h, _ => ⟨.nil, rfl⟩
  | v :: r, ls, h, hw => by
    simp only [wfVs, Bool.and_eq_true] at hw
    simp only [tysL] at h
    obtain ⟨r1, _, e1⟩ := opV_ok T v ls h.left hw.1
    obtain ⟨r2, e2⟩ := opL_ok T r (opV v ls).2 (by rw [e1]; exact h.drop) hw.2
    refine ⟨.cons r1 r2, ?_⟩
    show (opL r (opV v ls).2).2 = _
    rw [e2, e1, List.drop_drop, tysL, List.length_append]
end
/-! ### what leads to no object but these -/
include ok in
theorem encT_scd (t : Tc) (x : T S.ty t) (n : Nat) : Scd n (encT S t x) := (encT_cl ok t x).2 n
include ok
mutual
theorem opV_scd (T : TSt S) : ∀ (sh : VS) (ls : List (Lf S)), Has ls sh.tys → wfV T.length sh = true → Scd T.length (encV T (opV sh ls).1) ∧ (opV sh ls).2 = ls.drop sh.tys.length
  | .d t, ls, h, _ => by
    obtain ⟨x, r, rfl, _⟩ := Has.cons h
    exact ⟨encT_scd ok t x _, rfl⟩
  | .own j t, ls, h, hw => ⟨blt_t hw, rfl⟩
  | .ptr j off, ls, h, hw => ⟨blt_t hw, rfl⟩
  | .nilp, ls, h, hw => ⟨trivial, rfl⟩
  | .nilf, ls, h, hw => ⟨trivial, rfl⟩
  | .fn f a b, ls, h, hw => by
    simp only [wfV, Bool.and_eq_true] at hw
    simp only [VS.tys] at h
    obtain ⟨r1, e1⟩ := opL_scd T a ls h.left hw.1
    obtain ⟨r2, e2⟩ := opL_scd T b (opL a ls).2 (by rw [e1]; exact h.drop) hw.2
    refine ⟨⟨r1, r2⟩, ?_⟩
    show (opL b (opL a ls).2).2 = _
    rw [e2, e1, List.drop_drop, VS.tys, List.length_append]
  | .agg l, ls, h, hw => opL_scd T l ls h hw
theorem opL_scd (T : TSt S) : ∀ (sh : List VS) (ls : List (Lf S)), Has ls (tysL sh) → wfVs T.length sh = true → ScdL T.length (encVs T (opL sh ls).1) ∧ (opL sh ls).2 = ls.drop (tysL sh).length
  | [], ls, h, _ => ⟨trivial, rfl⟩
  | v :: r, ls, h, hw => by
    simp only [wfVs, Bool.and_eq_true] at hw
    simp only [tysL] at h
    obtain ⟨r1, e1⟩ := opV_scd T v ls h.left hw.1
    obtain ⟨r2, e2⟩ := opL_scd T r (opV v ls).2 (by rw [e1]; exact h.drop) hw.2
    refine ⟨⟨r1, r2⟩, ?_⟩
    show (opL r (opV v ls).2).2 = _
    rw [e2, e1, List.drop_drop, tysL, List.length_append]
end
omit ok
def fixE : List OS → Nat → TSt S → TSt S → TSt S
  | .same :: r, j, ent, o :: os => (match nth ent j with
    | some x => x
    | none => o) :: fixE r (j + 1) ent os
  | _ :: r, j, ent, o :: os => o :: fixE r (j + 1) ent os
  | _, _, _, os => os
theorem opOs_len : ∀ (os : List OS) (ls : List (Lf S)), (opOs os ls).length = os.length
  | [], _ => rfl
  | o :: r, ls => by simp [opOs, opOs_len r]
theorem fixE_len : ∀ (os : List OS) (j : Nat) (ent l : TSt S), (fixE os j ent l).length = l.length
  | [], _, _, l => by simp [fixE]
  | o :: r, j, ent, [] => by cases o <;> simp [fixE]
  | o :: r, j, ent, x :: l => by cases o <;> simp [fixE, fixE_len r]
def EntOk (ent : TSt S) : List OS → Nat → Prop
  | [], _ => True
  | .same :: r, j => (∃ t l v c, ent[j]? = some (.arr t l true v c)) ∧ EntOk ent r (j + 1)
  | _ :: r, j => EntOk ent r (j + 1)
include ok in
theorem opOs_ok (T : TSt S) (ent : TSt S) : ∀ (os : List OS) (j : Nat) (ls : List (Lf S)), Has ls (tysO os) → wfOs T.length os = true → EntOk ent os j →
    ∀ o ∈ fixE os j ent (opOs os ls), RO T o (encO T o) ∧ ScdO T.length (encO T o)
  | [], j, ls, h, hw, he, o, ho => by simp [opOs, fixE] at ho
  | s :: r, j, ls, h, hw, he, o, ho => by
    simp only [wfOs, Bool.and_eq_true] at hw
    simp only [tysO] at h
    have arrOk : ∀ {t : Tc} {l : List (HL.X.T S.ty t)} {m : Bool} {v c : Nat}, RO T (.arr t l m v c) (encO T (.arr t l m v c)) ∧ ScdO T.length (encO T (.arr t l m v c)) := by
      intro t l m v c
      exact ⟨.arr (.refl _), (cll_of (fun y => encT_cl ok t y) l).2 _⟩
    cases s with
    | box sh =>
      obtain ⟨r1, r2, e1⟩ := opV_ok T sh ls h.left hw.1
      simp only [opOs, opO, fixE, List.mem_cons] at ho
      rcases ho with rfl | ho
      · exact ⟨.box r1 r2, (opV_scd ok T sh ls h.left hw.1).1⟩
      · exact opOs_ok T ent r (j + 1) (opV sh ls).2 (by rw [e1]; exact h.drop) hw.2 he o ho
    | arr t =>
      obtain ⟨x, r', rfl, h2⟩ := Has.cons (ts := tysO r) h
      simp only [opOs, opO, fixE, List.mem_cons] at ho
      rcases ho with rfl | ho
      · exact arrOk
      · exact opOs_ok T ent r (j + 1) r' h2 hw.2 he o ho
    | ro t =>
      obtain ⟨x, r', rfl, h2⟩ := Has.cons (ts := tysO r) h
      simp only [opOs, opO, fixE, List.mem_cons] at ho
      rcases ho with rfl | ho
      · exact arrOk
      · exact opOs_ok T ent r (j + 1) r' h2 hw.2 he o ho
    | same =>
      obtain ⟨⟨t, l, v, cc, e1⟩, he⟩ := he
      simp only [opOs, opO, fixE, nth_eq, e1, List.mem_cons] at ho
      rcases ho with rfl | ho
      · exact arrOk
      · exact opOs_ok T ent r (j + 1) ls h hw.2 he o ho
    | dead =>
      simp only [opOs, opO, fixE, List.mem_cons] at ho
      rcases ho with rfl | ho
      · exact ⟨.dead, trivial⟩
      · exact opOs_ok T ent r (j + 1) ls h hw.2 he o ho
def opE (vs : List VS) (os : List OS) (ent : TSt S) (ls : List (Lf S)) : List (TV S) × TSt S :=
  let y := opn vs os ls
  (y.1, fixE os 0 ent y.2)
include ok in
theorem opE_ok {vs : List VS} {os : List OS} {ent : TSt S} {ls : List (Lf S)} (h : Has ls (tysL vs ++ tysO os)) (hw : wfVs os.length vs = true) (hw' : wfOs os.length os = true) (he : EntOk ent os 0) :
    let y := opE vs os ent ls
    y.2.length = os.length ∧ RvL y.2 y.1 (encVs y.2 y.1) ∧ RSt y.2 (encSt y.2) ∧ ScSt (encSt y.2) ∧ ScdL (encSt y.2).length (encVs y.2 y.1) := by
  intro y
  have hl : y.2.length = os.length := by simp only [y, opE, opn, fixE_len, opOs_len]
  obtain ⟨r1, e1⟩ := opL_ok y.2 vs ls h.left (by rw [hl]; exact hw)
  have hob := opOs_ok ok y.2 ent os 0 (opL vs ls).2 (by rw [e1]; exact h.drop) (by rw [hl]; exact hw') he
  have hel : (encSt y.2).length = y.2.length := by simp [encSt]
  refine ⟨hl, r1, ⟨hel.symm, fun i o ho h1 h2 => ?_⟩, fun o ho => ?_, ?_⟩
  · simp only [encSt, List.getElem?_map, h1, Option.map_some, Option.some.injEq] at h2
    subst h2
    exact (hob o (List.mem_of_getElem? h1)).1
  · simp only [encSt, List.mem_map] at ho
    obtain ⟨x, hx, rfl⟩ := ho
    rw [hel]
    exact (hob x hx).2
  · rw [hel]
    exact (opL_scd ok y.2 vs ls h.left (by rw [hl]; exact hw)).1
end
end X
end HL
end
section
namespace HL
namespace X
open Go
/-! ### lists of values that may be taken for others -/
def RleL (l l' : List HV) : Prop := l.length = l'.length ∧ ∀ (i : Nat) (x y : HV), l[i]? = some x → l'[i]? = some y → Rle x y
theorem RleL.nil : RleL [] [] := ⟨rfl, fun i x y h => by simp at h⟩
theorem RleL.cons {x y : HV} {l l' : List HV} (h : Rle x y) (h' : RleL l l') : RleL (x :: l) (y :: l') :=
  ⟨by simp [h'.1], fun i a b ha hb => by
    cases i with
    | zero => simp at ha hb; subst ha hb; exact h
    | succ i => exact h'.2 i a b (by simpa using ha) (by simpa using hb)⟩
theorem RleL.inv {x : HV} {l l' : List HV} (h : RleL (x :: l) l') : ∃ y r, l' = y :: r ∧ Rle x y ∧ RleL l r := by
  cases l' with
  | nil => exact absurd h.1 (by simp)
  | cons y r => exact ⟨y, r, rfl, h.2 0 x y rfl rfl, by simpa using h.1, fun i a b ha hb => h.2 (i + 1) a b (by simpa using ha) (by simpa using hb)⟩
theorem RleL.vals {G : Gh} : ∀ {us : List Value} {l l' : List HV}, RleL l l' → R G (.vals us l) → R G (.vals us l')
  | us, [], l', h, hr => by have := h.1; cases l' <;> simp_all
  | us, x :: l, l', h, hr => by
    obtain ⟨y, r, rfl, h1, h2⟩ := h.inv
    cases hr with
    | vcons a b => exact .vcons (h1.2.2 _ _ a) (h2.vals b)
theorem RleL.flat {l l' : List HV} (h : RleL l l') (hf : ∀ c ∈ l, c.flat = true) : ∀ c ∈ l', c.flat = true := fun y hy => by
  obtain ⟨i, hi⟩ := List.getElem?_of_mem hy
  have hl : i < l.length := by rw [h.1]; exact get_lt hi
  exact (h.2 i _ _ (List.getElem?_eq_getElem hl) hi).1 (hf _ (List.getElem_mem _))
theorem Rle.agg {l l' : List HV} (h : RleL l l') : Rle (.agg l) (.agg l') := ⟨(fun q => by cases q), h.1, fun G u r => by
  cases r with
  | agg hf hr => exact .agg (h.flat hf) (h.vals hr)⟩
theorem Rle.fn {f : FuncId} {a b a' b' : List HV} (h : RleL a a') (h' : RleL b b') : Rle (.fn f a b) (.fn f a' b') := ⟨fun q => q, rfl, fun G u r => by
  cases r with
  | fn h1 h2 => exact .fn (h.vals h1) (h'.vals h2)⟩
/-! ### ghost steps of a store -/
def GS (a b : St) : Prop := ∀ P G w, Rel P G a w → ∃ G', Rel P G' b w ∧ Step G w G' w
theorem GS.refl (a : St) : GS a a := fun _ G w h => ⟨G, h, .refl _ _⟩
theorem GS.trans {a b c : St} (h : GS a b) (h' : GS b c) : GS a c := fun P G w r => by
  obtain ⟨G1, a1, a2⟩ := h P G w r
  obtain ⟨G2, b1, b2⟩ := h' P G1 w a1
  exact ⟨G2, b1, a2.trans b2⟩
theorem val_of_cells {G : Gh} {us : List Value} {h : HV} (ht : ∀ l, h ≠ .tup l) (hr : R G (.vals us h.cells)) (hf : ∀ c ∈ h.cells, c.flat = true) : ∃ v, R G (.val v h) ∧ v.cells.toList = us := by
  have one : h.flat = true → h.cells = [h] → ∃ v, R G (.val v h) ∧ v.cells.toList = us := by
    intro h1 h2
    rw [h2] at hr
    cases hr with
    | vcons a b =>
      cases b
      refine ⟨_, a, ?_⟩
      have := a.one h1
      rename_i v
      cases v <;> first | rfl | (simp [Value.oneCell'] at this)
  cases h with
  | agg l => exact ⟨.agg us.toArray, .agg hf hr, by simp [Value.cells]⟩
  | tup l => exact absurd rfl (ht l)
  | _ => exact one rfl rfl
theorem Rel.over {P : Program} {G : Gh} {st : St} {w : World} (h : Rel P G st w) {id : Nat} {info : Info} {o o' : HO} (hi : G.s[id]? = some info) (ho : st[id]? = some o) (hv : o'.live.isSome = true → o.live.isSome = true)
    (hz : szOf o' info.sz) (hl : ∀ l m, o'.live = some (l, m) → RLive G w info l m) : Rel P G (st.set id o') w := by
  have hlt := get_lt ho
  refine ⟨by simpa using h.len, h.kc, fun j i x h1 h2 => ?_, fun j j' i i' x x' b b' h1 h2 h3 h4 h5 h6 hne h7 h8 => ?_, h.tab⟩
  · by_cases e : id = j
    · subst e
      rw [List.getElem?_set_self hlt] at h2
      rw [hi] at h1
      cases h1; cases h2
      exact ⟨hz, hl⟩
    · rw [List.getElem?_set_ne e] at h2
      exact h.obj j i x h1 h2
  · have get : ∀ {k : Nat} {y : HO}, (st.set id o')[k]? = some y → y.live.isSome = true → ∃ z, st[k]? = some z ∧ z.live.isSome = true := by
      intro k y hk hy
      by_cases e : id = k
      · subst e
        rw [List.getElem?_set_self hlt] at hk
        cases hk
        exact ⟨o, ho, hv hy⟩
      · rw [List.getElem?_set_ne e] at hk
        exact ⟨y, hk, hy⟩
    obtain ⟨z, z1, z2⟩ := get h3 h5
    obtain ⟨z', z1', z2'⟩ := get h4 h6
    exact h.dis j j' i i' z z' b b' h1 h2 z1 z1' z2 z2' hne h7 h8
theorem cells_one {h : HV} : flatL [h] = h.cells := by simp [flatL]
theorem box_ghost {a b : St} {id : Nat} {h h' : HV} (ho : a[id]? = some (.box h)) (ht : ∀ l, h ≠ .tup l) (ht' : ∀ l, h' ≠ .tup l) (g : GV h a h' b) : GS a (b.set id (.box h')) := by
  intro P G w hr
  obtain ⟨info, hi⟩ := hr.get ho
  obtain ⟨z, f⟩ := hr.obj id info _ hi ho
  have rl := f [h] true rfl
  have hn : info.n = 1 := rl.n
  cases hb : info.blk with
  | none =>
    have := rl.nil.1 hb
    have h2 := rl.cap
    simp only [List.length_cons, List.length_nil] at h2
    omega
  | some blk =>
    obtain ⟨c, t, us, h1, h2, h3, h4, h5, h6, h7⟩ := rl.row blk hb
    rw [cells_one] at h3
    have hf := rl.flat
    rw [cells_one] at hf
    obtain ⟨v, e1, e2⟩ := val_of_cells ht h3 hf
    obtain ⟨G', g1, g2, g3⟩ := g.gh P G w v hr e1
    refine ⟨G', ?_, g3⟩
    obtain ⟨info', q1, q2, q3, q4⟩ := g3.s id info hi
    have ho' := g.bx id h ho
    obtain ⟨z', f'⟩ := g1.obj id info' _ q1 ho'
    have rl' := f' [h] true rfl
    have e3 := q4 (by rw [rl'.n, rl.n])
    subst e3
    obtain ⟨c', t', us', k1, k2, k3, k4, k5, k6, k7⟩ := rl'.row blk hb
    rw [h1] at k1
    cases k1
    have e4 : us = us' := by
      rw [cells_one] at k3
      have l1 := h3.vals_length
      have l2 := k3.vals_length
      apply List.ext_getElem? 
      intro i
      rcases Nat.lt_or_ge i us.length with hlt | hge
      · have a1 := h4 i us[i] (List.getElem?_eq_getElem hlt)
        have a2 := k4 i (us'[i]'(by omega)) (List.getElem?_eq_getElem (by omega))
        rw [a1] at a2
        rw [List.getElem?_eq_getElem hlt, List.getElem?_eq_getElem (by omega)]
        exact a2
      · rw [List.getElem?_eq_none hge, List.getElem?_eq_none (by omega)]
    subst e4
    have hr' := g2.cells ht'
    rw [e2] at hr'
    refine Rel.over g1 q1 ho' (fun _ => rfl) (by simp only [szOf] at z' ⊢; rw [z', g.cells]) fun l m hl => ?_
    simp only [HO.live, Option.some.injEq, Prod.mk.injEq] at hl
    obtain ⟨rfl, rfl⟩ := hl
    refine ⟨rl'.n, rl'.cap, rl'.lm, fun x hx => ?_, ?_, rl'.nil, fun b' hb' => ?_⟩
    · simp only [List.mem_singleton] at hx
      subst hx
      rw [← g.cells]
      exact rl'.uni h (by simp)
    · rw [cells_one]; exact g2.cells_flat ht'
    · rw [hb] at hb'
      cases hb'
      exact ⟨c, t, us, h1, k2, by rw [cells_one]; exact hr', k4, k5, k6, k7⟩
theorem Rel.arrLe {P : Program} {G : Gh} {st : St} {w : World} (h : Rel P G st w) {id sz : Nat} {l l' : List HV} {m : Bool} (ho : st[id]? = some (.arr sz l m)) (e : EqvL l l') : Rel P G (st.set id (.arr sz l' m)) w := by
  obtain ⟨info, hi⟩ := h.get ho
  obtain ⟨z, f⟩ := h.obj id info _ hi ho
  refine Rel.over h hi ho (fun _ => rfl) z fun l2 m2 hl => ?_
  simp only [HO.live, Option.some.injEq, Prod.mk.injEq] at hl
  obtain ⟨rfl, rfl⟩ := hl
  have rl := f l m rfl
  exact rl.trans (fun us hu => R.eqvL hu e.flatL) e.1.symm (e.uni rl.uni) (e.flats rl.flat) (fun _ _ _ h => h) (fun _ _ => rfl) (fun _ _ _ h => h)
theorem Rel.boxLe {P : Program} {G : Gh} {st : St} {w : World} (h : Rel P G st w) {id : Nat} {x y : HV} (ho : st[id]? = some (.box x)) (ht : ∀ l, x ≠ .tup l) (ht' : ∀ l, y ≠ .tup l) (e : Rle x y) : Rel P G (st.set id (.box y)) w := by
  have g : GV x st y st := ⟨e.1, e.2.1, fun _ _ q => q, fun P G w u hr hv => ⟨G, hr, e.2.2 G u hv, .refl _ _⟩⟩
  obtain ⟨info, hi⟩ := h.get ho
  obtain ⟨z, f⟩ := h.obj id info _ hi ho
  have rl := f [x] true rfl
  refine Rel.over h hi ho (fun _ => rfl) (by simp only [szOf] at z ⊢; rw [z, e.2.1]) fun l2 m2 hl => ?_
  simp only [HO.live, Option.some.injEq, Prod.mk.injEq] at hl
  obtain ⟨rfl, rfl⟩ := hl
  have hf := rl.flat
  rw [cells_one] at hf
  refine rl.trans (fun us hu => ?_) rfl (fun q hq => ?_) ?_ (fun _ _ _ h => h) (fun _ _ => rfl) (fun _ _ _ h => h)
  · rw [cells_one] at hu ⊢
    obtain ⟨v, e1, e2⟩ := val_of_cells ht hu hf
    rw [← e2]
    exact (e.2.2 G v e1).cells ht'
  · simp only [List.mem_singleton] at hq
    subst hq
    rw [← e.2.1]
    exact rl.uni x (by simp)
  · rw [cells_one]
    cases hb : info.blk with
    | none =>
      have := rl.nil.1 hb
      have h2 := rl.cap
      simp only [List.length_cons, List.length_nil] at h2
      omega
    | some blk =>
      obtain ⟨c, t, us, h1, h2, h3, _⟩ := rl.row blk hb
      rw [cells_one] at h3
      obtain ⟨v, e1, e2⟩ := val_of_cells ht h3 hf
      exact (e.2.2 G v e1).cells_flat ht'
end X
end HL
end
section
namespace HL
namespace X
open Go
section
variable {S : DSys}
theorem met_pre {ids ids' : List Nat} {j id : Nat} (h : met ids j id = some ids') : ids <+: ids' ∧ ids'[j]? = some id ∧ (ids.Nodup → ids'.Nodup) := by
  simp only [met] at h
  cases hb : Nat.beq j ids.length with
  | true =>
    rw [hb] at h
    simp only [cond_true] at h
    cases he : ids.elem id with
    | true => rw [he] at h; cases h
    | false =>
      rw [he] at h
      simp only [cond_false, Option.some.injEq] at h
      subst h
      have := beq_t hb
      subst this
      refine ⟨⟨[id], rfl⟩, by simp, fun hd => ?_⟩
      rw [List.nodup_append]
      exact ⟨hd, by simp, fun a ha b hb' => by
        simp only [List.mem_singleton] at hb'
        subst hb'
        intro e
        subst e
        exact elem_f he ha⟩
  | false =>
    rw [hb] at h
    simp only [cond_false, nth_eq] at h
    split at h
    · rename_i i hi
      cases hc : Nat.beq i id with
      | true =>
        rw [hc] at h
        cases h
        have := beq_t hc
        subst this
        exact ⟨⟨[], by simp⟩, hi, fun hd => hd⟩
      | false => rw [hc] at h; cases h
    · cases h
mutual
theorem mtV_pre {st : TSt S} : ∀ {sh : VS} {v : TV S} {ids ids' : List Nat} {ls : List (Lf S)}, mtV st sh v ids = some (ls, ids') → ids <+: ids' ∧ (ids.Nodup → ids'.Nodup)
  | .d t, v, ids, ids', ls, h => by
    simp only [mtV] at h
    split at h
    · cases h; exact ⟨⟨[], by simp⟩, fun q => q⟩
    · cases h
  | .own j t, v, ids, ids', ls, h => by
    simp only [mtV] at h
    split at h
    · split at h
      · simp only [Option.map_eq_some_iff] at h
        obtain ⟨i, h1, h2⟩ := h
        cases h2
        obtain ⟨a, _, b⟩ := met_pre h1
        exact ⟨a, b⟩
      · cases h
    · cases h
  | .ptr j off, v, ids, ids', ls, h => by
    simp only [mtV] at h
    split at h
    · rename_i id off'
      cases hb : Nat.beq off off' with
      | true =>
        rw [hb] at h
        simp only [cond_true, Option.map_eq_some_iff] at h
        obtain ⟨i, h1, h2⟩ := h
        cases h2
        obtain ⟨a, _, b⟩ := met_pre h1
        exact ⟨a, b⟩
      | false => rw [hb] at h; cases h
    · cases h
  | .nilp, v, ids, ids', ls, h => by
    simp only [mtV] at h
    split at h
    · cases h; exact ⟨⟨[], by simp⟩, fun q => q⟩
    · cases h
  | .nilf, v, ids, ids', ls, h => by
    simp only [mtV] at h
    split at h
    · cases h; exact ⟨⟨[], by simp⟩, fun q => q⟩
    · cases h
  | .fn f a b, v, ids, ids', ls, h => by
    simp only [mtV] at h
    split at h
    · rename_i g x y
      cases hb : Nat.beq f g with
      | true =>
        rw [hb] at h
        simp only [cond_true] at h
        split at h
        · rename_i l1 i1 h1
          split at h
          · rename_i l2 i2 h2
            cases h
            obtain ⟨a1, a2⟩ := mtL_pre h1
            obtain ⟨b1, b2⟩ := mtL_pre h2
            exact ⟨a1.trans b1, fun q => b2 (a2 q)⟩
          · cases h
        · cases h
      | false => rw [hb] at h; cases h
    · cases h
  | .agg l, v, ids, ids', ls, h => by
    simp only [mtV] at h
    split at h
    · exact mtL_pre h
    · cases h
theorem mtL_pre {st : TSt S} : ∀ {sh : List VS} {v : List (TV S)} {ids ids' : List Nat} {ls : List (Lf S)}, mtL st sh v ids = some (ls, ids') → ids <+: ids' ∧ (ids.Nodup → ids'.Nodup)
  | [], [], ids, ids', ls, h => by cases h; exact ⟨⟨[], by simp⟩, fun q => q⟩
  | sh :: r, x :: xs, ids, ids', ls, h => by
    simp only [mtL] at h
    split at h
    · rename_i l1 i1 h1
      split at h
      · rename_i l2 i2 h2
        cases h
        obtain ⟨a1, a2⟩ := mtV_pre h1
        obtain ⟨b1, b2⟩ := mtL_pre h2
        exact ⟨a1.trans b1, fun q => b2 (a2 q)⟩
      · cases h
    · cases h
  | [], _ :: _, ids, ids', ls, h => by simp [mtL] at h
  | _ :: _, [], ids, ids', ls, h => by simp [mtL] at h
end
theorem pre_get {a b : List Nat} (h : a <+: b) {j i : Nat} (hj : a[j]? = some i) : b[j]? = some i := by
  obtain ⟨t, rfl⟩ := h
  rw [List.getElem?_append_left (get_lt hj)]
  exact hj
variable (ok : S.Ok)
include ok
theorem coO_sound {m : Nat} : ∀ {os : List OS} {j : Nat} {st st' : TSt S} {ids ids' I : List Nat} {hst : St}, coO m os j st ids = some (st', ids') → (∀ i ∈ ids', i ∈ I) → RSt st hst →
    ∃ hst', RSt st' hst' ∧ Mo st st' ∧ GS hst hst' ∧ (m = 0 → Fr [] I hst hst') ∧ ids <+: ids' ∧ (ids.Nodup → ids'.Nodup)
  | [], j, st, st', ids, ids', I, hst, h, hI, hs => by
    cases h
    exact ⟨hst, hs, .refl _, .refl _, fun _ => .refl _ _ _, ⟨[], by simp⟩, fun q => q⟩
  | o :: r, j, st, st', ids, ids', I, hst, h, hI, hs => by
    simp only [coO, nth_eq] at h
    split at h
    · cases h
    · rename_i id hid
      have list : ∀ {t : Tc}, (match st[id]? with
          | some ob => match ob.els t with
            | some l => coO m r (j + 1) (setN st id (.arr t l ob.mu ob.ver ob.cv)) ids
            | none => none
          | none => none) = some (st', ids') → ∃ hst', RSt st' hst' ∧ Mo st st' ∧ GS hst hst' ∧ (m = 0 → Fr [] I hst hst') ∧ ids <+: ids' ∧ (ids.Nodup → ids'.Nodup) := by
        intro t h
        split at h
        · rename_i ob hob
          split at h
          · rename_i l hl
            rw [setN_eq] at h
            obtain ⟨x, hx, hro⟩ := hs.get hob
            obtain ⟨lh, rfl, e1, e2⟩ := els_sound ok hro hl
            have ha : ob.isArr = true := by cases ob <;> first | rfl | cases hl
            have hm : Mo st (st.set id (.arr t l ob.mu ob.ver ob.cv)) := .set fun _ => ⟨ob, hob, ⟨ha, Nat.le_refl _, fun _ => e2, Nat.le_refl _, fun t' l' mu v c e3 _ => by
              subst e3
              simp only [TO.els] at hl
              have := to_eq hl
              cases this
              exact ⟨mu, v, rfl⟩⟩⟩
            obtain ⟨hst', p1, p2, p3, p4, p5, p6⟩ := coO_sound (I := I) h hI (hs.setL hm fun ho q => by rw [hx] at q; cases q; exact .arr e1)
            exact ⟨hst', p1, hm.trans p2, p3, p4, p5, p6⟩
          · cases h
        · cases h
      cases o with
      | dead => exact coO_sound h hI hs
      | same => exact coO_sound h hI hs
      | ro t => exact list h
      | arr t => exact list h
      | box sh =>
        simp only at h
        split at h
        · rename_i v hv
          split at h
          · rename_i v' st1 h1
            split at h
            · rename_i lx ids1 h2
              have hb := getB_some hv
              obtain ⟨x, hx, hro⟩ := hs.get hb
              cases hro with
              | box hrv ht =>
                rename_i y
                obtain ⟨y', hst1, q1, q2, q3, q4, q5, q6⟩ := coV_sound ok sh v v' st st1 y hst h1 hrv hs
                rw [setN_eq] at h
                have hm : Mo st1 (st1.set id (.box v')) := .set fun q => by cases q
                have ht' : ttup v' = false := by rw [q5.1]; exact ht
                obtain ⟨hst', p1, p2, p3, p4, p5, p6⟩ := coO_sound (I := I) h hI (q2.set hm (.box (q1.mono hm) ht'))
                obtain ⟨r1, r2⟩ := mtV_pre h2
                have g := box_ghost hx (ttup_sound ok hrv ht) (ttup_sound ok q1 ht') q6
                refine ⟨hst', p1, (q3.trans hm).trans p2, g.trans p3, fun hm0 => ?_, r1.trans p5, fun hd => p6 (r2 hd)⟩
                refine (((q4 hm0).mono (fun _ q => by cases q) (fun _ q => by cases q)).trans (.set fun o _ hni => ?_)).trans (p4 hm0)
                exact absurd (hI id (List.mem_of_getElem? (pre_get (r1.trans p5) hid))) hni
            · cases h
          · cases h
        · cases h
end
end X
end HL
end
section
namespace HL
namespace X
open Go
section
variable {S : DSys}
theorem inN_t {n : Nat} : ∀ {l : List Nat}, n ∈ l → inN n l = true
  | m :: r, h => by
    simp only [inN]
    cases hb : Nat.beq m n with
    | true => rfl
    | false =>
      rcases List.mem_cons.1 h with rfl | h
      · rw [Nat.beq_refl] at hb; cases hb
      · exact inN_t h
theorem deadOk_s {l : List Nat} : ∀ {os : List OS} {j : Nat}, deadOk l os j = true → ∀ i, os[i]? = some .dead → j + i ∉ l
  | [], j, h, i, hi => by simp at hi
  | o :: r, j, h, i, hi => by
    cases i with
    | zero =>
      simp only [List.getElem?_cons_zero, Option.some.injEq] at hi
      subst hi
      simp only [deadOk] at h
      intro hm
      rw [Nat.add_zero] at hm
      rw [inN_t hm] at h
      cases h
    | succ i =>
      rw [List.getElem?_cons_succ] at hi
      have h2 : deadOk l r (j + 1) = true := by
        cases o <;> first | exact h | skip
        simp only [deadOk] at h
        cases hq : inN j l with
        | true => rw [hq] at h; cases h
        | false => rw [hq] at h; exact h
      have := deadOk_s h2 i hi
      rwa [show j + 1 + i = j + (i + 1) by omega] at this
def Lens (st T : TSt S) (I O : List Nat) : Prop := ∀ j id ver o, j ∈ O → I[j]? = some id → getO st id ver = some o → lenAt T j = o.len
variable (ok : S.Ok)
include ok
theorem encT_ren (t : Tc) (x : T S.ty t) (σ : Nat → Nat) : (encT S t x).ren σ = encT S t x := (encT_cl ok t x).1 σ
mutual
theorem mtV_sound {st T : TSt S} {I O : List Nat} (hL : Lens st T I O) : ∀ (sh : VS) (v : TV S) (ids ids' : List Nat) (ls : List (Lf S)) (h : HV), mtV st sh v ids = some (ls, ids') → ids' <+: I → (∀ j ∈ ownsV sh, j ∈ O) → Rv st v h →
    ls.map (fun l => l.t) = sh.tys ∧ wfV I.length sh = true ∧ ∀ rest, (opV sh (ls ++ rest)).2 = rest ∧ Rle h ((encV T (opV sh (ls ++ rest)).1).ren (at_ I))
  | .d t, v, ids, ids', ls, h, hm, hI, hO, hr => by
    simp only [mtV] at hm
    split at hm
    · rename_i x hx
      cases hm
      refine ⟨rfl, rfl, fun rest => ⟨rfl, ?_⟩⟩
      show Rle h ((encT S t x).ren (at_ I))
      rw [encT_ren ok]
      exact (shut_sound ok hx hr).rle
    · cases hm
  | .own j t, v, ids, ids', ls, h, hm, hI, hO, hr => by
    simp only [mtV] at hm
    split at hm
    · rename_i id ver
      split at hm
      · rename_i o ho
        simp only [Option.map_eq_some_iff] at hm
        obtain ⟨i, h1, h2⟩ := hm
        cases h2
        obtain ⟨a, b, _⟩ := met_pre h1
        have hj := pre_get hI b
        cases hr with
        | own hn =>
          refine ⟨rfl, ?_, fun rest => ⟨rfl, ?_⟩⟩
          · simp only [wfV]; exact Nat.ble_eq_true_of_le (get_lt hj)
          · show Rle _ (.own (at_ I j) (lenAt T j))
            rw [at_get hj, hL j id ver o (hO j (by simp [ownsV])) hj ho, own_now hn ho]
            exact .refl _
      · cases hm
    · cases hm
  | .ptr j off, v, ids, ids', ls, h, hm, hI, hO, hr => by
    simp only [mtV] at hm
    split at hm
    · rename_i id off'
      cases hb : Nat.beq off off' with
      | true =>
        rw [hb] at hm
        simp only [cond_true, Option.map_eq_some_iff] at hm
        obtain ⟨i, h1, h2⟩ := hm
        cases h2
        obtain ⟨a, b, _⟩ := met_pre h1
        have hj := pre_get hI b
        have := beq_t hb
        subst this
        cases hr with
        | bp =>
          refine ⟨rfl, ?_, fun rest => ⟨rfl, ?_⟩⟩
          · simp only [wfV]; exact Nat.ble_eq_true_of_le (get_lt hj)
          · show Rle _ (.ptr (at_ I j) 1 0 off)
            rw [at_get hj]
            exact .refl _
      | false => rw [hb] at hm; cases hm
    · cases hm
  | .nilp, v, ids, ids', ls, h, hm, hI, hO, hr => by
    simp only [mtV] at hm
    split at hm
    · cases hm
      cases hr
      exact ⟨rfl, rfl, fun rest => ⟨rfl, .refl _⟩⟩
    · cases hm
  | .nilf, v, ids, ids', ls, h, hm, hI, hO, hr => by
    simp only [mtV] at hm
    split at hm
    · cases hm
      cases hr
      exact ⟨rfl, rfl, fun rest => ⟨rfl, .refl _⟩⟩
    · cases hm
  | .fn f a b, v, ids, ids', ls, h, hm, hI, hO, hr => by
    simp only [mtV] at hm
    split at hm
    · rename_i g x y
      cases hb : Nat.beq f g with
      | true =>
        rw [hb] at hm
        simp only [cond_true] at hm
        split at hm
        · rename_i l1 i1 h1
          split at hm
          · rename_i l2 i2 h2
            cases hm
            have := beq_t hb
            subst this
            obtain ⟨hx, hy, rfl, r1, r2⟩ := hr.fn_inv
            have p2 := (mtL_pre h2).1
            obtain ⟨a1, a2, a3⟩ := mtL_sound hL a x _ _ _ hx h1 (p2.trans hI) (fun j hj => hO j (by simp [ownsV, hj])) r1
            obtain ⟨b1, b2, b3⟩ := mtL_sound hL b y _ _ _ hy h2 hI (fun j hj => hO j (by simp [ownsV, hj])) r2
            refine ⟨by rw [List.map_append, a1, b1]; rfl, by simp only [wfV, a2, b2]; rfl, fun rest => ?_⟩
            obtain ⟨c1, c2⟩ := a3 (l2 ++ rest)
            obtain ⟨d1, d2⟩ := b3 rest
            rw [List.append_assoc]
            refine ⟨?_, ?_⟩
            · show (opL b (opL a (l1 ++ (l2 ++ rest))).2).2 = rest
              rw [c1]; exact d1
            · show Rle _ (.fn f (renL (at_ I) (encVs T (opL a (l1 ++ (l2 ++ rest))).1)) (renL (at_ I) (encVs T (opL b (opL a (l1 ++ (l2 ++ rest))).2).1)))
              refine .fn c2 ?_
              rw [c1]; exact d2
          · cases hm
        · cases hm
      | false => rw [hb] at hm; cases hm
    · cases hm
  | .agg l, v, ids, ids', ls, h, hm, hI, hO, hr => by
    simp only [mtV] at hm
    split at hm
    · rename_i cs
      obtain ⟨hx, rfl, r1⟩ := hr.agg_inv
      obtain ⟨a1, a2, a3⟩ := mtL_sound hL l cs _ _ _ hx hm hI hO r1
      exact ⟨a1, a2, fun rest => ⟨(a3 rest).1, .agg (a3 rest).2⟩⟩
    · cases hm
theorem mtL_sound {st T : TSt S} {I O : List Nat} (hL : Lens st T I O) : ∀ (sh : List VS) (v : List (TV S)) (ids ids' : List Nat) (ls : List (Lf S)) (h : List HV), mtL st sh v ids = some (ls, ids') → ids' <+: I → (∀ j ∈ ownsL sh, j ∈ O) → RvL st v h →
    ls.map (fun l => l.t) = tysL sh ∧ wfVs I.length sh = true ∧ ∀ rest, (opL sh (ls ++ rest)).2 = rest ∧ RleL h (renL (at_ I) (encVs T (opL sh (ls ++ rest)).1))
  | [], [], ids, ids', ls, h, hm, hI, hO, hr => by
    cases hm
    rw [hr.nil_inv]
    exact ⟨rfl, rfl, fun rest => ⟨rfl, .nil⟩⟩
  | sh :: r, x :: xs, ids, ids', ls, h, hm, hI, hO, hr => by
    simp only [mtL] at hm
    split at hm
    · rename_i l1 i1 h1
      split at hm
      · rename_i l2 i2 h2
        cases hm
        obtain ⟨y, ys, rfl, r1, r2⟩ := hr.inv
        have p2 := (mtL_pre h2).1
        obtain ⟨a1, a2, a3⟩ := mtV_sound hL sh x _ _ _ y h1 (p2.trans hI) (fun j hj => hO j (by simp [ownsL, hj])) r1
        obtain ⟨b1, b2, b3⟩ := mtL_sound hL r xs _ _ _ ys h2 hI (fun j hj => hO j (by simp [ownsL, hj])) r2
        refine ⟨by rw [List.map_append, a1, b1]; rfl, by simp only [wfVs, a2, b2]; rfl, fun rest => ?_⟩
        obtain ⟨c1, c2⟩ := a3 (l2 ++ rest)
        obtain ⟨d1, d2⟩ := b3 rest
        rw [List.append_assoc]
        refine ⟨?_, ?_⟩
        · show (opL r (opV sh (l1 ++ (l2 ++ rest))).2).2 = rest
          rw [c1]; exact d1
        · show RleL _ ((encV T (opV sh (l1 ++ (l2 ++ rest))).1).ren (at_ I) :: renL (at_ I) (encVs T (opL r (opV sh (l1 ++ (l2 ++ rest))).2).1))
          refine .cons c2 ?_
          rw [c1]; exact d2
      · cases hm
    · cases hm
  | [], _ :: _, ids, ids', ls, h, hm, hI, hO, hr => by simp [mtL] at hm
  | _ :: _, [], ids, ids', ls, h, hm, hI, hO, hr => by simp [mtL] at hm
end
omit ok
theorem cond_some {α : Type} {b : Bool} {x : Option α} {y : α} (h : cond b x none = some y) : x = some y := by
  cases b with
  | true => exact h
  | false => cases h
mutual
theorem mtV_rest {st : TSt S} : ∀ {sh : VS} {v : TV S} {ids ids' : List Nat} {ls : List (Lf S)}, mtV st sh v ids = some (ls, ids') → ∀ rest, (opV sh (ls ++ rest)).2 = rest
  | .d t, v, ids, ids', ls, h, rest => by
    simp only [mtV] at h
    split at h
    · cases h; rfl
    · cases h
  | .own j t, v, ids, ids', ls, h, rest => by
    simp only [mtV] at h
    split at h
    · split at h
      · simp only [Option.map_eq_some_iff] at h
        obtain ⟨i, h1, h2⟩ := h
        cases h2
        rfl
      · cases h
    · cases h
  | .ptr j off, v, ids, ids', ls, h, rest => by
    simp only [mtV] at h
    split at h
    · have h' := cond_some h
      simp only [Option.map_eq_some_iff] at h'
      obtain ⟨i, h1, h2⟩ := h'
      cases h2
      rfl
    · cases h
  | .nilp, v, ids, ids', ls, h, rest => by
    simp only [mtV] at h
    split at h
    · cases h; rfl
    · cases h
  | .nilf, v, ids, ids', ls, h, rest => by
    simp only [mtV] at h
    split at h
    · cases h; rfl
    · cases h
  | .fn f a b, v, ids, ids', ls, h, rest => by
    simp only [mtV] at h
    split at h
    · have h' := cond_some h
      split at h'
      · rename_i l1 i1 h1
        split at h'
        · rename_i l2 i2 h2
          cases h'
          show (opL b (opL a (l1 ++ l2 ++ rest)).2).2 = rest
          rw [List.append_assoc, mtL_rest h1]
          exact mtL_rest h2 rest
        · cases h'
      · cases h'
    · cases h
  | .agg l, v, ids, ids', ls, h, rest => by
    simp only [mtV] at h
    split at h
    · exact mtL_rest h rest
    · cases h
theorem mtL_rest {st : TSt S} : ∀ {sh : List VS} {v : List (TV S)} {ids ids' : List Nat} {ls : List (Lf S)}, mtL st sh v ids = some (ls, ids') → ∀ rest, (opL sh (ls ++ rest)).2 = rest
  | [], [], ids, ids', ls, h, rest => by cases h; rfl
  | sh :: r, x :: xs, ids, ids', ls, h, rest => by
    simp only [mtL] at h
    split at h
    · rename_i l1 i1 h1
      split at h
      · rename_i l2 i2 h2
        cases h
        show (opL r (opV sh (l1 ++ l2 ++ rest)).2).2 = rest
        rw [List.append_assoc, mtV_rest h1]
        exact mtL_rest h2 rest
      · cases h
    · cases h
  | [], _ :: _, ids, ids', ls, h, rest => by simp [mtL] at h
  | _ :: _, [], ids, ids', ls, h, rest => by simp [mtL] at h
end
theorem Eqv.trans {a b : HV} (h : Eqv a b) : ∀ {c : HV}, Eqv b c → Eqv a c := by
  induction h with
  | refl => exact fun q => q
  | nils =>
    intro c q
    cases q with
    | refl => exact .nils
    | sl hl h => rename_i l'; cases l' <;> simp_all [Eqv.nils]
  | sl hl h ih =>
    intro c q
    cases q with
    | refl => exact .sl hl h
    | sl hl' h' =>
      rename_i l l' l2
      refine .sl (hl.trans hl') fun i x y hx hy => ?_
      obtain ⟨z, hz, _⟩ := EqvL.get' ⟨hl, h⟩ hx
      exact ih i x z hx hz (h' i z y hz hy)
  | agg hl h ih =>
    intro c q
    cases q with
    | refl => exact .agg hl h
    | agg hl' h' =>
      refine .agg (hl.trans hl') fun i x y hx hy => ?_
      obtain ⟨z, hz, _⟩ := EqvL.get' ⟨hl, h⟩ hx
      exact ih i x z hx hz (h' i z y hz hy)
include ok in
theorem mtL_dk {st : TSt S} : ∀ {sh : List VS} {v : List (TV S)} {ids ids' : List Nat} {ls : List (Lf S)} {h : List HV}, mtL st sh v ids = some (ls, ids') → RvL st v h →
    ∀ rest (i : Nat) (s : VS) (z' z : HV), sh[i]? = some s → h[i]? = some z' → isD s = true → Eqv z z' → ∃ V, (opL sh (ls ++ rest)).1[i]? = some V ∧ ∀ T : TSt S, Rv T V z
  | [], [], ids, ids', ls, h, hm, hr, rest, i, s, z', z, h1, h2, h3, h4 => by simp at h1
  | sh :: r, x :: xs, ids, ids', ls, h, hm, hr, rest, i, s, z', z, h1, h2, h3, h4 => by
    simp only [mtL] at hm
    split at hm
    · rename_i l1 i1 g1
      split at hm
      · rename_i l2 i2 g2
        cases hm
        obtain ⟨y, ys, rfl, r1, r2⟩ := hr.inv
        cases i with
        | succ i =>
          obtain ⟨V, a1, a2⟩ := mtL_dk g2 r2 rest i s z' z (by simpa using h1) (by simpa using h2) h3 h4
          refine ⟨V, ?_, a2⟩
          show ((opV sh (l1 ++ l2 ++ rest)).1 :: (opL r (opV sh (l1 ++ l2 ++ rest)).2).1)[i + 1]? = some V
          rw [List.getElem?_cons_succ, List.append_assoc]
          have := (mtV_rest g1) (l2 ++ rest)
          rw [this]
          exact a1
        | zero =>
          simp only [List.getElem?_cons_zero, Option.some.injEq] at h1 h2
          subst h1 h2
          refine ⟨(opV sh (l1 ++ l2 ++ rest)).1, rfl, fun T => ?_⟩
          cases sh with
          | d t =>
            simp only [mtV] at g1
            split at g1
            · rename_i u hu
              cases g1
              exact .d (h4.trans (shut_sound ok hu r1))
            · cases g1
          | nilp =>
            simp only [mtV] at g1
            split at g1
            · cases g1
              cases r1
              cases h4
              exact .nilp
            · cases g1
          | nilf =>
            simp only [mtV] at g1
            split at g1
            · cases g1
              cases r1
              cases h4
              exact .nilf
            · cases g1
          | _ => cases h3
      · cases hm
    · cases hm
  | [], _ :: _, ids, ids', ls, h, hm, hr, rest, i, s, z', z, h1, h2, h3, h4 => by simp [mtL] at hm
  | _ :: _, [], ids, ids', ls, h, hm, hr, rest, i, s, z', z, h1, h2, h3, h4 => by simp [mtL] at hm
/-! ### objects -/
inductive OLe : HO → HO → Prop
  | box {x y : HV} (e : Rle x y) (ht : ∀ l, x ≠ .tup l) (ht' : ∀ l, y ≠ .tup l) : OLe (.box x) (.box y)
  | arr {sz : Nat} {l l' : List HV} {m : Bool} (e : EqvL l l') : OLe (.arr sz l m) (.arr sz l' m)
def SameOk (e st : TSt S) : Prop := ∀ j, sameO (nth e j) (nth st j) = true → ∃ t l v v', e[j]? = some (.arr t l true v 0) ∧ st[j]? = some (.arr t l true v' 0)
end
end X
end HL
end
section
namespace HL
namespace X
open Go
section
variable {S : DSys} (ok : S.Ok)
theorem ren_ntup {h : HV} {σ : Nat → Nat} (ht : ∀ l, h ≠ .tup l) : ∀ l, h.ren σ ≠ .tup l := by
  intro l
  cases h <;> first | exact absurd rfl (ht _) | (intro e; cases e)
theorem pre_len {a b : List Nat} (h : a <+: b) (hl : b.length = a.length) : b = a := by
  obtain ⟨t, rfl⟩ := h
  simp at hl
  subst hl
  simp
theorem lf_to {t t' : Tc} {l : List (T S.ty t')} {x : T S.ty (.ls t)} (h : Lf.to (.ls t) ⟨.ls t', l⟩ = some x) : ∃ e : t' = t, x = e ▸ l := by
  have := to_eq h
  cases this
  exact ⟨rfl, rfl⟩
include ok
theorem mtO_sound {ent : Option (TSt S)} {st T : TSt S} {I O : List Nat} {hst : St} (hL : Lens st T I O) (hS : ∀ e, ent = some e → SameOk e st) (hs : RSt st hst) (hT : T.length = I.length) :
    ∀ (os : List OS) (j : Nat) (ls : List (Lf S)), mtO ent st os j I = some ls → (∀ k ∈ ownsO os, k ∈ O) →
      j + os.length = I.length ∧ ls.map (fun l => l.t) = tysO os ∧ wfOs I.length os = true ∧ EntOk (ent.getD []) os j ∧
      ∀ rest i o, (fixE os j (ent.getD []) (opOs os (ls ++ rest)))[i]? = some o → o = .dead ∨ ∃ id x, I[j + i]? = some id ∧ hst[id]? = some x ∧ (OLe x ((encO T o).ren (at_ I)) ∧ (o.isArr = true → ∃ p, st[id]? = some p ∧ RO st p ((encO T o).ren (at_ I))))
  | [], j, ls, h, hO => by
    simp only [mtO] at h
    cases hb : Nat.beq j I.length with
    | true =>
      rw [hb] at h
      cases h
      exact ⟨by simpa using beq_t hb, rfl, rfl, trivial, fun rest i o ho => by simp [opOs, fixE] at ho⟩
    | false => rw [hb] at h; cases h
  | s :: r, j, ls, h, hO => by
    simp only [mtO, nth_eq] at h
    split at h
    · cases h
    · rename_i id hid
      have zero : I[j + 0]? = some id := hid
      -- an object that is a list, as it lies there
      have list : ∀ {t : Tc} {l : List (HL.X.T S.ty t)} {v c v0 c0 : Nat}, st[id]? = some (.arr t l true v c) → ∃ x, hst[id]? = some x ∧ (OLe x ((encO T (.arr t l true v0 c0)).ren (at_ I)) ∧ (TO.isArr (S := S) (.arr t l true v0 c0) = true → ∃ p, st[id]? = some p ∧ RO st p ((encO T (.arr t l true v0 c0)).ren (at_ I)))) := by
        intro t l v c v0 c0 hst'
        obtain ⟨x, hx, hro⟩ := hs.get hst'
        cases hro with
        | arr e =>
          refine ⟨_, hx, ?_⟩
          have hro : HO.ren (at_ I) (encO T (TO.arr t l true v0 c0)) = .arr (szT S t) (renL (at_ I) (l.map (encT S t))) true := rfl
          rw [hro]
          have : renL (at_ I) (l.map (encT S t)) = l.map (encT S t) := (cll_of (fun y => encT_cl ok t y) l).1 _
          rw [this]
          exact ⟨.arr e, fun _ => ⟨_, hst', .arr (.refl _)⟩⟩
      have fin : ∀ {ls' : List (Lf S)} {l1 : List (Lf S)} {o0 : List (Lf S) → TO S}, mtO ent st r (j + 1) I = some ls' → ls = l1 ++ ls' → l1.map (fun l => l.t) = OS.tys s → wfO I.length s = true →
          (∀ rest, (fixE (s :: r) j (ent.getD []) (opOs (s :: r) (l1 ++ rest))) = o0 rest :: fixE r (j + 1) (ent.getD []) (opOs r rest)) →
          (EntOk (ent.getD []) r (j + 1) → EntOk (ent.getD []) (s :: r) j) → (∀ rest, o0 rest = .dead ∨ ∃ x, hst[id]? = some x ∧ (OLe x ((encO T (o0 rest)).ren (at_ I)) ∧ ((o0 rest).isArr = true → ∃ p, st[id]? = some p ∧ RO st p ((encO T (o0 rest)).ren (at_ I))))) → (∀ k ∈ ownsO r, k ∈ O) →
          j + (s :: r).length = I.length ∧ ls.map (fun l => l.t) = tysO (s :: r) ∧ wfOs I.length (s :: r) = true ∧ EntOk (ent.getD []) (s :: r) j ∧
          ∀ rest i o, (fixE (s :: r) j (ent.getD []) (opOs (s :: r) (ls ++ rest)))[i]? = some o → o = .dead ∨ ∃ id x, I[j + i]? = some id ∧ hst[id]? = some x ∧ (OLe x ((encO T o).ren (at_ I)) ∧ (o.isArr = true → ∃ p, st[id]? = some p ∧ RO st p ((encO T o).ren (at_ I)))) := by
        intro ls' l1 o0 h1 h2 h3 h4 h5 h6 h7 h8
        obtain ⟨a1, a2, a3, a4, a5⟩ := mtO_sound hL hS hs hT r (j + 1) ls' h1 h8
        subst h2
        refine ⟨by simp only [List.length_cons]; omega, by rw [List.map_append, h3, a2]; rfl, by simp only [wfOs, h4, a3]; rfl, h6 a4, fun rest i o ho => ?_⟩
        rw [List.append_assoc, h5] at ho
        cases i with
        | zero =>
          simp only [List.getElem?_cons_zero, Option.some.injEq] at ho
          subst ho
          rcases h7 (ls' ++ rest) with h7 | ⟨x, x1, x2⟩
          · exact .inl h7
          · exact .inr ⟨id, x, zero, x1, x2⟩
        | succ i =>
          rw [List.getElem?_cons_succ] at ho
          rcases a5 rest i o ho with h9 | ⟨id', x, x1, x2, x3⟩
          · exact .inl h9
          · exact .inr ⟨id', x, by rw [← x1]; congr 1; omega, x2, x3⟩
      cases s with
      | dead =>
        exact fin (l1 := []) (o0 := fun _ => .dead) h rfl rfl rfl (fun rest => rfl) (fun q => q) (fun _ => .inl rfl) (fun k hk => hO k hk)
      | same =>
        simp only at h
        split at h
        · rename_i e
          cases hb : (Nat.beq id j && sameO e[j]? st[id]?) with
          | false => rw [hb] at h; cases h
          | true =>
            rw [hb] at h
            simp only [cond_true] at h
            simp only [Bool.and_eq_true] at hb
            have hij := beq_t hb.1
            subst hij
            obtain ⟨t, l, v, v', e1, e2⟩ := hS e rfl id (by rw [nth_eq, nth_eq]; exact hb.2)
            refine fin (l1 := []) (o0 := fun _ => .arr t l true v 0) h rfl rfl rfl (fun rest => ?_) (fun q => ⟨⟨t, l, v, 0, e1⟩, q⟩) (fun _ => .inr (list e2)) (fun k hk => hO k hk)
            simp only [opOs, opO, fixE, nth_eq, List.nil_append, Option.getD_some, e1]
        · cases h
      | ro t =>
        replace h : cond (match ent with
          | some e => Nat.beq id j && sameO e[j]? st[id]?
          | none => true) (match st[id]? with
          | some (.arr t' l true _ _) => match Lf.to (.ls t) ⟨.ls t', l⟩, mtO ent st r (j + 1) I with
            | some x, some ls => some (⟨.ls t, x⟩ :: ls)
            | _, _ => none
          | _ => none) none = some ls := h
        have h' := cond_some h
        clear h
        have h := h'
        clear h'
        split at h
        · rename_i t' l v c hob
          split at h
          · rename_i x ls' h1 h2
            cases h
            obtain ⟨e, rfl⟩ := lf_to h1
            subst e
            exact fin (l1 := [⟨.ls t', l⟩]) (o0 := fun _ => .arr t' l true 0 0) h2 rfl rfl rfl (fun rest => rfl) (fun q => q) (fun _ => .inr (list hob)) (fun k hk => hO k hk)
          · cases h
        · cases h
      | arr t =>
        simp only at h
        split at h
        · rename_i t' l v c hob
          split at h
          · rename_i x ls' h1 h2
            cases h
            obtain ⟨e, rfl⟩ := lf_to h1
            subst e
            exact fin (l1 := [⟨.ls t', l⟩]) (o0 := fun _ => .arr t' l true 0 0) h2 rfl rfl rfl (fun rest => rfl) (fun q => q) (fun _ => .inr (list hob)) (fun k hk => hO k hk)
          · cases h
        · cases h
      | box sh =>
        simp only at h
        split at h
        · rename_i v hv
          split at h
          · rename_i l1 ids1 h1
            cases hb : Nat.beq ids1.length I.length with
            | false => rw [hb] at h; cases h
            | true =>
              rw [hb] at h
              simp only [cond_true] at h
              split at h
              · rename_i l2 h2
                cases h
                have hp := (mtV_pre h1).1
                have := pre_len hp (beq_t hb)
                subst this
                obtain ⟨x, hx, hro⟩ := hs.get (getB_some hv)
                cases hro with
                | box hrv ht =>
                  rename_i y
                  have hO' : ∀ k ∈ ownsV sh, k ∈ O := fun k hk => hO k (by simp [ownsO, hk])
                  obtain ⟨a1, a2, a3⟩ := mtV_sound ok hL sh v _ _ l1 y h1 (List.prefix_refl _) hO' hrv
                  refine fin (l1 := l1) (o0 := fun rest => .box (opV sh (l1 ++ rest)).1) h2 rfl a1 a2 (fun rest => ?_) (fun q => q) (fun rest => .inr ⟨_, hx, ?_⟩) (fun k hk => hO k (by simp [ownsO, hk]))
                  · simp only [opOs, opO, fixE, (a3 rest).1]
                  · have hhas : Has (l1 ++ rest) sh.tys := ⟨rest.map fun l => l.t, by rw [List.map_append, a1]⟩
                    obtain ⟨b1, b2, _⟩ := opV_ok T sh (l1 ++ rest) hhas (by rw [hT]; exact a2)
                    exact ⟨.box (a3 rest).2 (ttup_sound ok hrv ht) (ren_ntup (ttup_sound ok b1 b2)), fun q => by cases q⟩
              · cases h
          · cases h
        · cases h
end
end X
end HL
end
