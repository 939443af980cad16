/- HL: operations, second part: those on values, addresses, loads and stores. -/
import Derived.Test.YtamneeogomklgaaGreatHLSound1
set_option linter.unusedSimpArgs false
set_option linter.unusedVariables false
set_option linter.unusedSectionVars false
namespace HL
open Go
def Does (P : Program) (o : Oper) (a : Act) (G : Gh) (w : World) (k : HV → St → Prop) : Prop :=
  ∃ v w', ((execOp a.eval o).run P w = .ok (.value v) w' ∨ ((execOp a.eval o).run P w = .ok .skip w' ∧ v = undef)) ∧ After P G w k v w'
theorem Does.val {P : Program} {o : Oper} {a : Act} {G : Gh} {w : World} {k : HV → St → Prop} {v : Value} {h : HV} {st : St}
    (hr : (execOp a.eval o).run P w = .ok (.value v) w) (hk : k h st) (hR : Rel P G st w) (hv : R G (.val v h)) : Does P o a G w k :=
  ⟨v, w, .inl hr, h, G, st, hk, hR, hv, Step.refl _ _⟩
section
variable {P : Program} {N : Nat} {fz : Bool} {env : Env} {st : St} {k : HV → St → Prop} {G : Gh} {w : World} {a : Act} {o : Oper}
theorem do_move {x : Operand} {hx : HArg} (ho : o.op = .move x ∨ o.op = .assign x) (ha : arg x = some hx) (hv : vcOp P fz env st (.mov hx) k) (hr : Rel P G st w) (he : REnv N G a env) : Does P o a G w k := by
  simp only [vcOp] at hv
  split at hv
  · rename_i v hev
    refine .val (v := a.eval x) ?_ hv hr (he.ev ha hev)
    rcases ho with ho | ho <;> simp [execOp, ho]
  · exact hv.elim
theorem do_pick {c x y : Operand} {hc hx hy : HArg} (ho : o.op = .pick c x y) (h1 : arg c = some hc) (h2 : arg x = some hx) (h3 : arg y = some hy)
    (hv : vcOp P fz env st (.pick hc hx hy) k) (hr : Rel P G st w) (he : REnv N G a env) : Does P o a G w k := by
  simp only [vcOp] at hv
  split at hv
  · rename_i t p q e1 e2 e3
    have r1 := he.ev h1 e1
    cases hc' : a.eval c with
    | bool b =>
      rw [hc'] at r1
      cases r1
      refine .val (v := if t then a.eval x else a.eval y) ?_ hv hr ?_
      · simp [execOp, ho, hc', asBool]
      · cases t
        · exact he.ev h3 e3
        · exact he.ev h2 e2
    | _ => rw [hc'] at r1; cases r1
  · exact hv.elim
theorem new_box (hr : Rel P G st w) {v : Value} {x : HV} (hx : R G (.val v x)) (ht : ∀ l, x ≠ .tup l) (t : TypeId) :
    ∃ G', Rel P G' (st ++ [.box x]) (w.alloc (.cells v.cells t)) ∧ R G' (.val (.pointer (some ⟨w.heap.size, 0, none⟩)) (.ptr st.length 1 0 0)) ∧ Step G w G' (w.alloc (.cells v.cells t)) := by
  let info : Info := ⟨some w.heap.size, x.cells.length, 1, 1⟩
  have hcl : v.cells.toList.length = x.cells.length := (hx.cells ht).vals_length
  have hKn : ∀ i, G.K w.heap.size i = none := by
    intro i
    cases h : G.K w.heap.size i with
    | none => rfl
    | some u => have := hr.K_lt h; omega
  have hnew := Rel.new hr (w' := w.alloc (.cells v.cells t)) (o := .box x) (l := [x]) (m := true) (info := info) rfl rfl rfl rfl rfl (by simp)
    (fun k hk => by
      show (w.heap.push _)[k]? = _
      rw [Array.getElem?_push_lt hk, Array.getElem?_eq_getElem hk])
    (fun b hb => by cases hb; exact Nat.le_refl _)
    ⟨rfl, Nat.le_refl _, by simp [lim], fun y hy => by simp at hy; subst hy; rfl, fun c hc => by simp at hc; exact hx.cells_flat ht c hc, ⟨(fun h => by cases h), by simp [info]⟩,
     fun b hb => by
      cases hb
      refine ⟨v.cells, t, v.cells.toList, (by show (w.heap.push _)[w.heap.size]? = _; simp), (by rw [Array.length_toList] at hcl; simp [info, hcl]), by simpa using hx.cells ht, fun k u hu => by simpa using hu, fun k h1 h2 => hKn k, fun _ k _ => hKn k, fun h => by cases h⟩⟩
  refine ⟨_, hnew.1, ?_, hnew.2⟩
  refine .ptr (info := info) (by simp [hr.len]) (Nat.le_refl _) fun _ => ⟨w.heap.size, rfl, by simp⟩
theorem do_alloc {t : TypeId} {z : HV} (ho : o.op = .alloc t) (hz : zeroT P t = some z) (hv : vcOp P fz env st (.alloc z) k) (hr : Rel P G st w) : Does P o a G w k := by
  unfold zeroT at hz
  simp only [Option.bind_eq_some_iff] at hz
  obtain ⟨i, h1, zv, h2, h3⟩ := hz
  have hx : R G (.val zv z) := R_hvOf h3
  have hzt : ∀ l, z ≠ .tup l := by
    intro l e
    subst e
    simp [vcOp] at hv
  have hv' : k (.ptr st.length 1 0 0) (st ++ [.box z]) := by
    cases z <;> first | exact hv | exact absurd rfl (hzt _)
  obtain ⟨G', g1, g2, g3⟩ := new_box hr hx hzt t
  refine ⟨_, _, .inl ?_, _, G', _, hv', g1, g2, g3⟩
  simp [execOp, ho, Instr.alloc, zeroValue, typeInfo, h1, h2, newVar, newRow]
theorem do_box {t : TypeId} {x : Operand} {hx : HArg} (ho : o.op = .box t x) (ha : arg x = some hx) (hv : vcOp P fz env st (.box hx) k) (hr : Rel P G st w) (he : REnv N G a env) : Does P o a G w k := by
  simp only [vcOp] at hv
  split at hv
  · exact hv.elim
  · rename_i x' hnt hev
    have hzt' : ∀ l, x' ≠ .tup l := fun l e => hnt l e
    obtain ⟨G', g1, g2, g3⟩ := new_box hr (he.ev ha hev) hzt' t
    refine ⟨_, _, .inl ?_, _, G', _, hv, g1, g2, g3⟩
    simp [execOp, ho, Instr.box, newVar, newRow]
  · exact hv.elim
theorem do_nilchk {x : Operand} {hx : HArg} (ho : o.op = .nilCheck x) (ha : arg x = some hx) (hv : vcOp P fz env st (.nilchk hx) k) (hr : Rel P G st w) (he : REnv N G a env) : Does P o a G w k := by
  simp only [vcOp] at hv
  split at hv
  · rename_i id n i off hev
    have r := he.ev ha hev
    cases hx' : a.eval x with
    | pointer p =>
      rw [hx'] at r
      cases p with
      | none => cases r
      | some p =>
        refine .val (v := .pointer (some p)) ?_ hv hr r
        simp [execOp, ho, hx']
    | _ => rw [hx'] at r; cases r
  · rename_i l sz i off hev
    have r := he.ev ha hev
    cases hx' : a.eval x with
    | pointer p =>
      rw [hx'] at r
      cases p with
      | none => cases r
      | some p =>
        refine .val (v := .pointer (some p)) ?_ hv hr r
        simp [execOp, ho, hx']
    | _ => rw [hx'] at r; cases r
  · exact hv.elim
theorem do_not {t : TypeId} {x : Operand} {hx : HArg} (ho : o.op = .unOp .not t x) (ha : arg x = some hx) (hv : vcOp P fz env st (.not hx) k) (hr : Rel P G st w) (he : REnv N G a env) : Does P o a G w k := by
  simp only [vcOp] at hv
  split at hv
  · rename_i b hev
    have r := he.ev ha hev
    cases hx' : a.eval x with
    | bool c =>
      rw [hx'] at r
      cases r
      refine .val (v := .bool (!b)) ?_ hv hr .bool
      simp [execOp, ho, hx', Op.unary]
    | _ => rw [hx'] at r; cases r
  · exact hv.elim
theorem do_neg {t : TypeId} {x : Operand} {hx : HArg} (ho : o.op = .unOp .neg t x) (ha : arg x = some hx) (hv : vcOp P fz env st (.neg hx) k) (hr : Rel P G st w) (he : REnv N G a env) : Does P o a G w k := by
  simp only [vcOp] at hv
  split at hv
  · rename_i kd b hev
    have r := he.ev ha hev
    cases hx' : a.eval x with
    | int kd' c =>
      rw [hx'] at r
      cases r
      refine .val (v := .int kd (kd.wrap (0 - b))) ?_ hv hr .int
      simp [execOp, ho, hx', Op.unary, Op.intArith]
    | _ => rw [hx'] at r; cases r
  · exact hv.elim
theorem do_conv {s d : TypeId} {ks kd : IntKind} {x : Operand} {hx : HArg} (ho : o.op = .convert s d x) (hs : intT P s = some ks) (hd : intT P d = some kd) (ha : arg x = some hx)
    (hv : vcOp P fz env st (.conv kd hx) k) (hr : Rel P G st w) (he : REnv N G a env) : Does P o a G w k := by
  simp only [vcOp] at hv
  split at hv
  · rename_i k0 b hev
    have r := he.ev ha hev
    have us : P.underlying s = some (.int ks) := by
      unfold intT at hs
      simp only [Option.bind_eq_some_iff] at hs
      obtain ⟨q, h1, h2⟩ := hs
      cases q <;> simp at h2
      subst h2; exact h1
    have ud : P.underlying d = some (.int kd) := by
      unfold intT at hd
      simp only [Option.bind_eq_some_iff] at hd
      obtain ⟨q, h1, h2⟩ := hd
      cases q <;> simp at h2
      subst h2; exact h1
    cases hx' : a.eval x with
    | int kd' c =>
      rw [hx'] at r
      cases r
      refine .val (v := .int kd (kd.wrap b)) ?_ hv hr .int
      simp [execOp, ho, hx', convert, run_underlying us, run_underlying ud, Conv.intToInt]
    | _ => rw [hx'] at r; cases r
  · exact hv.elim
theorem do_ext {x : Operand} {hx : HArg} {i : Nat} (ho : o.op = .extract x i) (ha : arg x = some hx) (hv : vcOp P fz env st (.ext hx i) k) (hr : Rel P G st w) (he : REnv N G a env) : Does P o a G w k := by
  simp only [vcOp] at hv
  split at hv
  · rename_i l hev
    have r := he.ev ha hev
    split at hv
    · rename_i y hy
      cases hx' : a.eval x with
      | tuple vs =>
        rw [hx'] at r
        obtain ⟨vs', hvs, r'⟩ : ∃ vs', vs = vs'.toArray ∧ R G (.vals vs' l) := by cases r with | tup h => exact ⟨_, rfl, h⟩
        subst hvs
        obtain ⟨v, h1, h2⟩ := r'.vals_get i y hy
        refine .val (v := v) ?_ hv hr h2
        simp [execOp, ho, hx', Instr.extract, h1]
      | _ => rw [hx'] at r; cases r
    · exact hv.elim
  · exact hv.elim
theorem do_mkfn {f : FuncId} {fs cs : Array Operand} {hf hc : List HArg} (ho : o.op = .makeFunc (.func f) fs cs) (h1 : fs.toList.mapM arg = some hf) (h2 : cs.toList.mapM arg = some hc)
    (hv : vcOp P fz env st (.mkfn f hf hc) k) (hr : Rel P G st w) (he : REnv N G a env) : Does P o a G w k := by
  simp only [vcOp] at hv
  split at hv
  · rename_i x y e1 e2
    refine .val (v := .func (.func f) (fs.toList.map a.eval).toArray (cs.toList.map a.eval).toArray) ?_ hv hr (.fn (he.evs h1 e1) (he.evs h2 e2))
    have q : ∀ xs : Array Operand, xs.map a.eval = (xs.toList.map a.eval).toArray := fun xs => Array.ext' (by simp)
    simp [execOp, ho, Instr.makeFunc, q fs, q cs]
  · exact hv.elim
theorem fields_of {t : TypeId} {fs : Array Field} (h : fieldsT P t = some fs) : P.underlying t = some (.struct fs) := by
  unfold fieldsT at h
  simp only [Option.bind_eq_some_iff] at h
  obtain ⟨q, h1, h2⟩ := h
  cases q <;> simp at h2
  subst h2; exact h1
theorem elem_of {t e : TypeId} (h : elemT P t = some e) : P.underlying t = some (.slice e) := by
  unfold elemT at h
  simp only [Option.bind_eq_some_iff] at h
  obtain ⟨q, h1, h2⟩ := h
  cases q <;> simp at h2
  subst h2; exact h1
theorem str_of {t : TypeId} (h : strT P t = true) : P.underlying t = some .string := by
  unfold strT at h
  split at h
  · assumption
  · cases h
theorem addr_add (b off n : Nat) : (⟨b, off, none⟩ : Addr).add n = ⟨b, off + n, none⟩ := by
  unfold Addr.add
  split
  · rename_i h; subst h; simp
  · rfl
theorem do_faddr {t : TypeId} {x : Operand} {hx : HArg} {f : Nat} {fs : Array Field} {fd : Field} {n0 : Nat} (ho : o.op = .fieldAddr t x f) (hfs : fieldsT P t = some fs) (hfd : fs[f]? = some fd)
    (hn0 : szT P fd.type = some n0) (hpos : n0 ≠ 0) (ha : arg x = some hx)
    (hv : vcOp P fz env st (.faddr fd.offset hx) k) (hr : Rel P G st w) (he : REnv N G a env) : Does P o a G w k := by
  have hu := fields_of hfs
  have key : ∀ p : Addr, a.eval x = .pointer (some p) → (execOp a.eval o).run P w = .ok (.value (.pointer (some (p.add fd.offset)))) w := by
    intro p hx'
    simp [execOp, ho, hx', Instr.fieldAt, run_underlying hu, hfd, Instr.sureAddr, fieldPlace, run_sizeOf hn0, hpos]
  simp only [vcOp] at hv
  split at hv
  · rename_i id n i off hev
    have r := he.ev ha hev
    cases hx' : a.eval x with
    | pointer p =>
      rw [hx'] at r
      cases r with
      | ptr hi hn hp =>
        refine .val (key _ hx') hv hr (.ptr hi hn fun e => ?_)
        obtain ⟨b, hb, rfl⟩ := hp e
        exact ⟨b, hb, by rw [addr_add]; simp [Nat.add_assoc]⟩
    | _ => rw [hx'] at r; cases r
  · rename_i l sz i off hev
    have r := he.ev ha hev
    cases hx' : a.eval x with
    | pointer p =>
      rw [hx'] at r
      cases r with
      | eptr us hu' hr' hk hf hp =>
        subst hp
        exact .val (key _ hx') hv hr (.eptr us hu' hr' hk hf (by rw [addr_add]; simp [Nat.add_assoc]))
    | _ => rw [hx'] at r; cases r
  · exact hv.elim
theorem int_of (he : REnv N G a env) {i : Operand} {hi : HArg} {kd : IntKind} {j : Int} (ha : arg i = some hi) (hev : ev env hi = some (.int kd j)) : a.eval i = .int kd j := by
  have r := he.ev ha hev
  cases hx' : a.eval i <;> rw [hx'] at r <;> cases r
  rfl
theorem str_ofEnv (he : REnv N G a env) {i : Operand} {hi : HArg} {s : ByteArray} (ha : arg i = some hi) (hev : ev env hi = some (.str s)) : a.eval i = .string s ∧ s.size ≤ lim := by
  have r := he.ev ha hev
  cases hx' : a.eval i <;> rw [hx'] at r <;> cases r
  exact ⟨rfl, by assumption⟩
theorem sl_of (he : REnv N G a env) {i : Operand} {hi : HArg} {l : List HV} (ha : arg i = some hi) (hev : ev env hi = some (.sl l)) :
    ((∃ p, a.eval i = .slice p 0 0) ∧ l = []) ∨ ∃ b base cap sz us, a.eval i = .slice (some ⟨b, base, none⟩) l.length cap ∧ Uni sz l ∧ R G (.vals us (flatL l)) ∧
      (∀ (k : Nat) (u : Value), us[k]? = some u → G.K b (base + k) = some u) ∧ (∀ c ∈ flatL l, c.flat = true) ∧ l.length ≤ cap ∧ l.length ≤ lim := by
  have r := he.ev ha hev
  generalize a.eval i = v at r
  cases r with
  | sl us hu hr hk hf hc hn hl => subst hn; exact .inr ⟨_, _, _, _, us, rfl, hu, hr, hk, hf, hc, hl⟩
  | sl0 => exact .inl ⟨⟨_, rfl⟩, rfl⟩
theorem own_of (he : REnv N G a env) (hr : Rel P G st w) {i : Operand} {hi : HArg} {id : Nat} {l : List HV} {sz : Nat} {m : Bool} (ha : arg i = some hi) (hev : ev env hi = some (.own id l.length)) (ho : st[id]? = some (.arr sz l m)) :
    ∃ info, G.s[id]? = some info ∧ info.sz = sz ∧ RLive G w info l m ∧ ∃ p, a.eval i = .slice p l.length info.cap ∧ ∀ b, info.blk = some b → p = some ⟨b, 0, none⟩ := by
  have r := he.ev ha hev
  cases hx' : a.eval i with
  | slice p n cap =>
    rw [hx'] at r
    cases r with
    | own hi' hn hp =>
      obtain ⟨hz, hf⟩ := hr.obj id _ _ hi' ho
      have rl := hf l m rfl
      obtain ⟨ha, rfl⟩ := hp rl.n
      exact ⟨_, hi', hz, rl, _, rfl, ha⟩
  | _ => rw [hx'] at r; cases r
theorem do_iaddr {t e : TypeId} {x i : Operand} {hx hi : HArg} {sz : Nat} (ho : o.op = .indexAddr t x i) (hte : elemT P t = some e) (hz : szT P e = some sz) (ha : arg x = some hx) (hb : arg i = some hi)
    (hv : vcOp P fz env st (.iaddr sz hx hi) k) (hr : Rel P G st w) (he : REnv N G a env) : Does P o a G w k := by
  have hu := elem_of hte
  simp only [vcOp] at hv
  split at hv
  · rename_i l kd j e1 e2
    obtain ⟨hj, y, hy, hyz, hk⟩ := hv
    have hiv := int_of he hb e2
    have hlt : j.toNat < l.length := by
      rcases Nat.lt_or_ge j.toNat l.length with h | h
      · exact h
      · simp [List.getElem?_eq_none h] at hy
    rcases sl_of he ha e1 with ⟨_, rfl⟩ | ⟨b, base, cap, sz', us, hxv, hU, hR, hK, hF, hc, hl⟩
    · simp at hlt
    · have : sz' = sz := by
        rw [← hyz]
        exact (hU y (List.mem_of_getElem? hy)).symm
      subst this
      refine .val (v := .pointer (some ⟨b, base + j.toNat * sz', none⟩)) ?_ hk hr (.eptr us hU hR hK hF (by simp))
      have h2 : (0 : Int) ≤ j ∧ j < (l.length : Int) := ⟨hj, by omega⟩
      simp [execOp, ho, hxv, hiv, Instr.indexAt, asIntOf, run_underlying hu, run_sizeOf hz, h2, addr_add]
  · rename_i id n kd j e1 e2
    split at hv
    · rename_i sz' l m hst
      obtain ⟨rfl, rfl, hj, hlt, hk⟩ := hv
      have hiv := int_of he hb e2
      obtain ⟨info, g1, g2, g3, p, g4, gp⟩ := own_of he hr ha e1 hst
      subst g2
      have hn := g3.n
      cases hblk : info.blk with
      | none => have := g3.nil.1 hblk; have := g3.cap; omega
      | some b =>
        rw [gp b hblk] at g4
        refine .val (v := .pointer (some ⟨b, j.toNat * info.sz, none⟩)) ?_ hk hr (.ptr g1 (by omega) fun _ => ⟨b, hblk, by simp⟩)
        have h2 : (0 : Int) ≤ j ∧ j < (l.length : Int) := ⟨hj, by omega⟩
        simp [execOp, ho, g4, hiv, Instr.indexAt, asIntOf, run_underlying hu, run_sizeOf hz, h2, addr_add]
    · exact hv.elim
  · exact hv.elim
theorem do_idx {t : TypeId} {x i : Operand} {hx hi : HArg} (ho : o.op = .index t x i) (ht : strT P t = true) (ha : arg x = some hx) (hb : arg i = some hi)
    (hv : vcOp P fz env st (.idx hx hi) k) (hr : Rel P G st w) (he : REnv N G a env) : Does P o a G w k := by
  have hu := str_of ht
  simp only [vcOp] at hv
  split at hv
  · rename_i s kd j e1 e2
    obtain ⟨hj, b, hb', hk⟩ := hv
    have hiv := int_of he hb e2
    obtain ⟨hsv, _⟩ := str_ofEnv he ha e1
    refine .val (v := .int .u8 b.toNat) ?_ hk hr .int
    have hlt : j.toNat < s.size := by
      rcases Nat.lt_or_ge j.toNat s.data.size with h | h
      · exact h
      · simp [Array.getElem?_eq_none h] at hb'
    have : s[j.toNat]? = some b := by
      rw [← hb']
      rfl
    simp [execOp, ho, hsv, hiv, Instr.index, asIntOf, run_underlying hu, hj, this]
  · exact hv.elim
theorem do_slen {t : TypeId} {x : Operand} {hx : HArg} {as : Array Operand} {ts : Array TypeId} (ho : o.op = .call { callee := .builtin .len, args := as, argTypes := ts }) (h1 : as[0]? = some x) (h2 : ts[0]? = some t) (ht : strT P t = true) (ha : arg x = some hx)
    (hv : vcOp P fz env st (.slen hx) k) (hr : Rel P G st w) (he : REnv N G a env) : Does P o a G w k := by
  have hu := str_of ht
  simp only [vcOp] at hv
  split at hv
  · rename_i s e1
    obtain ⟨hsv, hl⟩ := str_ofEnv he ha e1
    refine .val (v := .int .i64 s.size) ?_ (hv hl) hr .int
    simp [execOp, ho, resolve, invoke, builtin, Builtin.len_, h1, h2, run_underlying hu, hsv, goInt]
  · exact hv.elim
theorem do_len {t e : TypeId} {x : Operand} {hx : HArg} {as : Array Operand} {ts : Array TypeId} (ho : o.op = .call { callee := .builtin .len, args := as, argTypes := ts }) (h1 : as[0]? = some x) (h2 : ts[0]? = some t) (ht : elemT P t = some e) (ha : arg x = some hx)
    (hv : vcOp P fz env st (.len hx) k) (hr : Rel P G st w) (he : REnv N G a env) : Does P o a G w k := by
  have hu := elem_of ht
  have key : ∀ p n cap, a.eval x = .slice p n cap → (execOp a.eval o).run P w = .ok (.value (.int .i64 n)) w := by
    intro p n cap hx'
    simp [execOp, ho, resolve, invoke, builtin, Builtin.len_, h1, h2, run_underlying hu, hx', goInt]
  simp only [vcOp] at hv
  split at hv
  · rename_i l e1
    rcases sl_of he ha e1 with ⟨⟨p0, hx'⟩, rfl⟩ | ⟨b, base, cap, sz', us, hxv, hU, hR, hK, _, hc, hl⟩
    · exact .val (key _ _ _ hx') (by simpa using hv (by simp [lim])) hr .int
    · exact .val (key _ _ _ hxv) (hv hl) hr .int
  · rename_i e1
    have r := he.ev ha e1
    cases hx' : a.eval x with
    | slice p n cap =>
      rw [hx'] at r
      cases r
      exact .val (key _ _ _ hx') hv hr .int
    | _ => rw [hx'] at r; cases r
  · rename_i id n e1
    split at hv
    · rename_i sz l m hst
      obtain ⟨rfl, hv⟩ := hv
      obtain ⟨info, g1, g2, g3, p, g4, gp⟩ := own_of he hr ha e1 hst
      exact .val (key _ _ _ g4) (hv g3.lm) hr .int
    · exact hv.elim
  · exact hv.elim
end
end HL
