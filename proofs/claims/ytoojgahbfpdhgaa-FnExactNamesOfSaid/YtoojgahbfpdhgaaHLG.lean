/- HL: words that printed proofs use. Nothing of a seat is named here. -/
import Derived.Test.YtoojgahbfpdhgaaHLF
set_option linter.unusedSimpArgs false
set_option linter.unusedVariables false
set_option linter.unusedSectionVars false
namespace HL
open Go

theorem bs {α β : Type} {x : Option α} {f : α → Option β} {r : β} (h : (x >>= f) = some r) : ∃ y, x = some y ∧ f y = some r := Option.bind_eq_some_iff.1 h

/-- an element, or none -/
def ix {α : Type} (l : List α) (i : Int) : Option α := if 0 ≤ i then l[i.toNat]? else none
theorem ix_nn {α : Type} {l : List α} {i : Int} {x : α} (h : ix l i = some x) : 0 ≤ i := by
  unfold ix at h; split at h
  · assumption
  · cases h
theorem ix_get {α : Type} {l : List α} {i : Int} {x : α} (h : ix l i = some x) : l[i.toNat]? = some x := by
  unfold ix at h; split at h
  · exact h
  · cases h
theorem ix_ltI {α : Type} {l : List α} {i : Int} {x : α} (h : ix l i = some x) : i < ((l.length : Nat) : Int) := by
  have h0 := ix_nn h
  have h1 := (List.getElem?_eq_some_iff.1 (ix_get h)).1
  omega
theorem ixm {α : Type} {f : α → HV} {l : List α} {n : Nat} {x : α} (h : l[n]? = some x) : (List.map f l)[n]? = some (f x) := by simp [h]

/-- a byte, or none -/
def bx (s : ByteArray) (i : Int) : Option Int := if 0 ≤ i then (s.data[i.toNat]?).map (fun b => (b.toNat : Int)) else none
theorem bx_nn {s : ByteArray} {i x : Int} (h : bx s i = some x) : 0 ≤ i := by
  unfold bx at h; split at h
  · assumption
  · cases h
theorem bx_get {s : ByteArray} {i x : Int} (h : bx s i = some x) : ∃ c : UInt8, s.data[i.toNat]? = some c ∧ ((c.toNat : Nat) : Int) = x := by
  unfold bx at h; split at h
  · simpa [Option.map_eq_some_iff] using h
  · cases h

theorem own_get {α : Type} {f : α → HV} {l : List α} {n : Nat} {i : Int} (hn : l.length = n) (h0 : (0 : Int) ≤ i) (h1 : i < ((n : Nat) : Int)) : ∃ y, (List.map f l)[i.toNat]? = some (f y) := by
  have hi : i.toNat < l.length := by omega
  exact ⟨l[i.toNat], by simp [List.getElem?_eq_getElem hi]⟩
/-- what must hold -/
def gd (p : Prop) [Decidable p] : Option Unit := if p then some () else none
theorem gd_some {p : Prop} [Decidable p] {u : Unit} (h : gd p = some u) : p := by
  unfold gd at h; split at h
  · assumption
  · cases h

/-- a slice that is nil as long as it is empty; its object -/
def rep {α : Type} (id : Nat) (l : List α) : HV := match l with
  | [] => .nils
  | _ :: _ => .own id l.length
def slot {α : Type} (sz : Nat) (f : α → HV) (l : List α) : HO := match l with
  | [] => .dead
  | _ :: _ => .arr sz (List.map f l) true
theorem rep_nil {α : Type} {l : List α} (h : l = []) {id : Nat} : rep id l = .nils := by subst h; rfl
theorem rep_cons {α : Type} {l : List α} (h : ¬ l = []) {id : Nat} : rep id l = .own id l.length := by cases l; exact absurd rfl h; rfl
theorem slot_nil {α : Type} {l : List α} (h : l = []) {sz : Nat} {f : α → HV} : slot sz f l = .dead := by subst h; rfl
theorem slot_cons {α : Type} {l : List α} (h : ¬ l = []) {sz : Nat} {f : α → HV} : slot sz f l = .arr sz (List.map f l) true := by cases l; exact absurd rfl h; rfl
theorem rep_nil0 {α : Type} {id : Nat} : rep id ([] : List α) = .nils := rfl
theorem rep_app {α : Type} {l : List α} {x : α} {id : Nat} : rep id (l ++ [x]) = .own id (l.length + 1) := by cases l <;> simp [rep]
theorem rep_one {α : Type} {x : α} {id : Nat} : rep id [x] = .own id 1 := rfl
theorem slot_nil0 {α : Type} {sz : Nat} {f : α → HV} : slot sz f ([] : List α) = .dead := rfl
theorem slot_app {α : Type} {l : List α} {x : α} {sz : Nat} {f : α → HV} : slot sz f (l ++ [x]) = .arr sz (List.map f l ++ [f x]) true := by cases l <;> simp [slot]
theorem slot_one {α : Type} {x : α} {sz : Nat} {f : α → HV} : slot sz f [x] = .arr sz [f x] true := rfl

def Cl (h : HV) : Prop := (∀ σ, h.ren σ = h) ∧ ∀ n, Scd n h
def ClL (l : List HV) : Prop := (∀ σ, renL σ l = l) ∧ ∀ n, ScdL n l
theorem ClL.nil : ClL [] := ⟨fun _ => rfl, fun _ => trivial⟩
theorem ClL.cons {x : HV} {l : List HV} (h : Cl x) (h' : ClL l) : ClL (x :: l) := ⟨fun σ => by rw [renL, h.1, h'.1], fun n => ⟨h.2 n, h'.2 n⟩⟩
theorem clapp {a b : List HV} (h : ClL a) (h' : ClL b) : ClL (a ++ b) := ⟨fun σ => by rw [renL_append, h.1, h'.1], fun n => by
  rw [ScdL_iff]; intro x hx
  rcases List.mem_append.1 hx with hx | hx
  · exact ScdL_iff.1 (h.2 n) x hx
  · exact ScdL_iff.1 (h'.2 n) x hx⟩
theorem cl_of {l : List HV} (h : ClL l) : Cl (.agg l) := ⟨fun σ => by rw [HV.ren, h.1], fun n => h.2 n⟩
theorem cl_sl {l : List HV} (h : ClL l) : Cl (.sl l) := ⟨fun σ => by rw [HV.ren, h.1], fun n => h.2 n⟩
theorem cl_cells {x : HV} (h : Cl x) : ClL x.cells := ⟨fun σ => by rw [← cells_ren, h.1], fun n => ScdL_iff.2 (Scd_cells (h.2 n))⟩
theorem cl_int (k : IntKind) (i : Int) : Cl (.int k i) := ⟨fun _ => rfl, fun _ => trivial⟩
theorem cl_bool (b : Bool) : Cl (.bool b) := ⟨fun _ => rfl, fun _ => trivial⟩
theorem cl_str (s : ByteArray) : Cl (.str s) := ⟨fun _ => rfl, fun _ => trivial⟩
theorem cll_of {α : Type} {f : α → HV} (h : ∀ x, Cl (f x)) : ∀ l : List α, ClL (List.map f l)
  | [] => .nil
  | x :: l => .cons (h x) (cll_of h l)
theorem rl_str (σ : Nat → Nat) (l : List ByteArray) : renL σ (List.map HV.str l) = List.map HV.str l := (cll_of cl_str l).1 σ
theorem rl_bool (σ : Nat → Nat) (l : List Bool) : renL σ (List.map HV.bool l) = List.map HV.bool l := (cll_of cl_bool l).1 σ
theorem rl_int (σ : Nat → Nat) (k : IntKind) (l : List Int) : renL σ (List.map (HV.int k) l) = List.map (HV.int k) l := (cll_of (cl_int k) l).1 σ
theorem sl_str (n : Nat) (l : List ByteArray) : ScdL n (List.map HV.str l) = True := eq_true ((cll_of cl_str l).2 n)
theorem sl_bool (n : Nat) (l : List Bool) : ScdL n (List.map HV.bool l) = True := eq_true ((cll_of cl_bool l).2 n)
theorem sl_int (n : Nat) (k : IntKind) (l : List Int) : ScdL n (List.map (HV.int k) l) = True := eq_true ((cll_of (cl_int k) l).2 n)
theorem rl_strs (σ : Nat → Nat) (l : List (List ByteArray)) : renL σ (List.map (fun y => HV.sl (List.map HV.str y)) l) = List.map (fun y => HV.sl (List.map HV.str y)) l := (cll_of (fun y => cl_sl (cll_of cl_str y)) l).1 σ
theorem sl_strs (n : Nat) (l : List (List ByteArray)) : ScdL n (List.map (fun y => HV.sl (List.map HV.str y)) l) = True := eq_true ((cll_of (fun y => cl_sl (cll_of cl_str y)) l).2 n)
theorem ScdL_app (n : Nat) (a b : List HV) : ScdL n (a ++ b) = (ScdL n a ∧ ScdL n b) := by
  apply propext; simp only [ScdL_iff]; simp only [List.mem_append]
  exact ⟨fun h => ⟨fun x hx => h x (.inl hx), fun x hx => h x (.inr hx)⟩, fun h x hx => hx.elim (h.1 x) (h.2 x)⟩
theorem renL_set (σ : Nat → Nat) (l : List HV) (i : Nat) (x : HV) : renL σ (l.set i x) = (renL σ l).set i (x.ren σ) := by simp [renL_map, List.map_set]
theorem renL_rep (σ : Nat → Nat) (n : Nat) (x : HV) : renL σ (List.replicate n x) = List.replicate n (x.ren σ) := by simp [renL_map]
theorem ScdL_set (n : Nat) (l : List HV) (i : Nat) (x : HV) (h1 : ScdL n l) (h2 : Scd n x) : ScdL n (l.set i x) = True := by
  apply eq_true; rw [ScdL_iff] at *; intro y hy
  rcases List.mem_or_eq_of_mem_set hy with hy | rfl
  · exact h1 y hy
  · exact h2
theorem ScdL_rep (n k : Nat) (x : HV) (h : Scd n x) : ScdL n (List.replicate k x) = True := by
  apply eq_true; rw [ScdL_iff]; intro y hy; rw [List.eq_of_mem_replicate hy]; exact h
theorem rn_agg (σ : Nat → Nat) (l : List HV) : (HV.agg l).ren σ = .agg (renL σ l) := rfl
theorem rn_tup (σ : Nat → Nat) (l : List HV) : (HV.tup l).ren σ = .tup (renL σ l) := rfl
theorem rn_sl (σ : Nat → Nat) (l : List HV) : (HV.sl l).ren σ = .sl (renL σ l) := rfl
theorem rn_int (σ : Nat → Nat) (k i) : (HV.int k i).ren σ = .int k i := rfl
theorem rn_bool (σ : Nat → Nat) (i) : (HV.bool i).ren σ = .bool i := rfl
theorem rn_str (σ : Nat → Nat) (i) : (HV.str i).ren σ = .str i := rfl
theorem rn_nilp (σ : Nat → Nat) : HV.nilp.ren σ = .nilp := rfl
theorem rn_nils (σ : Nat → Nat) : HV.nils.ren σ = .nils := rfl
theorem rn_nilf (σ : Nat → Nat) : HV.nilf.ren σ = .nilf := rfl
theorem rn_ptr (σ : Nat → Nat) (a b c d) : (HV.ptr a b c d).ren σ = .ptr (σ a) b c d := rfl
theorem rn_own (σ : Nat → Nat) (a b) : (HV.own a b).ren σ = .own (σ a) b := rfl
theorem rn_otl (σ : Nat → Nat) (a b c) : (HV.otl a b c).ren σ = .otl (σ a) b c := rfl
theorem rn_eptr (σ : Nat → Nat) (a b c d) : (HV.eptr a b c d).ren σ = .eptr (renL σ a) b c d := rfl
theorem rn_fn (σ : Nat → Nat) (a b c) : (HV.fn a b c).ren σ = .fn a (renL σ b) (renL σ c) := rfl
theorem rl_nil (σ : Nat → Nat) : renL σ [] = [] := rfl
theorem rl_cons (σ : Nat → Nat) (x : HV) (l : List HV) : renL σ (x :: l) = x.ren σ :: renL σ l := rfl
theorem ro_box (σ : Nat → Nat) (x : HV) : (HO.box x).ren σ = .box (x.ren σ) := rfl
theorem ro_arr (σ : Nat → Nat) (n l m) : (HO.arr n l m).ren σ = .arr n (renL σ l) m := rfl
theorem ro_dead (σ : Nat → Nat) : HO.dead.ren σ = .dead := rfl
theorem ro_slot (σ : Nat → Nat) {α : Type} (sz : Nat) (f : α → HV) (l : List α) (h : renL σ (List.map f l) = List.map f l) : (slot sz f l).ren σ = slot sz f l := by
  cases l with
  | nil => rfl
  | cons x l => simp only [slot, HO.ren, h]
theorem rn_rep (σ : Nat → Nat) {α : Type} (id : Nat) (l : List α) : (rep id l).ren σ = rep (σ id) l := by cases l <;> rfl
theorem sc_rep {α : Type} (n id : Nat) (l : List α) (h : id < n) : Scd n (rep id l) = True := by cases l <;> simp [rep, Scd, h]
theorem sc_slot {α : Type} (n sz : Nat) (f : α → HV) (l : List α) (h : ScdL n (List.map f l) = True) : ScdO n (slot sz f l) = True := by
  cases l with
  | nil => simp [slot, ScdO]
  | cons x l => simp only [slot, ScdO, h]
theorem at_0 (a : Nat) (l : List Nat) : at_ (a :: l) 0 = a := rfl
theorem at_s (a : Nat) (l : List Nat) (n : Nat) : at_ (a :: l) (n + 1) = at_ l n := by simp [at_]

theorem HCp.callE {P : Program} {f : FuncId} {args args' : List HV} {r : HV} {st : St} {k : HV → St → Prop} (h : HCp P f args r) (he : args' = args) (ha : ScdL 0 args) (hr : Scd 0 r) (hk : k r st) : HC P f args' st k := by
  subst he; exact h.call ha hr hk

def RetP (rs : List (Nat × Option (Bool × Nat))) (r : HV) (env : Env) (st : St) : Prop := oP (resE env st rs) fun h => (cnR st h).1 = r
theorem RetP_def (rs r env st) : RetP rs r env st = oP (resE env st rs) fun h => (cnR st h).1 = r := propext Iff.rfl
theorem funQ_rp {rs : List (Nat × Option (Bool × Nat))} {r : HV} {env : Env} {st : St} : funQ rs (fun h st => (cnR st h).1 = r) .ret env st = RetP rs r env st := propext Iff.rfl
theorem funQ_np {rs : List (Nat × Option (Bool × Nat))} {r : HV} {env : Env} {st : St} : funQ rs (fun h st => (cnR st h).1 = r) .normal env st = RetP rs r env st := propext Iff.rfl

section
variable {P : Program} {fz : Bool} {env : Env} {st : St}
theorem o_bslice (sz n z parts k) : vcOp P fz env st (.bslice sz n z parts) k = oP (evs env (parts.map (·.2))) fun vs => parts.map (·.1) = List.range n ∧ (∀ v ∈ (vcOp.cnL' fz st vs).1, tup? v = false) ∧ (∀ v ∈ (vcOp.cnL' fz st vs).1, v.cells.length = sz) ∧ z.length = sz ∧ 0 < sz ∧ n * sz ≤ 16777216 ∧ k (.own (vcOp.cnL' fz st vs).2.length n) ((vcOp.cnL' fz st vs).2 ++ [.arr sz (vcOp.cnL' fz st vs).1 true]) := by
  simp only [vcOp, oP, nt_iff]
  generalize evs env (parts.map (·.2)) = o
  cases o <;> rfl
theorem o_substr (x lo hi k) : vcOp P fz env st (.substr x lo hi) k = strP (ev env x) fun s => oP (boundOf env 0 lo) fun l => oP (boundOf env s.size hi) fun h => 0 ≤ l ∧ l ≤ h ∧ h ≤ s.size ∧ k (.str (s.extract l.toNat h.toNat)) st := by
  simp only [vcOp, strP, oP]
  generalize ev env x = o
  cases o with
  | none => rfl
  | some v =>
    cases v with
    | str s =>
      simp only
      generalize boundOf env 0 lo = a
      generalize boundOf env s.size hi = b
      cases a <;> cases b <;> rfl
    | _ => rfl
theorem o_append (sz bytes x y k) : vcOp P fz env st (.append sz bytes x y) k = oP (ev env x) fun a => oP (ev env y) fun b => oP (elemsOf st b) fun l2 => bytes ≤ 256 ∧ 0 < sz ∧ (∀ v ∈ l2, v.cells.length = sz) ∧ (match a with
        | .nils => if l2 = [] then (k .nils st ∨ k (.own st.length 0) (st ++ [.arr sz [] true])) else (l2.length ≤ grow ∧ k (.own st.length l2.length) (st ++ [.arr sz l2 true]))
        | .sl l => l2 = [] ∧ k (.sl l) st
        | .own id n => match st[id]? with
          | some (.arr sz' l m) => sz' = sz ∧ l.length = n ∧ (if l2 = [] then k (.own id n) st else (n + l2.length ≤ grow ∧ k (.own id (n + l2.length)) (st.set id (.arr sz (l ++ l2) m))))
          | _ => False
        | _ => False) := by
  simp only [vcOp, oP]
  generalize ev env x = o
  generalize ev env y = o1
  cases o with
  | none => cases o1 <;> rfl
  | some a =>
    cases o1 with
    | none => rfl
    | some b =>
      simp only
      generalize elemsOf st b = q
      cases q <;> rfl
end
section
variable {fz : Bool} {env : Env} {st : St}
theorem e_gt {d : Option Nat} {op : HOp} {s : Nat} {b : Bool} (h : lk env s = some (.bool b)) : eff fz env st ⟨d, op, some (s, b)⟩ = qv fz env st op := by simp only [eff, h]; cases b <;> rfl
theorem e_gf1 {d : Option Nat} {op : HOp} {s : Nat} (h : lk env s = some (.bool true)) : eff fz env st ⟨d, op, some (s, false)⟩ = some undefH := by simp only [eff, h]; rfl
theorem e_gf2 {d : Option Nat} {op : HOp} {s : Nat} (h : lk env s = some (.bool false)) : eff fz env st ⟨d, op, some (s, true)⟩ = some undefH := by simp only [eff, h]; rfl
theorem e_gu {d : Option Nat} {op : HOp} {s : Nat} {b : Bool} (h : lk env s = some (.tup [])) : eff fz env st ⟨d, op, some (s, b)⟩ = some undefH := by simp only [eff, h]
end
theorem allC_map {α : Type} {f : α → HV} {n : Nat} {l : List α} (h : ∀ x, (f x).cells.length = n) : (∀ v ∈ List.map f l, v.cells.length = n) = True := by
  apply eq_true; intro v hv; obtain ⟨x, _, rfl⟩ := List.mem_map.1 hv; exact h x
theorem all_app {p : HV → Prop} {a b : List HV} : (∀ v ∈ a ++ b, p v) = ((∀ v ∈ a, p v) ∧ ∀ v ∈ b, p v) := by
  apply propext; simp only [List.mem_append]
  exact ⟨fun h => ⟨fun x hx => h x (.inl hx), fun x hx => h x (.inr hx)⟩, fun h x hx => hx.elim (h.1 x) (h.2 x)⟩
theorem all_cons {p : HV → Prop} {a : HV} {b : List HV} : (∀ v ∈ a :: b, p v) = (p a ∧ ∀ v ∈ b, p v) := by
  apply propext; simp only [List.mem_cons, forall_eq_or_imp]
theorem all_nil {p : HV → Prop} : (∀ v ∈ ([] : List HV), p v) = True := by simp
theorem sg0 : (0 ≤ grow) = True := eq_true (by decide)
theorem rg0 : (([] : List Nat) = List.range 0) = True := eq_true (by decide)
theorem sg1 : (1 ≤ grow) = True := eq_true (by decide)
theorem rg1 : ([0] = List.range 1) = True := eq_true (by decide)
theorem sg2 : (2 ≤ grow) = True := eq_true (by decide)
theorem rg2 : ([0, 1] = List.range 2) = True := eq_true (by decide)
theorem sg3 : (3 ≤ grow) = True := eq_true (by decide)
theorem rg3 : ([0, 1, 2] = List.range 3) = True := eq_true (by decide)
theorem sg4 : (4 ≤ grow) = True := eq_true (by decide)
theorem rg4 : ([0, 1, 2, 3] = List.range 4) = True := eq_true (by decide)
theorem sg5 : (5 ≤ grow) = True := eq_true (by decide)
theorem rg5 : ([0, 1, 2, 3, 4] = List.range 5) = True := eq_true (by decide)
theorem sg6 : (6 ≤ grow) = True := eq_true (by decide)
theorem rg6 : ([0, 1, 2, 3, 4, 5] = List.range 6) = True := eq_true (by decide)
theorem sg7 : (7 ≤ grow) = True := eq_true (by decide)
theorem rg7 : ([0, 1, 2, 3, 4, 5, 6] = List.range 7) = True := eq_true (by decide)
theorem sg8 : (8 ≤ grow) = True := eq_true (by decide)
theorem rg8 : ([0, 1, 2, 3, 4, 5, 6, 7] = List.range 8) = True := eq_true (by decide)
theorem sg9 : (9 ≤ grow) = True := eq_true (by decide)
theorem rg9 : ([0, 1, 2, 3, 4, 5, 6, 7, 8] = List.range 9) = True := eq_true (by decide)
theorem sg10 : (10 ≤ grow) = True := eq_true (by decide)
theorem rg10 : ([0, 1, 2, 3, 4, 5, 6, 7, 8, 9] = List.range 10) = True := eq_true (by decide)
theorem sg11 : (11 ≤ grow) = True := eq_true (by decide)
theorem rg11 : ([0, 1, 2, 3, 4, 5, 6, 7, 8, 9, 10] = List.range 11) = True := eq_true (by decide)
theorem sg12 : (12 ≤ grow) = True := eq_true (by decide)
theorem rg12 : ([0, 1, 2, 3, 4, 5, 6, 7, 8, 9, 10, 11] = List.range 12) = True := eq_true (by decide)
theorem sg13 : (13 ≤ grow) = True := eq_true (by decide)
theorem rg13 : ([0, 1, 2, 3, 4, 5, 6, 7, 8, 9, 10, 11, 12] = List.range 13) = True := eq_true (by decide)
theorem sg14 : (14 ≤ grow) = True := eq_true (by decide)
theorem rg14 : ([0, 1, 2, 3, 4, 5, 6, 7, 8, 9, 10, 11, 12, 13] = List.range 14) = True := eq_true (by decide)
theorem sg15 : (15 ≤ grow) = True := eq_true (by decide)
theorem rg15 : ([0, 1, 2, 3, 4, 5, 6, 7, 8, 9, 10, 11, 12, 13, 14] = List.range 15) = True := eq_true (by decide)
theorem sg16 : (16 ≤ grow) = True := eq_true (by decide)
theorem rg16 : ([0, 1, 2, 3, 4, 5, 6, 7, 8, 9, 10, 11, 12, 13, 14, 15] = List.range 16) = True := eq_true (by decide)
theorem sg17 : (17 ≤ grow) = True := eq_true (by decide)
theorem rg17 : ([0, 1, 2, 3, 4, 5, 6, 7, 8, 9, 10, 11, 12, 13, 14, 15, 16] = List.range 17) = True := eq_true (by decide)
theorem sg18 : (18 ≤ grow) = True := eq_true (by decide)
theorem rg18 : ([0, 1, 2, 3, 4, 5, 6, 7, 8, 9, 10, 11, 12, 13, 14, 15, 16, 17] = List.range 18) = True := eq_true (by decide)
theorem sg19 : (19 ≤ grow) = True := eq_true (by decide)
theorem rg19 : ([0, 1, 2, 3, 4, 5, 6, 7, 8, 9, 10, 11, 12, 13, 14, 15, 16, 17, 18] = List.range 19) = True := eq_true (by decide)
theorem sg20 : (20 ≤ grow) = True := eq_true (by decide)
theorem rg20 : ([0, 1, 2, 3, 4, 5, 6, 7, 8, 9, 10, 11, 12, 13, 14, 15, 16, 17, 18, 19] = List.range 20) = True := eq_true (by decide)
theorem sg21 : (21 ≤ grow) = True := eq_true (by decide)
theorem rg21 : ([0, 1, 2, 3, 4, 5, 6, 7, 8, 9, 10, 11, 12, 13, 14, 15, 16, 17, 18, 19, 20] = List.range 21) = True := eq_true (by decide)
theorem sg22 : (22 ≤ grow) = True := eq_true (by decide)
theorem rg22 : ([0, 1, 2, 3, 4, 5, 6, 7, 8, 9, 10, 11, 12, 13, 14, 15, 16, 17, 18, 19, 20, 21] = List.range 22) = True := eq_true (by decide)
theorem sg23 : (23 ≤ grow) = True := eq_true (by decide)
theorem rg23 : ([0, 1, 2, 3, 4, 5, 6, 7, 8, 9, 10, 11, 12, 13, 14, 15, 16, 17, 18, 19, 20, 21, 22] = List.range 23) = True := eq_true (by decide)
theorem sg24 : (24 ≤ grow) = True := eq_true (by decide)
theorem rg24 : ([0, 1, 2, 3, 4, 5, 6, 7, 8, 9, 10, 11, 12, 13, 14, 15, 16, 17, 18, 19, 20, 21, 22, 23] = List.range 24) = True := eq_true (by decide)
theorem sg25 : (25 ≤ grow) = True := eq_true (by decide)
theorem rg25 : ([0, 1, 2, 3, 4, 5, 6, 7, 8, 9, 10, 11, 12, 13, 14, 15, 16, 17, 18, 19, 20, 21, 22, 23, 24] = List.range 25) = True := eq_true (by decide)
theorem sg26 : (26 ≤ grow) = True := eq_true (by decide)
theorem rg26 : ([0, 1, 2, 3, 4, 5, 6, 7, 8, 9, 10, 11, 12, 13, 14, 15, 16, 17, 18, 19, 20, 21, 22, 23, 24, 25] = List.range 26) = True := eq_true (by decide)
theorem sg27 : (27 ≤ grow) = True := eq_true (by decide)
theorem rg27 : ([0, 1, 2, 3, 4, 5, 6, 7, 8, 9, 10, 11, 12, 13, 14, 15, 16, 17, 18, 19, 20, 21, 22, 23, 24, 25, 26] = List.range 27) = True := eq_true (by decide)
theorem sg28 : (28 ≤ grow) = True := eq_true (by decide)
theorem rg28 : ([0, 1, 2, 3, 4, 5, 6, 7, 8, 9, 10, 11, 12, 13, 14, 15, 16, 17, 18, 19, 20, 21, 22, 23, 24, 25, 26, 27] = List.range 28) = True := eq_true (by decide)
theorem sg29 : (29 ≤ grow) = True := eq_true (by decide)
theorem rg29 : ([0, 1, 2, 3, 4, 5, 6, 7, 8, 9, 10, 11, 12, 13, 14, 15, 16, 17, 18, 19, 20, 21, 22, 23, 24, 25, 26, 27, 28] = List.range 29) = True := eq_true (by decide)
theorem sg30 : (30 ≤ grow) = True := eq_true (by decide)
theorem rg30 : ([0, 1, 2, 3, 4, 5, 6, 7, 8, 9, 10, 11, 12, 13, 14, 15, 16, 17, 18, 19, 20, 21, 22, 23, 24, 25, 26, 27, 28, 29] = List.range 30) = True := eq_true (by decide)
theorem sg31 : (31 ≤ grow) = True := eq_true (by decide)
theorem rg31 : ([0, 1, 2, 3, 4, 5, 6, 7, 8, 9, 10, 11, 12, 13, 14, 15, 16, 17, 18, 19, 20, 21, 22, 23, 24, 25, 26, 27, 28, 29, 30] = List.range 31) = True := eq_true (by decide)
theorem sg32 : (32 ≤ grow) = True := eq_true (by decide)
theorem rg32 : ([0, 1, 2, 3, 4, 5, 6, 7, 8, 9, 10, 11, 12, 13, 14, 15, 16, 17, 18, 19, 20, 21, 22, 23, 24, 25, 26, 27, 28, 29, 30, 31] = List.range 32) = True := eq_true (by decide)
theorem sg33 : (33 ≤ grow) = True := eq_true (by decide)
theorem rg33 : ([0, 1, 2, 3, 4, 5, 6, 7, 8, 9, 10, 11, 12, 13, 14, 15, 16, 17, 18, 19, 20, 21, 22, 23, 24, 25, 26, 27, 28, 29, 30, 31, 32] = List.range 33) = True := eq_true (by decide)
theorem sg34 : (34 ≤ grow) = True := eq_true (by decide)
theorem rg34 : ([0, 1, 2, 3, 4, 5, 6, 7, 8, 9, 10, 11, 12, 13, 14, 15, 16, 17, 18, 19, 20, 21, 22, 23, 24, 25, 26, 27, 28, 29, 30, 31, 32, 33] = List.range 34) = True := eq_true (by decide)
theorem small_grow {n : Nat} (h : n ≤ 1000000 := by decide) : (n ≤ grow) = True := eq_true (by unfold grow; omega)
end HL
