/- HL: steps whose rest stands still until a value is there. Nothing of a seat is named here. -/
import Derived.Test.YtoojgahbfpdhgaaHLH
set_option linter.unusedSimpArgs false
set_option linter.unusedVariables false
set_option linter.unusedSectionVars false
namespace HL
open Go
section
variable {P : Program} {fz : Bool} {env : Env} {st : St}
def Kv (P : Program) (fz : Bool) (is : List HIns) (d : Option Nat) (env : Env) (k : Env → St → Prop) (h : HV) (st : St) : Prop := vcOps P fz is (putE env d h) st k
def Kq (P : Program) (fz : Bool) (r : DPlan) (d : Option Nat) (env : Env) (st : St) (k : Env → St → Prop) (h : HV) : Prop := dvc P fz r (putE env d h) st k
def Kl (P : Program) (fz : Bool) (c : List HIns) (r : DPlan) (d : Option Nat) (env : Env) (k : Env → St → Prop) (h : HV) (st : St) : Prop := chkAll fz (putE env d h) st c ∧ dvc P fz r (putE env d h) st k
theorem w_none (d op is k) : vcOps P fz (⟨d, op, none⟩ :: is) env st k = vcOp P fz env st op (Kv P fz is d env k) := propext Iff.rfl
theorem w_gt (d op s b is k) (h : lk env s = some (.bool b)) : vcOps P fz (⟨some d, op, some (s, b)⟩ :: is) env st k = vcOp P fz env st op (Kv P fz is (some d) env k) := v_gt d op s b is k h
theorem w_gnone (op s b is k) : vcOps P fz (⟨none, op, some (s, b)⟩ :: is) env st k = boolP (lk env s) (fun t => bP (t == b) (vcOp P fz env st op (Kv P fz is none env k)) (vcOps P fz is env st k)) (vcOps P fz is env st k) := v_gnone op s b is k
theorem dw_q (d op g r k) : dvc P fz (.q ⟨d, op, g⟩ r) env st k = oP (eff fz env st ⟨d, op, g⟩) (Kq P fz r d env st k) := d_q _ _ _
theorem dw_l (d op g c r m k) : dvc P fz (.l ⟨d, op, g⟩ c r m) env st k = (vcIns P fz env st ⟨d, op, g⟩ (Kl P fz c r d env k) ∧ dvc P fz m env st k) := d_l _ _ _ _ _

theorem Kv_int (is d k) (s : St) (kd : IntKind) (n : Int) : Kv P fz is d env k (.int kd n) s = vcOps P fz is (putE env d (.int kd n)) s k := propext Iff.rfl
theorem Kq_int (r d k) (kd : IntKind) (n : Int) : Kq P fz r d env st k (.int kd n) = dvc P fz r (putE env d (.int kd n)) st k := propext Iff.rfl
theorem Kl_int (cl r d k) (s : St) (kd : IntKind) (n : Int) : Kl P fz cl r d env k (.int kd n) s = (chkAll fz (putE env d (.int kd n)) s cl ∧ dvc P fz r (putE env d (.int kd n)) s k) := propext Iff.rfl
theorem Kv_bool (is d k) (s : St) (b : Bool) : Kv P fz is d env k (.bool b) s = vcOps P fz is (putE env d (.bool b)) s k := propext Iff.rfl
theorem Kq_bool (r d k) (b : Bool) : Kq P fz r d env st k (.bool b) = dvc P fz r (putE env d (.bool b)) st k := propext Iff.rfl
theorem Kl_bool (cl r d k) (s : St) (b : Bool) : Kl P fz cl r d env k (.bool b) s = (chkAll fz (putE env d (.bool b)) s cl ∧ dvc P fz r (putE env d (.bool b)) s k) := propext Iff.rfl
theorem Kv_str (is d k) (s : St) (s0 : ByteArray) : Kv P fz is d env k (.str s0) s = vcOps P fz is (putE env d (.str s0)) s k := propext Iff.rfl
theorem Kq_str (r d k) (s : ByteArray) : Kq P fz r d env st k (.str s) = dvc P fz r (putE env d (.str s)) st k := propext Iff.rfl
theorem Kl_str (cl r d k) (s : St) (s0 : ByteArray) : Kl P fz cl r d env k (.str s0) s = (chkAll fz (putE env d (.str s0)) s cl ∧ dvc P fz r (putE env d (.str s0)) s k) := propext Iff.rfl
theorem Kv_nilp (is d k) (s : St)  : Kv P fz is d env k .nilp s = vcOps P fz is (putE env d .nilp) s k := propext Iff.rfl
theorem Kq_nilp (r d k)  : Kq P fz r d env st k .nilp = dvc P fz r (putE env d .nilp) st k := propext Iff.rfl
theorem Kl_nilp (cl r d k) (s : St)  : Kl P fz cl r d env k .nilp s = (chkAll fz (putE env d .nilp) s cl ∧ dvc P fz r (putE env d .nilp) s k) := propext Iff.rfl
theorem Kv_nils (is d k) (s : St)  : Kv P fz is d env k .nils s = vcOps P fz is (putE env d .nils) s k := propext Iff.rfl
theorem Kq_nils (r d k)  : Kq P fz r d env st k .nils = dvc P fz r (putE env d .nils) st k := propext Iff.rfl
theorem Kl_nils (cl r d k) (s : St)  : Kl P fz cl r d env k .nils s = (chkAll fz (putE env d .nils) s cl ∧ dvc P fz r (putE env d .nils) s k) := propext Iff.rfl
theorem Kv_nilf (is d k) (s : St)  : Kv P fz is d env k .nilf s = vcOps P fz is (putE env d .nilf) s k := propext Iff.rfl
theorem Kq_nilf (r d k)  : Kq P fz r d env st k .nilf = dvc P fz r (putE env d .nilf) st k := propext Iff.rfl
theorem Kl_nilf (cl r d k) (s : St)  : Kl P fz cl r d env k .nilf s = (chkAll fz (putE env d .nilf) s cl ∧ dvc P fz r (putE env d .nilf) s k) := propext Iff.rfl
theorem Kv_ptr (is d k) (s : St) (a b c d0 : Nat) : Kv P fz is d env k (.ptr a b c d0) s = vcOps P fz is (putE env d (.ptr a b c d0)) s k := propext Iff.rfl
theorem Kq_ptr (r d k) (a b c d0 : Nat) : Kq P fz r d env st k (.ptr a b c d0) = dvc P fz r (putE env d (.ptr a b c d0)) st k := propext Iff.rfl
theorem Kl_ptr (cl r d k) (s : St) (a b c d0 : Nat) : Kl P fz cl r d env k (.ptr a b c d0) s = (chkAll fz (putE env d (.ptr a b c d0)) s cl ∧ dvc P fz r (putE env d (.ptr a b c d0)) s k) := propext Iff.rfl
theorem Kv_eptr (is d k) (s : St) (l : List HV) (b c d0 : Nat) : Kv P fz is d env k (.eptr l b c d0) s = vcOps P fz is (putE env d (.eptr l b c d0)) s k := propext Iff.rfl
theorem Kq_eptr (r d k) (l : List HV) (b c d0 : Nat) : Kq P fz r d env st k (.eptr l b c d0) = dvc P fz r (putE env d (.eptr l b c d0)) st k := propext Iff.rfl
theorem Kl_eptr (cl r d k) (s : St) (l : List HV) (b c d0 : Nat) : Kl P fz cl r d env k (.eptr l b c d0) s = (chkAll fz (putE env d (.eptr l b c d0)) s cl ∧ dvc P fz r (putE env d (.eptr l b c d0)) s k) := propext Iff.rfl
theorem Kv_sl (is d k) (s : St) (l : List HV) : Kv P fz is d env k (.sl l) s = vcOps P fz is (putE env d (.sl l)) s k := propext Iff.rfl
theorem Kq_sl (r d k) (l : List HV) : Kq P fz r d env st k (.sl l) = dvc P fz r (putE env d (.sl l)) st k := propext Iff.rfl
theorem Kl_sl (cl r d k) (s : St) (l : List HV) : Kl P fz cl r d env k (.sl l) s = (chkAll fz (putE env d (.sl l)) s cl ∧ dvc P fz r (putE env d (.sl l)) s k) := propext Iff.rfl
theorem Kv_own (is d k) (s : St) (a b : Nat) : Kv P fz is d env k (.own a b) s = vcOps P fz is (putE env d (.own a b)) s k := propext Iff.rfl
theorem Kq_own (r d k) (a b : Nat) : Kq P fz r d env st k (.own a b) = dvc P fz r (putE env d (.own a b)) st k := propext Iff.rfl
theorem Kl_own (cl r d k) (s : St) (a b : Nat) : Kl P fz cl r d env k (.own a b) s = (chkAll fz (putE env d (.own a b)) s cl ∧ dvc P fz r (putE env d (.own a b)) s k) := propext Iff.rfl
theorem Kv_otl (is d k) (s : St) (a b c : Nat) : Kv P fz is d env k (.otl a b c) s = vcOps P fz is (putE env d (.otl a b c)) s k := propext Iff.rfl
theorem Kq_otl (r d k) (a b c : Nat) : Kq P fz r d env st k (.otl a b c) = dvc P fz r (putE env d (.otl a b c)) st k := propext Iff.rfl
theorem Kl_otl (cl r d k) (s : St) (a b c : Nat) : Kl P fz cl r d env k (.otl a b c) s = (chkAll fz (putE env d (.otl a b c)) s cl ∧ dvc P fz r (putE env d (.otl a b c)) s k) := propext Iff.rfl
theorem Kv_agg (is d k) (s : St) (l : List HV) : Kv P fz is d env k (.agg l) s = vcOps P fz is (putE env d (.agg l)) s k := propext Iff.rfl
theorem Kq_agg (r d k) (l : List HV) : Kq P fz r d env st k (.agg l) = dvc P fz r (putE env d (.agg l)) st k := propext Iff.rfl
theorem Kl_agg (cl r d k) (s : St) (l : List HV) : Kl P fz cl r d env k (.agg l) s = (chkAll fz (putE env d (.agg l)) s cl ∧ dvc P fz r (putE env d (.agg l)) s k) := propext Iff.rfl
theorem Kv_tup (is d k) (s : St) (l : List HV) : Kv P fz is d env k (.tup l) s = vcOps P fz is (putE env d (.tup l)) s k := propext Iff.rfl
theorem Kq_tup (r d k) (l : List HV) : Kq P fz r d env st k (.tup l) = dvc P fz r (putE env d (.tup l)) st k := propext Iff.rfl
theorem Kl_tup (cl r d k) (s : St) (l : List HV) : Kl P fz cl r d env k (.tup l) s = (chkAll fz (putE env d (.tup l)) s cl ∧ dvc P fz r (putE env d (.tup l)) s k) := propext Iff.rfl
theorem Kv_fn (is d k) (s : St) (f : FuncId) (a b : List HV) : Kv P fz is d env k (.fn f a b) s = vcOps P fz is (putE env d (.fn f a b)) s k := propext Iff.rfl
theorem Kq_fn (r d k) (f : FuncId) (a b : List HV) : Kq P fz r d env st k (.fn f a b) = dvc P fz r (putE env d (.fn f a b)) st k := propext Iff.rfl
theorem Kl_fn (cl r d k) (s : St) (f : FuncId) (a b : List HV) : Kl P fz cl r d env k (.fn f a b) s = (chkAll fz (putE env d (.fn f a b)) s cl ∧ dvc P fz r (putE env d (.fn f a b)) s k) := propext Iff.rfl
theorem Kv_rep (is d k) (s : St) (i : Nat) {α : Type} (l : List α) : Kv P fz is d env k (rep i l) s = vcOps P fz is (putE env d (rep i l)) s k := propext Iff.rfl
theorem Kq_rep (r d k) (i : Nat) {α : Type} (l : List α) : Kq P fz r d env st k (rep i l) = dvc P fz r (putE env d (rep i l)) st k := propext Iff.rfl
theorem Kl_rep (cl r d k) (s : St) (i : Nat) {α : Type} (l : List α) : Kl P fz cl r d env k (rep i l) s = (chkAll fz (putE env d (rep i l)) s cl ∧ dvc P fz r (putE env d (rep i l)) s k) := propext Iff.rfl
end
theorem ScdL_repT (n k : Nat) (x : HV) (h : Scd n x = True) : ScdL n (List.replicate k x) = True := ScdL_rep n k x (of_eq_true h)
theorem renL_take (σ : Nat → Nat) : ∀ (k : Nat) (l : List HV), renL σ (l.take k) = (renL σ l).take k
  | 0, l => by simp [renL]
  | k + 1, [] => by simp [renL]
  | k + 1, x :: l => by simp [renL, renL_take σ k l]
theorem renL_drop (σ : Nat → Nat) : ∀ (k : Nat) (l : List HV), renL σ (l.drop k) = (renL σ l).drop k
  | 0, l => by simp
  | k + 1, [] => by simp [renL]
  | k + 1, x :: l => by simp [renL, renL_drop σ k l]
theorem ScdL_takeT (n k : Nat) (l : List HV) (h : ScdL n l = True) : ScdL n (l.take k) = True := by
  apply eq_true; rw [ScdL_iff]; intro y hy; exact (ScdL_iff.1 (of_eq_true h)) y (List.mem_of_mem_take hy)
theorem ScdL_dropT (n k : Nat) (l : List HV) (h : ScdL n l = True) : ScdL n (l.drop k) = True := by
  apply eq_true; rw [ScdL_iff]; intro y hy; exact (ScdL_iff.1 (of_eq_true h)) y (List.mem_of_mem_drop hy)
theorem ScdL_repS (n k : Nat) (s : ByteArray) : ScdL n (List.replicate k (HV.str s)) = True := ScdL_rep n k _ trivial
theorem ScdL_repI (n k : Nat) (c : IntKind) (i : Int) : ScdL n (List.replicate k (HV.int c i)) = True := ScdL_rep n k _ trivial
theorem ScdL_repB (n k : Nat) (b : Bool) : ScdL n (List.replicate k (HV.bool b)) = True := ScdL_rep n k _ trivial
theorem ScdL_setS (n : Nat) (l : List HV) (i : Nat) (s : ByteArray) (h1 : ScdL n l = True) : ScdL n (l.set i (HV.str s)) = True := ScdL_set n l i _ (of_eq_true h1) trivial
theorem ScdL_setI (n : Nat) (l : List HV) (i : Nat) (c : IntKind) (s : Int) (h1 : ScdL n l = True) : ScdL n (l.set i (HV.int c s)) = True := ScdL_set n l i _ (of_eq_true h1) trivial
theorem ScdL_setB (n : Nat) (l : List HV) (i : Nat) (s : Bool) (h1 : ScdL n l = True) : ScdL n (l.set i (HV.bool s)) = True := ScdL_set n l i _ (of_eq_true h1) trivial
theorem ScdL_setT (n : Nat) (l : List HV) (i : Nat) (x : HV) (h1 : ScdL n l = True) (h2 : Scd n x = True) : ScdL n (l.set i x) = True := ScdL_set n l i x (of_eq_true h1) (of_eq_true h2)
/-- cells that hang on nothing -/
def flatOk : List HV → Bool
  | [] => true
  | .int _ _ :: r => flatOk r
  | .bool _ :: r => flatOk r
  | .str _ :: r => flatOk r
  | _ => false
theorem flatOk_nil : flatOk [] = true := of_decide_eq_true (by decide)
theorem flatOk_int (c : IntKind) (i : Int) (r : List HV) : flatOk (.int c i :: r) = flatOk r := (id (by cases r <;> simp [flatOk]))
theorem flatOk_bool (i : Bool) (r : List HV) : flatOk (.bool i :: r) = flatOk r := (id (by cases r <;> simp [flatOk]))
theorem flatOk_str (i : ByteArray) (r : List HV) : flatOk (.str i :: r) = flatOk r := (id (by cases r <;> simp [flatOk]))
theorem flatOk_sc {n : Nat} : ∀ {l : List HV}, flatOk l = true → ScdL n l
  | [], _ => trivial
  | .int _ _ :: r, h => ⟨trivial, flatOk_sc (l := r) (by simpa [flatOk] using h)⟩
  | .bool _ :: r, h => ⟨trivial, flatOk_sc (l := r) (by simpa [flatOk] using h)⟩
  | .str _ :: r, h => ⟨trivial, flatOk_sc (l := r) (by simpa [flatOk] using h)⟩
  | .nilp :: r, h => by simp [flatOk] at h
  | .nils :: r, h => by simp [flatOk] at h
  | .nilf :: r, h => by simp [flatOk] at h
  | .ptr _ _ _ _ :: r, h => by simp [flatOk] at h
  | .eptr _ _ _ _ :: r, h => by simp [flatOk] at h
  | .sl _ :: r, h => by simp [flatOk] at h
  | .own _ _ :: r, h => by simp [flatOk] at h
  | .fl _ _ :: r, h => by simp [flatOk] at h
  | .otl _ _ _ :: r, h => by simp [flatOk] at h
  | .agg _ :: r, h => by simp [flatOk] at h
  | .tup _ :: r, h => by simp [flatOk] at h
  | .fn _ _ _ :: r, h => by simp [flatOk] at h
theorem ScdL_setA (n : Nat) (l : List HV) (i : Nat) (cs : List HV) (h1 : ScdL n l = True) (h2 : flatOk cs = true) : ScdL n (l.set i (.agg cs)) = True :=
  ScdL_set n l i _ (of_eq_true h1) (by simp only [Scd]; exact flatOk_sc h2)
theorem ScdL_setA2 (n : Nat) (l : List HV) (i0 : Nat) (c0 : List HV) (i1 : Nat) (c1 : List HV) (h : ScdL n l = True) (g0 : flatOk c0 = true) (g1 : flatOk c1 = true) : ScdL n ((l.set i0 (.agg c0)).set i1 (.agg c1)) = True := ScdL_setA n _ i1 c1 (ScdL_setA n l i0 c0 h g0) g1
theorem ScdL_setA3 (n : Nat) (l : List HV) (i0 : Nat) (c0 : List HV) (i1 : Nat) (c1 : List HV) (i2 : Nat) (c2 : List HV) (h : ScdL n l = True) (g0 : flatOk c0 = true) (g1 : flatOk c1 = true) (g2 : flatOk c2 = true) : ScdL n (((l.set i0 (.agg c0)).set i1 (.agg c1)).set i2 (.agg c2)) = True := ScdL_setA n _ i2 c2 (ScdL_setA2 n l i0 c0 i1 c1 h g0 g1) g2
theorem ScdL_setA4 (n : Nat) (l : List HV) (i0 : Nat) (c0 : List HV) (i1 : Nat) (c1 : List HV) (i2 : Nat) (c2 : List HV) (i3 : Nat) (c3 : List HV) (h : ScdL n l = True) (g0 : flatOk c0 = true) (g1 : flatOk c1 = true) (g2 : flatOk c2 = true) (g3 : flatOk c3 = true) : ScdL n ((((l.set i0 (.agg c0)).set i1 (.agg c1)).set i2 (.agg c2)).set i3 (.agg c3)) = True := ScdL_setA n _ i3 c3 (ScdL_setA3 n l i0 c0 i1 c1 i2 c2 h g0 g1 g2) g3
theorem ScdL_repA (n k : Nat) (l : List HV) (h : flatOk l = true) : ScdL n (List.replicate k (HV.agg l)) = True := ScdL_rep n k _ (flatOk_sc h)
end HL
