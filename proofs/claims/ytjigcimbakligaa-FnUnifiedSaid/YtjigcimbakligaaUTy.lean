import Derived.Test.YtjigcimbakligaaHXc
set_option linter.unusedSimpArgs false
set_option linter.unusedVariables false
set_option linter.unusedSectionVars false
namespace W
open Go HL HL.X
set_option linter.unusedVariables false
theorem cl1 {x : HV} (h : Cl x) : ClL [x] := ClL.cons h ClL.nil
structure spec_l1Cur where
  b : List Int
  i : Int
  h : Int
def spec_l1Cur.enc : spec_l1Cur → HV
  | ⟨b_, i_, h_⟩ => .agg ([HV.sl (List.map (HV.int .u8) b_)] ++ ([HV.int .i64 i_] ++ ([HV.int .i64 h_] ++ ([]))))
mutual
theorem spec_l1Cur.cl : ∀ t : spec_l1Cur, Cl (spec_l1Cur.enc t)
  | ⟨b_, i_, h_⟩ => by
    rw [spec_l1Cur.enc]
    exact cl_of (clapp (cl1 (cl_sl (cll_of (fun _ => cl_int _ _) _))) (clapp (cl1 (cl_int _ _)) (clapp (cl1 (cl_int _ _)) (ClL.nil))))
theorem spec_l1Cur.cll : ∀ l : List spec_l1Cur, ClL (List.map spec_l1Cur.enc l)
  | [] => ClL.nil
  | x :: l => ClL.cons (spec_l1Cur.cl x) (spec_l1Cur.cll l)
end
structure Ty where
  K : Int
  S : ByteArray
  N : Int
  L : List Ty
def Ty.enc : Ty → HV
  | ⟨K_, S_, N_, L_⟩ => .agg ([HV.int .i64 K_] ++ ([HV.str S_] ++ ([HV.int .i64 N_] ++ ([HV.sl (List.map Ty.enc L_)] ++ ([])))))
mutual
theorem Ty.cl : ∀ t : Ty, Cl (Ty.enc t)
  | ⟨K_, S_, N_, L_⟩ => by
    rw [Ty.enc]
    exact cl_of (clapp (cl1 (cl_int _ _)) (clapp (cl1 (cl_str _)) (clapp (cl1 (cl_int _ _)) (clapp (cl1 (cl_sl (Ty.cll L_))) (ClL.nil)))))
theorem Ty.cll : ∀ l : List Ty, ClL (List.map Ty.enc l)
  | [] => ClL.nil
  | x :: l => ClL.cons (Ty.cl x) (Ty.cll l)
end
structure impl_unifier where
  table : List Ty
  left : Int
  bad : Bool
def impl_unifier.enc : impl_unifier → HV
  | ⟨table_, left_, bad_⟩ => .agg ([HV.sl (List.map Ty.enc table_)] ++ ([HV.int .i64 left_] ++ ([HV.bool bad_] ++ ([]))))
mutual
theorem impl_unifier.cl : ∀ t : impl_unifier, Cl (impl_unifier.enc t)
  | ⟨table_, left_, bad_⟩ => by
    rw [impl_unifier.enc]
    exact cl_of (clapp (cl1 (cl_sl (Ty.cll table_))) (clapp (cl1 (cl_int _ _)) (clapp (cl1 (cl_bool _)) (ClL.nil))))
theorem impl_unifier.cll : ∀ l : List impl_unifier, ClL (List.map impl_unifier.enc l)
  | [] => ClL.nil
  | x :: l => ClL.cons (impl_unifier.cl x) (impl_unifier.cll l)
end
structure impl_knower where
  table : List Ty
  left : Int
def impl_knower.enc : impl_knower → HV
  | ⟨table_, left_⟩ => .agg ([HV.sl (List.map Ty.enc table_)] ++ ([HV.int .i64 left_] ++ ([])))
mutual
theorem impl_knower.cl : ∀ t : impl_knower, Cl (impl_knower.enc t)
  | ⟨table_, left_⟩ => by
    rw [impl_knower.enc]
    exact cl_of (clapp (cl1 (cl_sl (Ty.cll table_))) (clapp (cl1 (cl_int _ _)) (ClL.nil)))
theorem impl_knower.cll : ∀ l : List impl_knower, ClL (List.map impl_knower.enc l)
  | [] => ClL.nil
  | x :: l => ClL.cons (impl_knower.cl x) (impl_knower.cll l)
end
def S : DSys where
  ty := fun
    | 0 => spec_l1Cur
    | 1 => Ty
    | 2 => impl_unifier
    | 3 => impl_knower
    | _ + 4 => Unit
  fl := fun
    | 0 => [.ls (.int .u8), .int .i64, .int .i64]
    | 1 => [.int .i64, .str, .int .i64, .ls (.st 1)]
    | 2 => [.ls (.st 1), .int .i64, .bool]
    | 3 => [.ls (.st 1), .int .i64]
    | _ + 4 => []
  sz := fun
    | 0 => 3
    | 1 => 4
    | 2 => 3
    | 3 => 2
    | _ + 4 => 0
  get := fun
    | 0, x => (x.b, x.i, x.h, ())
    | 1, x => (x.K, x.S, x.N, x.L, ())
    | 2, x => (x.table, x.left, x.bad, ())
    | 3, x => (x.table, x.left, ())
    | _ + 4, _ => ()
  mks := fun
    | 0, h => spec_l1Cur.mk h.1 h.2.1 h.2.2.1
    | 1, h => Ty.mk h.1 h.2.1 h.2.2.1 h.2.2.2.1
    | 2, h => impl_unifier.mk h.1 h.2.1 h.2.2.1
    | 3, h => impl_knower.mk h.1 h.2.1
    | _ + 4, _ => ()
  enc := fun
    | 0, x => x.enc
    | 1, x => x.enc
    | 2, x => x.enc
    | 3, x => x.enc
    | _ + 4, _ => .agg []
theorem spec_l1Cur.len : ∀ t : spec_l1Cur, (spec_l1Cur.enc t).cells.length = 3 := fun t => by cases t; rw [spec_l1Cur.enc]; simp [HV.cells]
theorem Ty.len : ∀ t : Ty, (Ty.enc t).cells.length = 4 := fun t => by cases t; rw [Ty.enc]; simp [HV.cells]
theorem impl_unifier.len : ∀ t : impl_unifier, (impl_unifier.enc t).cells.length = 3 := fun t => by cases t; rw [impl_unifier.enc]; simp [HV.cells]
theorem impl_knower.len : ∀ t : impl_knower, (impl_knower.enc t).cells.length = 2 := fun t => by cases t; rw [impl_knower.enc]; simp [HV.cells]
theorem S_ok : S.Ok where
  enc := fun i x => by
    match i, x with
    | 0, x => exact (spec_l1Cur.enc.eq_def x).trans (by cases x; rfl)
    | 1, x => exact (Ty.enc.eq_def x).trans (by cases x; rfl)
    | 2, x => exact (impl_unifier.enc.eq_def x).trans (by cases x; rfl)
    | 3, x => exact (impl_knower.enc.eq_def x).trans (by cases x; rfl)
    | _ + 4, _ => rfl
  flat := fun i x => by
    match i, x with
    | 0, x => rfl
    | 1, x => rfl
    | 2, x => rfl
    | 3, x => rfl
    | _ + 4, _ => rfl
  sz := fun i x => by
    match i, x with
    | 0, x => exact spec_l1Cur.len x
    | 1, x => exact Ty.len x
    | 2, x => exact impl_unifier.len x
    | 3, x => exact impl_knower.len x
    | _ + 4, _ => rfl
  gmk := fun i h => by
    match i, h with
    | 0, h => rfl
    | 1, h => rfl
    | 2, h => rfl
    | 3, h => rfl
    | _ + 4, _ => rfl
  cl := fun i x => by
    match i, x with
    | 0, x => exact spec_l1Cur.cl x
    | 1, x => exact Ty.cl x
    | 2, x => exact impl_unifier.cl x
    | 3, x => exact impl_knower.cl x
    | _ + 4, _ => exact cl_of ClL.nil
end W
