import Derived.Test.YtnhdobhfebiggaaDoorHLT
namespace W
open Go HL
structure Ty where
  K : Int
  S : ByteArray
  N : Int
  L : (List Ty)
def Ty.enc : Ty → HV
  | ⟨K_, S_, N_, L_⟩ => .agg ([(HV.int .i64 K_), (HV.str S_), (HV.int .i64 N_), (HV.sl (List.map Ty.enc L_))])
theorem Ty.enc_eq (t : Ty) : Ty.enc t = .agg [(HV.int .i64 t.K), (HV.str t.S), (HV.int .i64 t.N), (HV.sl (List.map Ty.enc t.L))] := by
  obtain ⟨_, _, _, _⟩ := t
  rw [Ty.enc]
  try rfl
mutual
theorem Ty.cl : ∀ t : Ty, Cl (Ty.enc t)
  | ⟨K_, S_, N_, L_⟩ => by
    rw [Ty.enc]
    exact cl_of (ClL.cons (cl_int _ _) (ClL.cons (cl_str _) (ClL.cons (cl_int _ _) (ClL.cons (cl_sl (Ty.cll L_)) ClL.nil))))
theorem Ty.cll : ∀ l : List Ty, ClL (List.map Ty.enc l)
  | [] => ClL.nil
  | x :: l => ClL.cons (Ty.cl x) (Ty.cll l)
end
theorem Ty.rl (σ : Nat → Nat) (l : List Ty) : renL σ (List.map Ty.enc l) = List.map Ty.enc l := (Ty.cll l).1 σ
theorem Ty.rn (σ : Nat → Nat) (t : Ty) : (Ty.enc t).ren σ = Ty.enc t := (Ty.cl t).1 σ
theorem Ty.sc (n : Nat) (t : Ty) : Scd n (Ty.enc t) = True := eq_true ((Ty.cl t).2 n)
theorem Ty.sl (n : Nat) (l : List Ty) : ScdL n (List.map Ty.enc l) = True := eq_true ((Ty.cll l).2 n)
theorem encT : type_of% (@Ty.enc_eq) := @Ty.enc_eq
theorem erT : type_of% (@Ty.rl) := @Ty.rl
theorem esT : type_of% (And.intro (@Ty.sc) (@Ty.sl)) := And.intro (@Ty.sc) (@Ty.sl)
theorem gE : type_of% (And.intro @hgT @encT) := And.intro @hgT @encT
end W
