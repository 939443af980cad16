import Derived.Test.YtnhdobhfebiggaaDoorHLT
namespace W
open Go HL
structure Res where
  K : Int
  S : ByteArray
  N : Int
  L : (List Res)
def Res.enc : Res → HV
  | ⟨K_, S_, N_, L_⟩ => .agg ([(HV.int .i64 K_), (HV.str S_), (HV.int .i64 N_), (HV.sl (List.map Res.enc L_))])
theorem Res.enc_eq (t : Res) : Res.enc t = .agg [(HV.int .i64 t.K), (HV.str t.S), (HV.int .i64 t.N), (HV.sl (List.map Res.enc t.L))] := by
  obtain ⟨_, _, _, _⟩ := t
  rw [Res.enc]
  try rfl
mutual
theorem Res.cl : ∀ t : Res, Cl (Res.enc t)
  | ⟨K_, S_, N_, L_⟩ => by
    rw [Res.enc]
    exact cl_of (ClL.cons (cl_int _ _) (ClL.cons (cl_str _) (ClL.cons (cl_int _ _) (ClL.cons (cl_sl (Res.cll L_)) ClL.nil))))
theorem Res.cll : ∀ l : List Res, ClL (List.map Res.enc l)
  | [] => ClL.nil
  | x :: l => ClL.cons (Res.cl x) (Res.cll l)
end
theorem Res.rl (σ : Nat → Nat) (l : List Res) : renL σ (List.map Res.enc l) = List.map Res.enc l := (Res.cll l).1 σ
theorem Res.rn (σ : Nat → Nat) (t : Res) : (Res.enc t).ren σ = Res.enc t := (Res.cl t).1 σ
theorem Res.sc (n : Nat) (t : Res) : Scd n (Res.enc t) = True := eq_true ((Res.cl t).2 n)
theorem Res.sl (n : Nat) (l : List Res) : ScdL n (List.map Res.enc l) = True := eq_true ((Res.cll l).2 n)
theorem encT : type_of% (@Res.enc_eq) := @Res.enc_eq
theorem erT : type_of% (@Res.rl) := @Res.rl
theorem esT : type_of% (And.intro (@Res.sc) (@Res.sl)) := And.intro (@Res.sc) (@Res.sl)
theorem gE : type_of% (And.intro @hgT @encT) := And.intro @hgT @encT
end W
