import Derived.Test.YtnhdobhfebiggaaHLT
namespace W
open Go HL
structure Tok where
  K : Int
  S : ByteArray
  Line : Int
  Col : Int
def Tok.enc : Tok → HV
  | ⟨K_, S_, Line_, Col_⟩ => .agg ([(HV.int .i64 K_), (HV.str S_), (HV.int .i64 Line_), (HV.int .i64 Col_)])
theorem Tok.enc_eq (t : Tok) : Tok.enc t = .agg [(HV.int .i64 t.K), (HV.str t.S), (HV.int .i64 t.Line), (HV.int .i64 t.Col)] := by
  obtain ⟨_, _, _, _⟩ := t
  rw [Tok.enc]
  try rfl
theorem Tok.cl : ∀ t : Tok, Cl (Tok.enc t)
  | ⟨K_, S_, Line_, Col_⟩ => by
    rw [Tok.enc]
    exact cl_of (ClL.cons (cl_int _ _) (ClL.cons (cl_str _) (ClL.cons (cl_int _ _) (ClL.cons (cl_int _ _) ClL.nil))))
theorem Tok.cll : ∀ l : List Tok, ClL (List.map Tok.enc l)
  | [] => ClL.nil
  | x :: l => ClL.cons (Tok.cl x) (Tok.cll l)
theorem Tok.rl (σ : Nat → Nat) (l : List Tok) : renL σ (List.map Tok.enc l) = List.map Tok.enc l := (Tok.cll l).1 σ
theorem Tok.rn (σ : Nat → Nat) (t : Tok) : (Tok.enc t).ren σ = Tok.enc t := (Tok.cl t).1 σ
theorem Tok.sc (n : Nat) (t : Tok) : Scd n (Tok.enc t) = True := eq_true ((Tok.cl t).2 n)
theorem Tok.sl (n : Nat) (l : List Tok) : ScdL n (List.map Tok.enc l) = True := eq_true ((Tok.cll l).2 n)
theorem encT : type_of% (@Tok.enc_eq) := @Tok.enc_eq
theorem erT : type_of% (@Tok.rl) := @Tok.rl
theorem esT : type_of% (And.intro (@Tok.sc) (@Tok.sl)) := And.intro (@Tok.sc) (@Tok.sl)
theorem gE : type_of% (And.intro @hgT @encT) := And.intro @hgT @encT
end W
