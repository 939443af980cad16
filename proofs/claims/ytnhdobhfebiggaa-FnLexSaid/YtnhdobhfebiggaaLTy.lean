import Derived.Test.YtnhdobhfebiggaaHLT
namespace W
open Go HL
structure Tok where
  K : Int
  S : ByteArray
  Line : Int
  Col : Int
def Tok.enc : Tok → HV
  | ⟨K_, S_, Line_, Col_⟩ => .agg ([(HV.int .i64 K_), (HV.str S_), (HV.int .i64 Line_), (HV.int .i64 Col_)])
theorem Tok.enc_eq (t : Tok) : Tok.enc t = .agg [(HV.int .i64 t.K), (HV.str t.S), (HV.int .i64 t.Line), (HV.int .i64 t.Col)] := by
  obtain ⟨_, _, _, _⟩ := t
  rw [Tok.enc]
  try rfl
theorem Tok.cl : ∀ t : Tok, Cl (Tok.enc t)
  | ⟨K_, S_, Line_, Col_⟩ => by
    rw [Tok.enc]
    exact cl_of (ClL.cons (cl_int _ _) (ClL.cons (cl_str _) (ClL.cons (cl_int _ _) (ClL.cons (cl_int _ _) ClL.nil))))
theorem Tok.cll : ∀ l : List Tok, ClL (List.map Tok.enc l)
  | [] => ClL.nil
  | x :: l => ClL.cons (Tok.cl x) (Tok.cll l)
theorem Tok.rl (σ : Nat → Nat) (l : List Tok) : renL σ (List.map Tok.enc l) = List.map Tok.enc l := (Tok.cll l).1 σ
theorem Tok.rn (σ : Nat → Nat) (t : Tok) : (Tok.enc t).ren σ = Tok.enc t := (Tok.cl t).1 σ
theorem Tok.sc (n : Nat) (t : Tok) : Scd n (Tok.enc t) = True := eq_true ((Tok.cl t).2 n)
theorem Tok.sl (n : Nat) (l : List Tok) : ScdL n (List.map Tok.enc l) = True := eq_true ((Tok.cll l).2 n)
structure spec_l1Cur where
  b : (List Int)
  i : Int
  h : Int
def spec_l1Cur.enc : spec_l1Cur → HV
  | ⟨b_, i_, h_⟩ => .agg ([(HV.sl (List.map (HV.int .u8) b_)), (HV.int .i64 i_), (HV.int .i64 h_)])
theorem spec_l1Cur.enc_eq (t : spec_l1Cur) : spec_l1Cur.enc t = .agg [(HV.sl (List.map (HV.int .u8) t.b)), (HV.int .i64 t.i), (HV.int .i64 t.h)] := by
  obtain ⟨_, _, _⟩ := t
  rw [spec_l1Cur.enc]
  try rfl
theorem spec_l1Cur.cl : ∀ t : spec_l1Cur, Cl (spec_l1Cur.enc t)
  | ⟨b_, i_, h_⟩ => by
    rw [spec_l1Cur.enc]
    exact cl_of (ClL.cons (cl_sl (cll_of (fun y => (cl_int _ _)) b_)) (ClL.cons (cl_int _ _) (ClL.cons (cl_int _ _) ClL.nil)))
theorem spec_l1Cur.cll : ∀ l : List spec_l1Cur, ClL (List.map spec_l1Cur.enc l)
  | [] => ClL.nil
  | x :: l => ClL.cons (spec_l1Cur.cl x) (spec_l1Cur.cll l)
theorem spec_l1Cur.rl (σ : Nat → Nat) (l : List spec_l1Cur) : renL σ (List.map spec_l1Cur.enc l) = List.map spec_l1Cur.enc l := (spec_l1Cur.cll l).1 σ
theorem spec_l1Cur.rn (σ : Nat → Nat) (t : spec_l1Cur) : (spec_l1Cur.enc t).ren σ = spec_l1Cur.enc t := (spec_l1Cur.cl t).1 σ
theorem spec_l1Cur.sc (n : Nat) (t : spec_l1Cur) : Scd n (spec_l1Cur.enc t) = True := eq_true ((spec_l1Cur.cl t).2 n)
theorem spec_l1Cur.sl (n : Nat) (l : List spec_l1Cur) : ScdL n (List.map spec_l1Cur.enc l) = True := eq_true ((spec_l1Cur.cll l).2 n)
theorem encT : type_of% (And.intro (@Tok.enc_eq) (@spec_l1Cur.enc_eq)) := And.intro (@Tok.enc_eq) (@spec_l1Cur.enc_eq)
theorem erT : type_of% (And.intro (@Tok.rl) (@spec_l1Cur.rl)) := And.intro (@Tok.rl) (@spec_l1Cur.rl)
theorem esT : type_of% (And.intro (@Tok.sc) (And.intro (@Tok.sl) (And.intro (@spec_l1Cur.sc) (@spec_l1Cur.sl)))) := And.intro (@Tok.sc) (And.intro (@Tok.sl) (And.intro (@spec_l1Cur.sc) (@spec_l1Cur.sl)))
theorem gE : type_of% (And.intro @hgT @encT) := And.intro @hgT @encT
end W
