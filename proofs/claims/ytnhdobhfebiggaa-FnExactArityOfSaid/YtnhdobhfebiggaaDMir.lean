import Derived.Test.YtnhdobhfebiggaaDTy
namespace W
open Go HL
set_option linter.unusedVariables false
namespace M
def impl_conOf_L1 (x : (ByteArray × Prog × Int × Data × Int)) : Option (Sum (Con × ByteArray × Bool) Unit) :=
    (if x.2.2.2.2 < ((x.2.2.2.1.Cons.length : Nat) : Int) then (ix x.2.2.2.1.Cons x.2.2.2.2 >>= fun e18 =>
    (if e18.Name = x.1 then some (.inl (e18, x.2.2.2.1.Name, true)) else
    impl_conOf_L1 (x.1, x.2.1, x.2.2.1, x.2.2.2.1, (IntKind.i64.wrap (x.2.2.2.2 + 1))))) else
    some (.inr ()))
  partial_fixpoint
def impl_conOf_L0 (x : (ByteArray × Prog × Int)) : Option (Sum (Con × ByteArray × Bool) Unit) :=
    (if x.2.2 < ((x.2.1.Datas.length : Nat) : Int) then (ix x.2.1.Datas x.2.2 >>= fun e13 =>
    (impl_conOf_L1 (x.1, x.2.1, x.2.2, e13, 0) >>= fun s20 =>
    (match s20 with
    | .inl r21 => some (.inl r21)
    | .inr v22 => impl_conOf_L0 (x.1, x.2.1, (IntKind.i64.wrap (x.2.2 + 1)))))) else
    some (.inr ()))
  partial_fixpoint
def impl_conOf (x : (Prog × ByteArray)) : Option (Con × ByteArray × Bool) :=
    (impl_conOf_L0 (x.2, x.1, 0) >>= fun s23 =>
    (match s23 with
    | .inl r24 => some r24
    | .inr v25 => some ((Con.mk (⟨⟨[]⟩⟩ : ByteArray) []), (⟨⟨[]⟩⟩ : ByteArray), false)))
def impl_isBool (x : ByteArray) : Option Bool :=
    (if x = (⟨⟨[84, 114, 117, 101]⟩⟩ : ByteArray) then some true else
    some (decide (x = (⟨⟨[70, 97, 108, 115, 101]⟩⟩ : ByteArray))))
def impl_ArityOf (x : (Prog × ByteArray)) : Option Int :=
    (impl_conOf (x.1, x.2) >>= fun r1 =>
    (impl_isBool x.2 >>= fun r2 =>
    (if r2 = true then some 0 else
    (if r1.2.2 = true then some ((r1.1.Args.length : Nat) : Int) else
    some (-1)))))
def impl_DataOf (x : (Prog × ByteArray)) : Option ByteArray :=
    (impl_isBool x.2 >>= fun r1 =>
    (if r1 = true then some (⟨⟨[66, 111, 111, 108]⟩⟩ : ByteArray) else
    (impl_conOf (x.1, x.2) >>= fun r3 =>
    some r3.2.1)))
mutual
def laws_eqTy (x : (Ty × Ty)) : Option Bool :=
    (if x.1.K = x.2.K then (if x.1.S = x.2.S then (if x.1.N = x.2.N then (laws_eqTyS (x.1.L, x.2.L) >>= fun r4 =>
    (if r4 = true then some true else
    some false)) else
    some false) else
    some false) else
    some false)
  partial_fixpoint
def laws_eqTyS (x : ((List Ty) × (List Ty))) : Option Bool :=
    (if ((x.1.length : Nat) : Int) = ((x.2.length : Nat) : Int) then (laws_eqTyS_L0 (x.1, x.2, 0) >>= fun s12 =>
    (match s12 with
    | .inl r13 => some r13
    | .inr v14 => some true)) else
    some false)
  partial_fixpoint
def laws_eqTyS_L0 (x : ((List Ty) × (List Ty) × Int)) : Option (Sum Bool Unit) :=
    (if x.2.2 < ((x.1.length : Nat) : Int) then (ix x.1 x.2.2 >>= fun e8 =>
    (ix x.2.1 x.2.2 >>= fun e9 =>
    (laws_eqTy (e8, e9) >>= fun r10 =>
    (if r10 = true then laws_eqTyS_L0 (x.1, x.2.1, (IntKind.i64.wrap (x.2.2 + 1))) else
    some (.inl false))))) else
    some (.inr ()))
  partial_fixpoint
end
def laws_eqCon (x : (Con × Con)) : Option Bool :=
    (if x.1.Name = x.2.Name then (laws_eqTyS (x.1.Args, x.2.Args) >>= fun r2 =>
    (if r2 = true then some true else
    some false)) else
    some false)
def laws_eqConS_L0 (x : ((List Con) × (List Con) × Int)) : Option (Sum Bool Unit) :=
    (if x.2.2 < ((x.1.length : Nat) : Int) then (ix x.1 x.2.2 >>= fun e8 =>
    (ix x.2.1 x.2.2 >>= fun e9 =>
    (laws_eqCon (e8, e9) >>= fun r10 =>
    (if r10 = true then laws_eqConS_L0 (x.1, x.2.1, (IntKind.i64.wrap (x.2.2 + 1))) else
    some (.inl false))))) else
    some (.inr ()))
  partial_fixpoint
def laws_eqConS (x : ((List Con) × (List Con))) : Option Bool :=
    (if ((x.1.length : Nat) : Int) = ((x.2.length : Nat) : Int) then (laws_eqConS_L0 (x.1, x.2, 0) >>= fun s12 =>
    (match s12 with
    | .inl r13 => some r13
    | .inr v14 => some true)) else
    some false)
def laws_eqData (x : (Data × Data)) : Option Bool :=
    (if x.1.Name = x.2.Name then (laws_eqConS (x.1.Cons, x.2.Cons) >>= fun r2 =>
    (if r2 = true then some true else
    some false)) else
    some false)
def laws_eqDataS_L0 (x : ((List Data) × (List Data) × Int)) : Option (Sum Bool Unit) :=
    (if x.2.2 < ((x.1.length : Nat) : Int) then (ix x.1 x.2.2 >>= fun e8 =>
    (ix x.2.1 x.2.2 >>= fun e9 =>
    (laws_eqData (e8, e9) >>= fun r10 =>
    (if r10 = true then laws_eqDataS_L0 (x.1, x.2.1, (IntKind.i64.wrap (x.2.2 + 1))) else
    some (.inl false))))) else
    some (.inr ()))
  partial_fixpoint
def laws_eqDataS (x : ((List Data) × (List Data))) : Option Bool :=
    (if ((x.1.length : Nat) : Int) = ((x.2.length : Nat) : Int) then (laws_eqDataS_L0 (x.1, x.2, 0) >>= fun s12 =>
    (match s12 with
    | .inl r13 => some r13
    | .inr v14 => some true)) else
    some false)
def laws_eqStringS_L0 (x : ((List ByteArray) × (List ByteArray) × Int)) : Option (Sum Bool Unit) :=
    (if x.2.2 < ((x.1.length : Nat) : Int) then (ix x.1 x.2.2 >>= fun e7 =>
    (ix x.2.1 x.2.2 >>= fun e8 =>
    (if e7 = e8 then laws_eqStringS_L0 (x.1, x.2.1, (IntKind.i64.wrap (x.2.2 + 1))) else
    some (.inl false)))) else
    some (.inr ()))
  partial_fixpoint
def laws_eqStringS (x : ((List ByteArray) × (List ByteArray))) : Option Bool :=
    (if ((x.1.length : Nat) : Int) = ((x.2.length : Nat) : Int) then (laws_eqStringS_L0 (x.1, x.2, 0) >>= fun s10 =>
    (match s10 with
    | .inl r11 => some r11
    | .inr v12 => some true)) else
    some false)
mutual
def laws_eqAlt (x : (Alt × Alt)) : Option Bool :=
    (if x.1.Great = x.2.Great then (laws_eqStringS (x.1.Vars, x.2.Vars) >>= fun r2 =>
    (if r2 = true then (laws_eqExp (x.1.E, x.2.E) >>= fun r4 =>
    (if r4 = true then some true else
    some false)) else
    some false)) else
    some false)
  partial_fixpoint
def laws_eqAltS (x : ((List Alt) × (List Alt))) : Option Bool :=
    (if ((x.1.length : Nat) : Int) = ((x.2.length : Nat) : Int) then (laws_eqAltS_L0 (x.1, x.2, 0) >>= fun s12 =>
    (match s12 with
    | .inl r13 => some r13
    | .inr v14 => some true)) else
    some false)
  partial_fixpoint
def laws_eqAltS_L0 (x : ((List Alt) × (List Alt) × Int)) : Option (Sum Bool Unit) :=
    (if x.2.2 < ((x.1.length : Nat) : Int) then (ix x.1 x.2.2 >>= fun e8 =>
    (ix x.2.1 x.2.2 >>= fun e9 =>
    (laws_eqAlt (e8, e9) >>= fun r10 =>
    (if r10 = true then laws_eqAltS_L0 (x.1, x.2.1, (IntKind.i64.wrap (x.2.2 + 1))) else
    some (.inl false))))) else
    some (.inr ()))
  partial_fixpoint
def laws_eqDec (x : (Dec × Dec)) : Option Bool :=
    (if x.1.Name = x.2.Name then (laws_eqStringS (x.1.Pars, x.2.Pars) >>= fun r2 =>
    (if r2 = true then (laws_eqExp (x.1.E, x.2.E) >>= fun r4 =>
    (if r4 = true then (laws_eqDecS (x.1.Where, x.2.Where) >>= fun r6 =>
    (if r6 = true then some true else
    some false)) else
    some false)) else
    some false)) else
    some false)
  partial_fixpoint
def laws_eqDecS (x : ((List Dec) × (List Dec))) : Option Bool :=
    (if ((x.1.length : Nat) : Int) = ((x.2.length : Nat) : Int) then (laws_eqDecS_L0 (x.1, x.2, 0) >>= fun s12 =>
    (match s12 with
    | .inl r13 => some r13
    | .inr v14 => some true)) else
    some false)
  partial_fixpoint
def laws_eqDecS_L0 (x : ((List Dec) × (List Dec) × Int)) : Option (Sum Bool Unit) :=
    (if x.2.2 < ((x.1.length : Nat) : Int) then (ix x.1 x.2.2 >>= fun e8 =>
    (ix x.2.1 x.2.2 >>= fun e9 =>
    (laws_eqDec (e8, e9) >>= fun r10 =>
    (if r10 = true then laws_eqDecS_L0 (x.1, x.2.1, (IntKind.i64.wrap (x.2.2 + 1))) else
    some (.inl false))))) else
    some (.inr ()))
  partial_fixpoint
def laws_eqExp (x : (Exp × Exp)) : Option Bool :=
    (if x.1.K = x.2.K then (if x.1.S = x.2.S then (if x.1.N = x.2.N then (laws_eqExpS (x.1.L, x.2.L) >>= fun r4 =>
    (if r4 = true then (laws_eqDecS (x.1.Decs, x.2.Decs) >>= fun r6 =>
    (if r6 = true then (laws_eqAltS (x.1.Alts, x.2.Alts) >>= fun r8 =>
    (if r8 = true then some true else
    some false)) else
    some false)) else
    some false)) else
    some false) else
    some false) else
    some false)
  partial_fixpoint
def laws_eqExpS (x : ((List Exp) × (List Exp))) : Option Bool :=
    (if ((x.1.length : Nat) : Int) = ((x.2.length : Nat) : Int) then (laws_eqExpS_L0 (x.1, x.2, 0) >>= fun s12 =>
    (match s12 with
    | .inl r13 => some r13
    | .inr v14 => some true)) else
    some false)
  partial_fixpoint
def laws_eqExpS_L0 (x : ((List Exp) × (List Exp) × Int)) : Option (Sum Bool Unit) :=
    (if x.2.2 < ((x.1.length : Nat) : Int) then (ix x.1 x.2.2 >>= fun e8 =>
    (ix x.2.1 x.2.2 >>= fun e9 =>
    (laws_eqExp (e8, e9) >>= fun r10 =>
    (if r10 = true then laws_eqExpS_L0 (x.1, x.2.1, (IntKind.i64.wrap (x.2.2 + 1))) else
    some (.inl false))))) else
    some (.inr ()))
  partial_fixpoint
end
def laws_eqProg (x : (Prog × Prog)) : Option Bool :=
    (laws_eqDataS (x.1.Datas, x.2.Datas) >>= fun r1 =>
    (if r1 = true then (laws_eqDecS (x.1.Decs, x.2.Decs) >>= fun r3 =>
    (if r3 = true then some true else
    some false)) else
    some false))
def spec_ArityOf_L1 (x : (ByteArray × Int × Prog × Int)) : Option (Sum Int Unit) :=
    (ix x.2.2.1.Datas x.2.1 >>= fun e20 =>
    (if x.2.2.2 < ((e20.Cons.length : Nat) : Int) then (ix e20.Cons x.2.2.2 >>= fun e22 =>
    (if e22.Name = x.1 then some (.inl ((e22.Args.length : Nat) : Int)) else
    spec_ArityOf_L1 (x.1, x.2.1, x.2.2.1, (IntKind.i64.wrap (x.2.2.2 + 1))))) else
    some (.inr ())))
  partial_fixpoint
def spec_ArityOf_L0 (x : (ByteArray × Prog × Int)) : Option (Sum Int Unit) :=
    (if x.2.2 < ((x.2.1.Datas.length : Nat) : Int) then (spec_ArityOf_L1 (x.1, x.2.2, x.2.1, 0) >>= fun s24 =>
    (match s24 with
    | .inl r25 => some (.inl r25)
    | .inr v26 => spec_ArityOf_L0 (x.1, x.2.1, (IntKind.i64.wrap (x.2.2 + 1))))) else
    some (.inr ()))
  partial_fixpoint
def spec_ArityOf (x : (Prog × ByteArray)) : Option Int :=
    (if x.2 = (⟨⟨[84, 114, 117, 101]⟩⟩ : ByteArray) then some 0 else
    (if x.2 = (⟨⟨[70, 97, 108, 115, 101]⟩⟩ : ByteArray) then some 0 else
    (spec_ArityOf_L0 (x.2, x.1, 0) >>= fun s27 =>
    (match s27 with
    | .inl r28 => some r28
    | .inr v29 => some (-1)))))
mutual
def laws_toTy (x : Ty) : Option Ty :=
    (laws_toTyS x.L >>= fun r1 =>
    some (Ty.mk x.K x.S x.N r1))
  partial_fixpoint
def laws_toTyS (x : (List Ty)) : Option (List Ty) :=
    (gd ((0 : Int) ≤ ((x.length : Nat) : Int)) >>= fun u2 =>
    (gd (((x.length : Nat) : Int) ≤ (1099511627776 : Int)) >>= fun u4 =>
    (laws_toTyS_L0 (x, 0, (List.replicate x.length (Ty.mk 0 (⟨⟨[]⟩⟩ : ByteArray) 0 []))) >>= fun s27 =>
    some s27)))
  partial_fixpoint
def laws_toTyS_L0 (x : ((List Ty) × Int × (List Ty))) : Option (List Ty) :=
    (if x.2.1 < ((x.1.length : Nat) : Int) then (ix x.1 x.2.1 >>= fun e20 =>
    (laws_toTy e20 >>= fun r21 =>
    (gd ((0 : Int) ≤ x.2.1) >>= fun u23 =>
    (gd (x.2.1 < ((x.2.2.length : Nat) : Int)) >>= fun u25 =>
    laws_toTyS_L0 (x.1, (IntKind.i64.wrap (x.2.1 + 1)), (x.2.2.set x.2.1.toNat r21)))))) else
    some x.2.2)
  partial_fixpoint
end
def laws_toCon (x : Con) : Option Con :=
    (laws_toTyS x.Args >>= fun r1 =>
    some (Con.mk x.Name r1))
def laws_toConS_L0 (x : ((List Con) × Int × (List Con))) : Option (List Con) :=
    (if x.2.1 < ((x.1.length : Nat) : Int) then (ix x.1 x.2.1 >>= fun e20 =>
    (laws_toCon e20 >>= fun r21 =>
    (gd ((0 : Int) ≤ x.2.1) >>= fun u23 =>
    (gd (x.2.1 < ((x.2.2.length : Nat) : Int)) >>= fun u25 =>
    laws_toConS_L0 (x.1, (IntKind.i64.wrap (x.2.1 + 1)), (x.2.2.set x.2.1.toNat r21)))))) else
    some x.2.2)
  partial_fixpoint
def laws_toConS (x : (List Con)) : Option (List Con) :=
    (gd ((0 : Int) ≤ ((x.length : Nat) : Int)) >>= fun u2 =>
    (gd (((x.length : Nat) : Int) ≤ (1099511627776 : Int)) >>= fun u4 =>
    (laws_toConS_L0 (x, 0, (List.replicate x.length (Con.mk (⟨⟨[]⟩⟩ : ByteArray) []))) >>= fun s27 =>
    some s27)))
def laws_toData (x : Data) : Option Data :=
    (laws_toConS x.Cons >>= fun r1 =>
    some (Data.mk x.Name r1))
def laws_toDataS_L0 (x : ((List Data) × Int × (List Data))) : Option (List Data) :=
    (if x.2.1 < ((x.1.length : Nat) : Int) then (ix x.1 x.2.1 >>= fun e20 =>
    (laws_toData e20 >>= fun r21 =>
    (gd ((0 : Int) ≤ x.2.1) >>= fun u23 =>
    (gd (x.2.1 < ((x.2.2.length : Nat) : Int)) >>= fun u25 =>
    laws_toDataS_L0 (x.1, (IntKind.i64.wrap (x.2.1 + 1)), (x.2.2.set x.2.1.toNat r21)))))) else
    some x.2.2)
  partial_fixpoint
def laws_toDataS (x : (List Data)) : Option (List Data) :=
    (gd ((0 : Int) ≤ ((x.length : Nat) : Int)) >>= fun u2 =>
    (gd (((x.length : Nat) : Int) ≤ (1099511627776 : Int)) >>= fun u4 =>
    (laws_toDataS_L0 (x, 0, (List.replicate x.length (Data.mk (⟨⟨[]⟩⟩ : ByteArray) []))) >>= fun s27 =>
    some s27)))
def laws_toStringS_L0 (x : ((List ByteArray) × Int × (List ByteArray))) : Option (List ByteArray) :=
    (if x.2.1 < ((x.1.length : Nat) : Int) then (ix x.1 x.2.1 >>= fun e18 =>
    (gd ((0 : Int) ≤ x.2.1) >>= fun u20 =>
    (gd (x.2.1 < ((x.2.2.length : Nat) : Int)) >>= fun u22 =>
    laws_toStringS_L0 (x.1, (IntKind.i64.wrap (x.2.1 + 1)), (x.2.2.set x.2.1.toNat e18))))) else
    some x.2.2)
  partial_fixpoint
def laws_toStringS (x : (List ByteArray)) : Option (List ByteArray) :=
    (gd ((0 : Int) ≤ ((x.length : Nat) : Int)) >>= fun u2 =>
    (gd (((x.length : Nat) : Int) ≤ (1099511627776 : Int)) >>= fun u4 =>
    (laws_toStringS_L0 (x, 0, (List.replicate x.length (⟨⟨[]⟩⟩ : ByteArray))) >>= fun s24 =>
    some s24)))
mutual
def laws_toAlt (x : Alt) : Option Alt :=
    (laws_toStringS x.Vars >>= fun r1 =>
    (laws_toExp x.E >>= fun r2 =>
    some (Alt.mk x.Great r1 r2)))
  partial_fixpoint
def laws_toAltS (x : (List Alt)) : Option (List Alt) :=
    (gd ((0 : Int) ≤ ((x.length : Nat) : Int)) >>= fun u2 =>
    (gd (((x.length : Nat) : Int) ≤ (1099511627776 : Int)) >>= fun u4 =>
    (laws_toAltS_L0 (x, 0, (List.replicate x.length (Alt.mk (⟨⟨[]⟩⟩ : ByteArray) [] (Exp.mk 0 (⟨⟨[]⟩⟩ : ByteArray) 0 [] [] [])))) >>= fun s27 =>
    some s27)))
  partial_fixpoint
def laws_toAltS_L0 (x : ((List Alt) × Int × (List Alt))) : Option (List Alt) :=
    (if x.2.1 < ((x.1.length : Nat) : Int) then (ix x.1 x.2.1 >>= fun e20 =>
    (laws_toAlt e20 >>= fun r21 =>
    (gd ((0 : Int) ≤ x.2.1) >>= fun u23 =>
    (gd (x.2.1 < ((x.2.2.length : Nat) : Int)) >>= fun u25 =>
    laws_toAltS_L0 (x.1, (IntKind.i64.wrap (x.2.1 + 1)), (x.2.2.set x.2.1.toNat r21)))))) else
    some x.2.2)
  partial_fixpoint
def laws_toDec (x : Dec) : Option Dec :=
    (laws_toStringS x.Pars >>= fun r1 =>
    (laws_toExp x.E >>= fun r2 =>
    (laws_toDecS x.Where >>= fun r3 =>
    some (Dec.mk x.Name r1 r2 r3))))
  partial_fixpoint
def laws_toDecS (x : (List Dec)) : Option (List Dec) :=
    (gd ((0 : Int) ≤ ((x.length : Nat) : Int)) >>= fun u2 =>
    (gd (((x.length : Nat) : Int) ≤ (1099511627776 : Int)) >>= fun u4 =>
    (laws_toDecS_L0 (x, 0, (List.replicate x.length (Dec.mk (⟨⟨[]⟩⟩ : ByteArray) [] (Exp.mk 0 (⟨⟨[]⟩⟩ : ByteArray) 0 [] [] []) []))) >>= fun s27 =>
    some s27)))
  partial_fixpoint
def laws_toDecS_L0 (x : ((List Dec) × Int × (List Dec))) : Option (List Dec) :=
    (if x.2.1 < ((x.1.length : Nat) : Int) then (ix x.1 x.2.1 >>= fun e20 =>
    (laws_toDec e20 >>= fun r21 =>
    (gd ((0 : Int) ≤ x.2.1) >>= fun u23 =>
    (gd (x.2.1 < ((x.2.2.length : Nat) : Int)) >>= fun u25 =>
    laws_toDecS_L0 (x.1, (IntKind.i64.wrap (x.2.1 + 1)), (x.2.2.set x.2.1.toNat r21)))))) else
    some x.2.2)
  partial_fixpoint
def laws_toExp (x : Exp) : Option Exp :=
    (laws_toExpS x.L >>= fun r1 =>
    (laws_toDecS x.Decs >>= fun r2 =>
    (laws_toAltS x.Alts >>= fun r3 =>
    some (Exp.mk x.K x.S x.N r1 r2 r3))))
  partial_fixpoint
def laws_toExpS (x : (List Exp)) : Option (List Exp) :=
    (gd ((0 : Int) ≤ ((x.length : Nat) : Int)) >>= fun u2 =>
    (gd (((x.length : Nat) : Int) ≤ (1099511627776 : Int)) >>= fun u4 =>
    (laws_toExpS_L0 (x, 0, (List.replicate x.length (Exp.mk 0 (⟨⟨[]⟩⟩ : ByteArray) 0 [] [] []))) >>= fun s27 =>
    some s27)))
  partial_fixpoint
def laws_toExpS_L0 (x : ((List Exp) × Int × (List Exp))) : Option (List Exp) :=
    (if x.2.1 < ((x.1.length : Nat) : Int) then (ix x.1 x.2.1 >>= fun e20 =>
    (laws_toExp e20 >>= fun r21 =>
    (gd ((0 : Int) ≤ x.2.1) >>= fun u23 =>
    (gd (x.2.1 < ((x.2.2.length : Nat) : Int)) >>= fun u25 =>
    laws_toExpS_L0 (x.1, (IntKind.i64.wrap (x.2.1 + 1)), (x.2.2.set x.2.1.toNat r21)))))) else
    some x.2.2)
  partial_fixpoint
end
def laws_toProg (x : Prog) : Option Prog :=
    (laws_toDataS x.Datas >>= fun r1 =>
    (laws_toDecS x.Decs >>= fun r2 =>
    some (Prog.mk r1 r2)))
mutual
def laws_szTy (x : (Ty × Int)) : Option Int :=
    (if (IntKind.i64.wrap (x.2 - ((x.1.S.size : Nat) : Int))) < 0 then some (-1) else
    (laws_szTyS (x.1.L, (IntKind.i64.wrap (x.2 - ((x.1.S.size : Nat) : Int)))) >>= fun r2 =>
    (if r2 < 0 then some (-1) else
    some r2)))
  partial_fixpoint
def laws_szTyS (x : ((List Ty) × Int)) : Option Int :=
    (if (IntKind.i64.wrap (x.2 - ((x.1.length : Nat) : Int))) < 0 then some (-1) else
    (laws_szTyS_L0 (x.1, (IntKind.i64.wrap (x.2 - ((x.1.length : Nat) : Int))), 0) >>= fun s10 =>
    (match s10 with
    | .inl r11 => some r11
    | .inr v12 => some v12)))
  partial_fixpoint
def laws_szTyS_L0 (x : ((List Ty) × Int × Int)) : Option (Sum Int Int) :=
    (if x.2.2 < ((x.1.length : Nat) : Int) then (ix x.1 x.2.2 >>= fun e7 =>
    (laws_szTy (e7, x.2.1) >>= fun r8 =>
    (if r8 < 0 then some (.inl (-1)) else
    laws_szTyS_L0 (x.1, r8, (IntKind.i64.wrap (x.2.2 + 1)))))) else
    some (.inr x.2.1))
  partial_fixpoint
end
def laws_szCon (x : (Con × Int)) : Option Int :=
    (if (IntKind.i64.wrap (x.2 - ((x.1.Name.size : Nat) : Int))) < 0 then some (-1) else
    (laws_szTyS (x.1.Args, (IntKind.i64.wrap (x.2 - ((x.1.Name.size : Nat) : Int)))) >>= fun r2 =>
    (if r2 < 0 then some (-1) else
    some r2)))
def laws_szConS_L0 (x : ((List Con) × Int × Int)) : Option (Sum Int Int) :=
    (if x.2.2 < ((x.1.length : Nat) : Int) then (ix x.1 x.2.2 >>= fun e7 =>
    (laws_szCon (e7, x.2.1) >>= fun r8 =>
    (if r8 < 0 then some (.inl (-1)) else
    laws_szConS_L0 (x.1, r8, (IntKind.i64.wrap (x.2.2 + 1)))))) else
    some (.inr x.2.1))
  partial_fixpoint
def laws_szConS (x : ((List Con) × Int)) : Option Int :=
    (if (IntKind.i64.wrap (x.2 - ((x.1.length : Nat) : Int))) < 0 then some (-1) else
    (laws_szConS_L0 (x.1, (IntKind.i64.wrap (x.2 - ((x.1.length : Nat) : Int))), 0) >>= fun s10 =>
    (match s10 with
    | .inl r11 => some r11
    | .inr v12 => some v12)))
def laws_szData (x : (Data × Int)) : Option Int :=
    (if (IntKind.i64.wrap (x.2 - ((x.1.Name.size : Nat) : Int))) < 0 then some (-1) else
    (laws_szConS (x.1.Cons, (IntKind.i64.wrap (x.2 - ((x.1.Name.size : Nat) : Int)))) >>= fun r2 =>
    (if r2 < 0 then some (-1) else
    some r2)))
def laws_szDataS_L0 (x : ((List Data) × Int × Int)) : Option (Sum Int Int) :=
    (if x.2.2 < ((x.1.length : Nat) : Int) then (ix x.1 x.2.2 >>= fun e7 =>
    (laws_szData (e7, x.2.1) >>= fun r8 =>
    (if r8 < 0 then some (.inl (-1)) else
    laws_szDataS_L0 (x.1, r8, (IntKind.i64.wrap (x.2.2 + 1)))))) else
    some (.inr x.2.1))
  partial_fixpoint
def laws_szDataS (x : ((List Data) × Int)) : Option Int :=
    (if (IntKind.i64.wrap (x.2 - ((x.1.length : Nat) : Int))) < 0 then some (-1) else
    (laws_szDataS_L0 (x.1, (IntKind.i64.wrap (x.2 - ((x.1.length : Nat) : Int))), 0) >>= fun s10 =>
    (match s10 with
    | .inl r11 => some r11
    | .inr v12 => some v12)))
def laws_szStringS_L0 (x : ((List ByteArray) × Int × Int)) : Option (Sum Int Int) :=
    (if x.2.2 < ((x.1.length : Nat) : Int) then (ix x.1 x.2.2 >>= fun e6 =>
    (if (IntKind.i64.wrap (x.2.1 - ((e6.size : Nat) : Int))) < 0 then some (.inl (-1)) else
    laws_szStringS_L0 (x.1, (IntKind.i64.wrap (x.2.1 - ((e6.size : Nat) : Int))), (IntKind.i64.wrap (x.2.2 + 1))))) else
    some (.inr x.2.1))
  partial_fixpoint
def laws_szStringS (x : ((List ByteArray) × Int)) : Option Int :=
    (if (IntKind.i64.wrap (x.2 - ((x.1.length : Nat) : Int))) < 0 then some (-1) else
    (laws_szStringS_L0 (x.1, (IntKind.i64.wrap (x.2 - ((x.1.length : Nat) : Int))), 0) >>= fun s8 =>
    (match s8 with
    | .inl r9 => some r9
    | .inr v10 => some v10)))
mutual
def laws_szAlt (x : (Alt × Int)) : Option Int :=
    (if (IntKind.i64.wrap (x.2 - ((x.1.Great.size : Nat) : Int))) < 0 then some (-1) else
    (laws_szStringS (x.1.Vars, (IntKind.i64.wrap (x.2 - ((x.1.Great.size : Nat) : Int)))) >>= fun r2 =>
    (if r2 < 0 then some (-1) else
    (laws_szExp (x.1.E, r2) >>= fun r4 =>
    (if r4 < 0 then some (-1) else
    some r4)))))
  partial_fixpoint
def laws_szAltS (x : ((List Alt) × Int)) : Option Int :=
    (if (IntKind.i64.wrap (x.2 - ((x.1.length : Nat) : Int))) < 0 then some (-1) else
    (laws_szAltS_L0 (x.1, (IntKind.i64.wrap (x.2 - ((x.1.length : Nat) : Int))), 0) >>= fun s10 =>
    (match s10 with
    | .inl r11 => some r11
    | .inr v12 => some v12)))
  partial_fixpoint
def laws_szAltS_L0 (x : ((List Alt) × Int × Int)) : Option (Sum Int Int) :=
    (if x.2.2 < ((x.1.length : Nat) : Int) then (ix x.1 x.2.2 >>= fun e7 =>
    (laws_szAlt (e7, x.2.1) >>= fun r8 =>
    (if r8 < 0 then some (.inl (-1)) else
    laws_szAltS_L0 (x.1, r8, (IntKind.i64.wrap (x.2.2 + 1)))))) else
    some (.inr x.2.1))
  partial_fixpoint
def laws_szDec (x : (Dec × Int)) : Option Int :=
    (if (IntKind.i64.wrap (x.2 - ((x.1.Name.size : Nat) : Int))) < 0 then some (-1) else
    (laws_szStringS (x.1.Pars, (IntKind.i64.wrap (x.2 - ((x.1.Name.size : Nat) : Int)))) >>= fun r2 =>
    (if r2 < 0 then some (-1) else
    (laws_szExp (x.1.E, r2) >>= fun r4 =>
    (if r4 < 0 then some (-1) else
    (laws_szDecS (x.1.Where, r4) >>= fun r6 =>
    (if r6 < 0 then some (-1) else
    some r6)))))))
  partial_fixpoint
def laws_szDecS (x : ((List Dec) × Int)) : Option Int :=
    (if (IntKind.i64.wrap (x.2 - ((x.1.length : Nat) : Int))) < 0 then some (-1) else
    (laws_szDecS_L0 (x.1, (IntKind.i64.wrap (x.2 - ((x.1.length : Nat) : Int))), 0) >>= fun s10 =>
    (match s10 with
    | .inl r11 => some r11
    | .inr v12 => some v12)))
  partial_fixpoint
def laws_szDecS_L0 (x : ((List Dec) × Int × Int)) : Option (Sum Int Int) :=
    (if x.2.2 < ((x.1.length : Nat) : Int) then (ix x.1 x.2.2 >>= fun e7 =>
    (laws_szDec (e7, x.2.1) >>= fun r8 =>
    (if r8 < 0 then some (.inl (-1)) else
    laws_szDecS_L0 (x.1, r8, (IntKind.i64.wrap (x.2.2 + 1)))))) else
    some (.inr x.2.1))
  partial_fixpoint
def laws_szExp (x : (Exp × Int)) : Option Int :=
    (if (IntKind.i64.wrap (x.2 - ((x.1.S.size : Nat) : Int))) < 0 then some (-1) else
    (laws_szExpS (x.1.L, (IntKind.i64.wrap (x.2 - ((x.1.S.size : Nat) : Int)))) >>= fun r2 =>
    (if r2 < 0 then some (-1) else
    (laws_szDecS (x.1.Decs, r2) >>= fun r4 =>
    (if r4 < 0 then some (-1) else
    (laws_szAltS (x.1.Alts, r4) >>= fun r6 =>
    (if r6 < 0 then some (-1) else
    some r6)))))))
  partial_fixpoint
def laws_szExpS (x : ((List Exp) × Int)) : Option Int :=
    (if (IntKind.i64.wrap (x.2 - ((x.1.length : Nat) : Int))) < 0 then some (-1) else
    (laws_szExpS_L0 (x.1, (IntKind.i64.wrap (x.2 - ((x.1.length : Nat) : Int))), 0) >>= fun s10 =>
    (match s10 with
    | .inl r11 => some r11
    | .inr v12 => some v12)))
  partial_fixpoint
def laws_szExpS_L0 (x : ((List Exp) × Int × Int)) : Option (Sum Int Int) :=
    (if x.2.2 < ((x.1.length : Nat) : Int) then (ix x.1 x.2.2 >>= fun e7 =>
    (laws_szExp (e7, x.2.1) >>= fun r8 =>
    (if r8 < 0 then some (.inl (-1)) else
    laws_szExpS_L0 (x.1, r8, (IntKind.i64.wrap (x.2.2 + 1)))))) else
    some (.inr x.2.1))
  partial_fixpoint
end
def laws_szProg (x : (Prog × Int)) : Option Int :=
    (laws_szDataS (x.1.Datas, x.2) >>= fun r1 =>
    (if r1 < 0 then some (-1) else
    (laws_szDecS (x.1.Decs, r1) >>= fun r3 =>
    (if r3 < 0 then some (-1) else
    some r3))))
def laws_FnExactArityOf (x : (Prog × ByteArray)) : Option Bool :=
    (if 1048576 < ((x.2.size : Nat) : Int) then some true else
    (laws_szProg (x.1, 1048576) >>= fun r2 =>
    (if r2 < 0 then some true else
    (laws_toProg x.1 >>= fun r4 =>
    (spec_ArityOf (r4, x.2) >>= fun r5 =>
    (laws_toProg x.1 >>= fun r6 =>
    (impl_ArityOf (r6, x.2) >>= fun r7 =>
    (if r7 = r5 then (laws_toProg x.1 >>= fun r9 =>
    (laws_eqProg (r6, r9) >>= fun r10 =>
    (if r10 = true then some true else
    some false))) else
    some false))))))))
def spec_DataOf_L1 (x : (ByteArray × Int × Prog × Int)) : Option (Sum ByteArray Unit) :=
    (ix x.2.2.1.Datas x.2.1 >>= fun e20 =>
    (if x.2.2.2 < ((e20.Cons.length : Nat) : Int) then (ix e20.Cons x.2.2.2 >>= fun e22 =>
    (if e22.Name = x.1 then some (.inl e20.Name) else
    spec_DataOf_L1 (x.1, x.2.1, x.2.2.1, (IntKind.i64.wrap (x.2.2.2 + 1))))) else
    some (.inr ())))
  partial_fixpoint
def spec_DataOf_L0 (x : (ByteArray × Prog × Int)) : Option (Sum ByteArray Unit) :=
    (if x.2.2 < ((x.2.1.Datas.length : Nat) : Int) then (spec_DataOf_L1 (x.1, x.2.2, x.2.1, 0) >>= fun s24 =>
    (match s24 with
    | .inl r25 => some (.inl r25)
    | .inr v26 => spec_DataOf_L0 (x.1, x.2.1, (IntKind.i64.wrap (x.2.2 + 1))))) else
    some (.inr ()))
  partial_fixpoint
def spec_DataOf (x : (Prog × ByteArray)) : Option ByteArray :=
    (if x.2 = (⟨⟨[84, 114, 117, 101]⟩⟩ : ByteArray) then some (⟨⟨[66, 111, 111, 108]⟩⟩ : ByteArray) else
    (if x.2 = (⟨⟨[70, 97, 108, 115, 101]⟩⟩ : ByteArray) then some (⟨⟨[66, 111, 111, 108]⟩⟩ : ByteArray) else
    (spec_DataOf_L0 (x.2, x.1, 0) >>= fun s27 =>
    (match s27 with
    | .inl r28 => some r28
    | .inr v29 => some (⟨⟨[]⟩⟩ : ByteArray)))))
def laws_FnExactDataOf (x : (Prog × ByteArray)) : Option Bool :=
    (if 1048576 < ((x.2.size : Nat) : Int) then some true else
    (laws_szProg (x.1, 1048576) >>= fun r2 =>
    (if r2 < 0 then some true else
    (laws_toProg x.1 >>= fun r4 =>
    (spec_DataOf (r4, x.2) >>= fun r5 =>
    (laws_toProg x.1 >>= fun r6 =>
    (impl_DataOf (r6, x.2) >>= fun r7 =>
    (if r7 = r5 then (laws_toProg x.1 >>= fun r9 =>
    (laws_eqProg (r6, r9) >>= fun r10 =>
    (if r10 = true then some true else
    some false))) else
    some false))))))))
end M
end W
