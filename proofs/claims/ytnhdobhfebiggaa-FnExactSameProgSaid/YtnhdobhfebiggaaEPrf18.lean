import Derived.Test.YtnhdobhfebiggaaEPrf17
namespace W
set_option linter.unusedSimpArgs false
set_option linter.unusedVariables false
open Go HL S
open Nat (reduceAdd reduceEqDiff reduceLeDiff reduceSub reduceMul reduceLT)
set_option linter.unusedVariables false
set_option maxRecDepth 100000
set_option maxHeartbeats 4000000
namespace K
theorem laws_toExpS_L0_step (f_laws_toExp : Exp → Option Exp) (f_laws_toExpS_L0 : ((List Exp) × Int × (List Exp)) → Option (List Exp)) (ih_laws_toExp : ∀ (x : Exp) (r : Exp), f_laws_toExp x = some r → HCp P F.laws_toExp [(Exp.enc x)] (Exp.enc r)) (ih_laws_toExpS_L0 : ∀ (x : ((List Exp) × Int × (List Exp))) (out : (List Exp)), f_laws_toExpS_L0 x = some out → ∀ Q : HExit → Env → St → Prop, (∀ env st sel, Weak 0 sel [(3, (.own 0 out.length))] [(.arr 6 (List.map Exp.enc out) true)] env st → Q (.exit 0) env st) → SemL P H.laws_toExpS.ntmps 0 H.laws_toExpS_l5 [(0, (.sl (List.map Exp.enc x.1))), (3, (.own 0 x.2.2.length)), (4, (.int .i64 x.2.1))] [(.arr 6 (List.map Exp.enc x.2.2) true)] Q) (x : ((List Exp) × Int × (List Exp))) (out : (List Exp)) (h : (if x.2.1 < ((x.1.length : Nat) : Int) then (ix x.1 x.2.1 >>= fun e20 =>
    (f_laws_toExp e20 >>= fun r21 =>
    (gd ((0 : Int) ≤ x.2.1) >>= fun u23 =>
    (gd (x.2.1 < ((x.2.2.length : Nat) : Int)) >>= fun u25 =>
    f_laws_toExpS_L0 (x.1, (IntKind.i64.wrap (x.2.1 + 1)), (x.2.2.set x.2.1.toNat r21)))))) else
    some x.2.2) = some out) : ∀ Q : HExit → Env → St → Prop, (∀ env st sel, Weak 0 sel [(3, (.own 0 out.length))] [(.arr 6 (List.map Exp.enc out) true)] env st → Q (.exit 0) env st) → SemL P H.laws_toExpS.ntmps 0 H.laws_toExpS_l5 [(0, (.sl (List.map Exp.enc x.1))), (3, (.own 0 x.2.2.length)), (4, (.int .i64 x.2.1))] [(.arr 6 (List.map Exp.enc x.2.2) true)] Q := by
  obtain ⟨p0, t4_L0, a0_L0⟩ := x
  try dsimp only at h
  intro Q hx
  refine SemL.round ?_
  try dsimp only at hx
  refine SemF.seq rfl ?_
  refine SemF.seq rfl ?_
  refine SemF.reg true rfl ?_
  try simp only [gE, ↓gT, ↓reduceIte, reduceCtorEq, reduceAdd, reduceEqDiff, reduceLeDiff, reduceLT]; (repeat intro (_ : _ ≤ lim))
  (repeat intro (_ : _ ≤ lim))
  by_cases hc19 : t4_L0 < ((p0.length : Nat) : Int)
  · rw [if_pos hc19] at h
    refine SemF.cond rfl ?_
    simp only [gE, ↓gT, ↓reduceIte, reduceCtorEq, reduceAdd, reduceEqDiff, reduceLeDiff, reduceLT, eq_true hc19]
    refine SemF.skip rfl ?_
    simp only [gE, ↓gT, ↓reduceIte, reduceCtorEq, reduceAdd, reduceEqDiff, reduceLeDiff, reduceLT, eq_true hc19]
    refine SemF.seq rfl ?_
    refine SemF.block rfl ?_
    refine SemF.reg true rfl ?_
    try simp only [gE, ↓gT, ↓reduceIte, reduceCtorEq, reduceAdd, reduceEqDiff, reduceLeDiff, reduceLT, eq_true hc19]; (repeat intro (_ : _ ≤ lim))
    obtain ⟨e20, h_e20, h⟩ := bs h
    have m_e20 := ixm (f := Exp.enc) (ix_get h_e20)
    try simp only [gE, ↓gT, ↓reduceIte, reduceCtorEq, reduceAdd, reduceEqDiff, reduceLeDiff, reduceLT, eq_true hc19, eq_true (ix_nn h_e20), m_e20]; (repeat intro (_ : _ ≤ lim))
    obtain ⟨r21, h_r21, h⟩ := bs h
    refine HCp.callE (ih_laws_toExp e20 r21 h_r21) (by simp only [gE, ↓gT, ↓reduceIte, reduceCtorEq, reduceAdd, reduceEqDiff, reduceLeDiff, reduceLT, eq_true hc19, eq_true (ix_nn h_e20), m_e20]) (by simp only [scT, esT, and_self, true_and, and_true]) (by simp only [scT, esT, and_self, true_and, and_true]) ?_
    try simp only [gE, ↓gT, ↓reduceIte, reduceCtorEq, reduceAdd, reduceEqDiff, reduceLeDiff, reduceLT, eq_true hc19, eq_true (ix_nn h_e20), m_e20]; (repeat intro (_ : _ ≤ lim))
    obtain ⟨u23, h_u23, h⟩ := bs h
    have hg22 := gd_some h_u23
    try simp only [gE, ↓gT, ↓reduceIte, reduceCtorEq, reduceAdd, reduceEqDiff, reduceLeDiff, reduceLT, eq_true hc19, eq_true (ix_nn h_e20), m_e20, eq_true hg22]; (repeat intro (_ : _ ≤ lim))
    obtain ⟨u25, h_u25, h⟩ := bs h
    have hg24 := gd_some h_u25
    try simp only [gE, ↓gT, ↓reduceIte, reduceCtorEq, reduceAdd, reduceEqDiff, reduceLeDiff, reduceLT, eq_true hc19, eq_true (ix_nn h_e20), m_e20, eq_true hg22, eq_true hg24]; (repeat intro (_ : _ ≤ lim))
    obtain ⟨y26, m_y26⟩ := own_get (f := Exp.enc) (l := a0_L0) (by simp only [List.length_replicate, List.length_set, List.length_append, List.length_cons, List.length_nil, Nat.zero_add, reduceAdd]) hg22 hg24
    try simp only [gE, ↓gT, ↓reduceIte, reduceCtorEq, reduceAdd, reduceEqDiff, reduceLeDiff, reduceLT, eq_true hc19, eq_true (ix_nn h_e20), m_e20, eq_true hg22, eq_true hg24, m_y26]; (repeat intro (_ : _ ≤ lim))
    refine SemF.reg true rfl ?_
    try simp only [gE, ↓gT, ↓reduceIte, reduceCtorEq, reduceAdd, reduceEqDiff, reduceLeDiff, reduceLT, eq_true hc19, eq_true (ix_nn h_e20), m_e20, eq_true hg22, eq_true hg24, m_y26]; (repeat intro (_ : _ ≤ lim))
    refine SemL.weak (sel := [0]) ⟨by simp only [gE, ↓gT, ↓reduceIte, reduceCtorEq, reduceAdd, reduceEqDiff, reduceLeDiff, reduceLT, hwT, selS, erT, eq_true hc19, eq_true (ix_nn h_e20), m_e20, eq_true hg22, eq_true hg24, m_y26], by decide, by decide, by simp only [gE, ↓gT, ↓reduceIte, reduceCtorEq, reduceAdd, reduceEqDiff, reduceLeDiff, reduceLT, hwT, selS, erT, subR, eq_true hc19, eq_true (ix_nn h_e20), m_e20, eq_true hg22, eq_true hg24, m_y26], by simp only [gE, ↓gT, ↓reduceIte, reduceCtorEq, reduceAdd, reduceEqDiff, reduceLeDiff, reduceLT, hwT, selS, erT, scT, esT, eq_true hc19, eq_true (ix_nn h_e20), m_e20, eq_true hg22, eq_true hg24, m_y26], by simp only [gE, ↓gT, ↓reduceIte, reduceCtorEq, reduceAdd, reduceEqDiff, reduceLeDiff, reduceLT, hwT, selS, erT, scT, esT, eq_true hc19, eq_true (ix_nn h_e20), m_e20, eq_true hg22, eq_true hg24, m_y26]⟩ (ih_laws_toExpS_L0 (p0, (IntKind.i64.wrap (t4_L0 + 1)), (a0_L0.set t4_L0.toNat r21)) out h Q hx)
  · rw [if_neg hc19] at h
    refine SemF.cond rfl ?_
    simp only [gE, ↓gT, ↓reduceIte, reduceCtorEq, reduceAdd, reduceEqDiff, reduceLeDiff, reduceLT, eq_false hc19]
    refine SemF.exit rfl ?_
    simp only [gE, ↓gT, ↓reduceIte, reduceCtorEq, reduceAdd, reduceEqDiff, reduceLeDiff, reduceLT, eq_false hc19]
    obtain rfl := Option.some.inj h
    refine hx _ _ [0] ⟨by simp only [gE, ↓gT, ↓reduceIte, reduceCtorEq, reduceAdd, reduceEqDiff, reduceLeDiff, reduceLT, hwT, selS, erT, eq_false hc19], by decide, by decide, by simp only [gE, ↓gT, ↓reduceIte, reduceCtorEq, reduceAdd, reduceEqDiff, reduceLeDiff, reduceLT, hwT, selS, erT, subR, eq_false hc19], by simp only [gE, ↓gT, ↓reduceIte, reduceCtorEq, reduceAdd, reduceEqDiff, reduceLeDiff, reduceLT, hwT, selS, erT, scT, esT, eq_false hc19], by simp only [gE, ↓gT, ↓reduceIte, reduceCtorEq, reduceAdd, reduceEqDiff, reduceLeDiff, reduceLT, hwT, selS, erT, scT, esT, eq_false hc19]⟩
theorem laws_toAlt_all : (∀ (x : Alt) (r : Alt), M.laws_toAlt x = some r → HCp P F.laws_toAlt [(Alt.enc x)] (Alt.enc r)) ∧
  (∀ (x : Exp) (r : Exp), M.laws_toExp x = some r → HCp P F.laws_toExp [(Exp.enc x)] (Exp.enc r)) ∧
  (∀ (x : (List Alt)) (r : (List Alt)), M.laws_toAltS x = some r → HCp P F.laws_toAltS [(.sl (List.map Alt.enc x))] (HV.sl (List.map Alt.enc r))) ∧
  (∀ (x : ((List Alt) × Int × (List Alt))) (out : (List Alt)), M.laws_toAltS_L0 x = some out → ∀ Q : HExit → Env → St → Prop, (∀ env st sel, Weak 0 sel [(3, (.own 0 out.length))] [(.arr 8 (List.map Alt.enc out) true)] env st → Q (.exit 0) env st) → SemL P H.laws_toAltS.ntmps 0 H.laws_toAltS_l5 [(0, (.sl (List.map Alt.enc x.1))), (3, (.own 0 x.2.2.length)), (4, (.int .i64 x.2.1))] [(.arr 8 (List.map Alt.enc x.2.2) true)] Q) ∧
  (∀ (x : (List Dec)) (r : (List Dec)), M.laws_toDecS x = some r → HCp P F.laws_toDecS [(.sl (List.map Dec.enc x))] (HV.sl (List.map Dec.enc r))) ∧
  (∀ (x : ((List Dec) × Int × (List Dec))) (out : (List Dec)), M.laws_toDecS_L0 x = some out → ∀ Q : HExit → Env → St → Prop, (∀ env st sel, Weak 0 sel [(3, (.own 0 out.length))] [(.arr 9 (List.map Dec.enc out) true)] env st → Q (.exit 0) env st) → SemL P H.laws_toDecS.ntmps 0 H.laws_toDecS_l5 [(0, (.sl (List.map Dec.enc x.1))), (3, (.own 0 x.2.2.length)), (4, (.int .i64 x.2.1))] [(.arr 9 (List.map Dec.enc x.2.2) true)] Q) ∧
  (∀ (x : Dec) (r : Dec), M.laws_toDec x = some r → HCp P F.laws_toDec [(Dec.enc x)] (Dec.enc r)) ∧
  (∀ (x : (List Exp)) (r : (List Exp)), M.laws_toExpS x = some r → HCp P F.laws_toExpS [(.sl (List.map Exp.enc x))] (HV.sl (List.map Exp.enc r))) ∧
  (∀ (x : ((List Exp) × Int × (List Exp))) (out : (List Exp)), M.laws_toExpS_L0 x = some out → ∀ Q : HExit → Env → St → Prop, (∀ env st sel, Weak 0 sel [(3, (.own 0 out.length))] [(.arr 6 (List.map Exp.enc out) true)] env st → Q (.exit 0) env st) → SemL P H.laws_toExpS.ntmps 0 H.laws_toExpS_l5 [(0, (.sl (List.map Exp.enc x.1))), (3, (.own 0 x.2.2.length)), (4, (.int .i64 x.2.1))] [(.arr 6 (List.map Exp.enc x.2.2) true)] Q) := by
  refine M.laws_toAlt.mutual_partial_correctness (motive_1 := fun x r => HCp P F.laws_toAlt [(Alt.enc x)] (Alt.enc r)) (motive_2 := fun x r => HCp P F.laws_toExp [(Exp.enc x)] (Exp.enc r)) (motive_3 := fun x r => HCp P F.laws_toAltS [(.sl (List.map Alt.enc x))] (HV.sl (List.map Alt.enc r))) (motive_4 := fun x out => ∀ Q : HExit → Env → St → Prop, (∀ env st sel, Weak 0 sel [(3, (.own 0 out.length))] [(.arr 8 (List.map Alt.enc out) true)] env st → Q (.exit 0) env st) → SemL P H.laws_toAltS.ntmps 0 H.laws_toAltS_l5 [(0, (.sl (List.map Alt.enc x.1))), (3, (.own 0 x.2.2.length)), (4, (.int .i64 x.2.1))] [(.arr 8 (List.map Alt.enc x.2.2) true)] Q) (motive_5 := fun x r => HCp P F.laws_toDecS [(.sl (List.map Dec.enc x))] (HV.sl (List.map Dec.enc r))) (motive_6 := fun x out => ∀ Q : HExit → Env → St → Prop, (∀ env st sel, Weak 0 sel [(3, (.own 0 out.length))] [(.arr 9 (List.map Dec.enc out) true)] env st → Q (.exit 0) env st) → SemL P H.laws_toDecS.ntmps 0 H.laws_toDecS_l5 [(0, (.sl (List.map Dec.enc x.1))), (3, (.own 0 x.2.2.length)), (4, (.int .i64 x.2.1))] [(.arr 9 (List.map Dec.enc x.2.2) true)] Q) (motive_7 := fun x r => HCp P F.laws_toDec [(Dec.enc x)] (Dec.enc r)) (motive_8 := fun x r => HCp P F.laws_toExpS [(.sl (List.map Exp.enc x))] (HV.sl (List.map Exp.enc r))) (motive_9 := fun x out => ∀ Q : HExit → Env → St → Prop, (∀ env st sel, Weak 0 sel [(3, (.own 0 out.length))] [(.arr 6 (List.map Exp.enc out) true)] env st → Q (.exit 0) env st) → SemL P H.laws_toExpS.ntmps 0 H.laws_toExpS_l5 [(0, (.sl (List.map Exp.enc x.1))), (3, (.own 0 x.2.2.length)), (4, (.int .i64 x.2.1))] [(.arr 6 (List.map Exp.enc x.2.2) true)] Q) ?_ ?_ ?_ ?_ ?_ ?_ ?_ ?_ ?_
  · exact fun f_laws_toExp ih_laws_toExp x r h => K.laws_toAlt_step f_laws_toExp ih_laws_toExp x r h
  · exact fun f_laws_toAltS f_laws_toDecS f_laws_toExpS ih_laws_toAltS ih_laws_toDecS ih_laws_toExpS x r h => K.laws_toExp_step f_laws_toAltS f_laws_toDecS f_laws_toExpS ih_laws_toAltS ih_laws_toDecS ih_laws_toExpS x r h
  · exact fun f_laws_toAltS_L0 ih_laws_toAltS_L0 x r h => K.laws_toAltS_step f_laws_toAltS_L0 ih_laws_toAltS_L0 x r h
  · exact fun f_laws_toAlt f_laws_toAltS_L0 ih_laws_toAlt ih_laws_toAltS_L0 x out h => K.laws_toAltS_L0_step f_laws_toAlt f_laws_toAltS_L0 ih_laws_toAlt ih_laws_toAltS_L0 x out h
  · exact fun f_laws_toDecS_L0 ih_laws_toDecS_L0 x r h => K.laws_toDecS_step f_laws_toDecS_L0 ih_laws_toDecS_L0 x r h
  · exact fun f_laws_toDecS_L0 f_laws_toDec ih_laws_toDecS_L0 ih_laws_toDec x out h => K.laws_toDecS_L0_step f_laws_toDecS_L0 f_laws_toDec ih_laws_toDecS_L0 ih_laws_toDec x out h
  · exact fun f_laws_toExp f_laws_toDecS ih_laws_toExp ih_laws_toDecS x r h => K.laws_toDec_step f_laws_toExp f_laws_toDecS ih_laws_toExp ih_laws_toDecS x r h
  · exact fun f_laws_toExpS_L0 ih_laws_toExpS_L0 x r h => K.laws_toExpS_step f_laws_toExpS_L0 ih_laws_toExpS_L0 x r h
  · exact fun f_laws_toExp f_laws_toExpS_L0 ih_laws_toExp ih_laws_toExpS_L0 x out h => K.laws_toExpS_L0_step f_laws_toExp f_laws_toExpS_L0 ih_laws_toExp ih_laws_toExpS_L0 x out h
theorem laws_toAlt : (∀ (x : Alt) (r : Alt), M.laws_toAlt x = some r → HCp P F.laws_toAlt [(Alt.enc x)] (Alt.enc r)) := K.laws_toAlt_all.1
theorem laws_toExp : (∀ (x : Exp) (r : Exp), M.laws_toExp x = some r → HCp P F.laws_toExp [(Exp.enc x)] (Exp.enc r)) := K.laws_toAlt_all.2.1
theorem laws_toAltS : (∀ (x : (List Alt)) (r : (List Alt)), M.laws_toAltS x = some r → HCp P F.laws_toAltS [(.sl (List.map Alt.enc x))] (HV.sl (List.map Alt.enc r))) := K.laws_toAlt_all.2.2.1
theorem laws_toAltS_L0 : (∀ (x : ((List Alt) × Int × (List Alt))) (out : (List Alt)), M.laws_toAltS_L0 x = some out → ∀ Q : HExit → Env → St → Prop, (∀ env st sel, Weak 0 sel [(3, (.own 0 out.length))] [(.arr 8 (List.map Alt.enc out) true)] env st → Q (.exit 0) env st) → SemL P H.laws_toAltS.ntmps 0 H.laws_toAltS_l5 [(0, (.sl (List.map Alt.enc x.1))), (3, (.own 0 x.2.2.length)), (4, (.int .i64 x.2.1))] [(.arr 8 (List.map Alt.enc x.2.2) true)] Q) := K.laws_toAlt_all.2.2.2.1
theorem laws_toDecS : (∀ (x : (List Dec)) (r : (List Dec)), M.laws_toDecS x = some r → HCp P F.laws_toDecS [(.sl (List.map Dec.enc x))] (HV.sl (List.map Dec.enc r))) := K.laws_toAlt_all.2.2.2.2.1
theorem laws_toDecS_L0 : (∀ (x : ((List Dec) × Int × (List Dec))) (out : (List Dec)), M.laws_toDecS_L0 x = some out → ∀ Q : HExit → Env → St → Prop, (∀ env st sel, Weak 0 sel [(3, (.own 0 out.length))] [(.arr 9 (List.map Dec.enc out) true)] env st → Q (.exit 0) env st) → SemL P H.laws_toDecS.ntmps 0 H.laws_toDecS_l5 [(0, (.sl (List.map Dec.enc x.1))), (3, (.own 0 x.2.2.length)), (4, (.int .i64 x.2.1))] [(.arr 9 (List.map Dec.enc x.2.2) true)] Q) := K.laws_toAlt_all.2.2.2.2.2.1
theorem laws_toDec : (∀ (x : Dec) (r : Dec), M.laws_toDec x = some r → HCp P F.laws_toDec [(Dec.enc x)] (Dec.enc r)) := K.laws_toAlt_all.2.2.2.2.2.2.1
theorem laws_toExpS : (∀ (x : (List Exp)) (r : (List Exp)), M.laws_toExpS x = some r → HCp P F.laws_toExpS [(.sl (List.map Exp.enc x))] (HV.sl (List.map Exp.enc r))) := K.laws_toAlt_all.2.2.2.2.2.2.2.1
theorem laws_toExpS_L0 : (∀ (x : ((List Exp) × Int × (List Exp))) (out : (List Exp)), M.laws_toExpS_L0 x = some out → ∀ Q : HExit → Env → St → Prop, (∀ env st sel, Weak 0 sel [(3, (.own 0 out.length))] [(.arr 6 (List.map Exp.enc out) true)] env st → Q (.exit 0) env st) → SemL P H.laws_toExpS.ntmps 0 H.laws_toExpS_l5 [(0, (.sl (List.map Exp.enc x.1))), (3, (.own 0 x.2.2.length)), (4, (.int .i64 x.2.1))] [(.arr 6 (List.map Exp.enc x.2.2) true)] Q) := K.laws_toAlt_all.2.2.2.2.2.2.2.2
theorem laws_toProg : ∀ (x : Prog) (r : Prog), M.laws_toProg x = some r → HCp P F.laws_toProg [(Prog.enc x)] (Prog.enc r) := by
  intro x r h
  revert h; revert x; intro p0 h
  unfold M.laws_toProg at h
  try dsimp only at h
  refine HCp.mkF S.laws_toProg (by simp [H.laws_toProg]) (by simp only [scT, esT, and_self, true_and, and_true]) ?_
  simp only [gE, ↓gT, ↓reduceIte, reduceCtorEq, reduceAdd, reduceEqDiff, reduceLeDiff, reduceLT, H.laws_toProg]
  refine SemF.seq rfl ?_
  refine SemF.reg true rfl ?_
  try simp only [gE, ↓gT, ↓reduceIte, reduceCtorEq, reduceAdd, reduceEqDiff, reduceLeDiff, reduceLT]; (repeat intro (_ : _ ≤ lim))
  refine SemF.seq rfl ?_
  refine SemF.reg true rfl ?_
  try simp only [gE, ↓gT, ↓reduceIte, reduceCtorEq, reduceAdd, reduceEqDiff, reduceLeDiff, reduceLT]; (repeat intro (_ : _ ≤ lim))
  refine SemF.seq rfl ?_
  refine SemF.reg true rfl ?_
  try simp only [gE, ↓gT, ↓reduceIte, reduceCtorEq, reduceAdd, reduceEqDiff, reduceLeDiff, reduceLT]; (repeat intro (_ : _ ≤ lim))
  obtain ⟨r1, h_r1, h⟩ := bs h
  refine HCp.callE (K.laws_toDataS p0.Datas r1 h_r1) (by simp only [gE, ↓gT, ↓reduceIte, reduceCtorEq, reduceAdd, reduceEqDiff, reduceLeDiff, reduceLT]) (by simp only [scT, esT, and_self, true_and, and_true]) (by simp only [scT, esT, and_self, true_and, and_true]) ?_
  try simp only [gE, ↓gT, ↓reduceIte, reduceCtorEq, reduceAdd, reduceEqDiff, reduceLeDiff, reduceLT]; (repeat intro (_ : _ ≤ lim))
  refine SemF.seq rfl ?_
  refine SemF.reg true rfl ?_
  try simp only [gE, ↓gT, ↓reduceIte, reduceCtorEq, reduceAdd, reduceEqDiff, reduceLeDiff, reduceLT]; (repeat intro (_ : _ ≤ lim))
  obtain ⟨r2, h_r2, h⟩ := bs h
  refine HCp.callE (K.laws_toDecS p0.Decs r2 h_r2) (by simp only [gE, ↓gT, ↓reduceIte, reduceCtorEq, reduceAdd, reduceEqDiff, reduceLeDiff, reduceLT]) (by simp only [scT, esT, and_self, true_and, and_true]) (by simp only [scT, esT, and_self, true_and, and_true]) ?_
  try simp only [gE, ↓gT, ↓reduceIte, reduceCtorEq, reduceAdd, reduceEqDiff, reduceLeDiff, reduceLT]; (repeat intro (_ : _ ≤ lim))
  refine SemF.seq rfl ?_
  refine SemF.reg true rfl ?_
  try simp only [gE, ↓gT, ↓reduceIte, reduceCtorEq, reduceAdd, reduceEqDiff, reduceLeDiff, reduceLT]; (repeat intro (_ : _ ≤ lim))
  refine SemF.ret rfl ?_
  try simp only [gE, ↓gT, ↓reduceIte, reduceCtorEq, reduceAdd, reduceEqDiff, reduceLeDiff, reduceLT]; (repeat intro (_ : _ ≤ lim))
  obtain rfl := Option.some.inj h
  simp only [gE, ↓gT, ↓reduceIte, reduceCtorEq, reduceAdd, reduceEqDiff, reduceLeDiff, reduceLT, RetP_def]
theorem laws_FnExactSameProg : ∀ (x : (Prog × Prog)) (r : Bool), M.laws_FnExactSameProg x = some r → HCp P F.laws_FnExactSameProg [(Prog.enc x.1), (Prog.enc x.2)] (HV.bool r) := by
  intro x r h
  obtain ⟨p0, p1⟩ := x
  unfold M.laws_FnExactSameProg at h
  try dsimp only at h
  refine HCp.mkF S.laws_FnExactSameProg (by simp [H.laws_FnExactSameProg]) (by simp only [scT, esT, and_self, true_and, and_true]) ?_
  simp only [gE, ↓gT, ↓reduceIte, reduceCtorEq, reduceAdd, reduceEqDiff, reduceLeDiff, reduceLT, H.laws_FnExactSameProg]
  refine SemF.seq rfl ?_
  refine SemF.reg true rfl ?_
  try simp only [gE, ↓gT, ↓reduceIte, reduceCtorEq, reduceAdd, reduceEqDiff, reduceLeDiff, reduceLT]; (repeat intro (_ : _ ≤ lim))
  refine SemF.seq rfl ?_
  refine SemF.reg true rfl ?_
  try simp only [gE, ↓gT, ↓reduceIte, reduceCtorEq, reduceAdd, reduceEqDiff, reduceLeDiff, reduceLT]; (repeat intro (_ : _ ≤ lim))
  refine SemF.seq rfl ?_
  refine SemF.reg true rfl ?_
  try simp only [gE, ↓gT, ↓reduceIte, reduceCtorEq, reduceAdd, reduceEqDiff, reduceLeDiff, reduceLT]; (repeat intro (_ : _ ≤ lim))
  obtain ⟨r1, h_r1, h⟩ := bs h
  refine HCp.callE (K.laws_szProg (p0, 1048576) r1 h_r1) (by simp only [gE, ↓gT, ↓reduceIte, reduceCtorEq, reduceAdd, reduceEqDiff, reduceLeDiff, reduceLT]) (by simp only [scT, esT, and_self, true_and, and_true]) (by simp only [scT, esT, and_self, true_and, and_true]) ?_
  try simp only [gE, ↓gT, ↓reduceIte, reduceCtorEq, reduceAdd, reduceEqDiff, reduceLeDiff, reduceLT]; (repeat intro (_ : _ ≤ lim))
  refine SemF.seq rfl ?_
  refine SemF.seq rfl ?_
  refine SemF.reg true rfl ?_
  try simp only [gE, ↓gT, ↓reduceIte, reduceCtorEq, reduceAdd, reduceEqDiff, reduceLeDiff, reduceLT]; (repeat intro (_ : _ ≤ lim))
  by_cases hc2 : r1 < 0
  · rw [if_pos hc2] at h
    refine SemF.cond rfl ?_
    simp only [gE, ↓gT, ↓reduceIte, reduceCtorEq, reduceAdd, reduceEqDiff, reduceLeDiff, reduceLT, eq_true hc2]
    refine SemF.seq rfl ?_
    refine SemF.reg true rfl ?_
    try simp only [gE, ↓gT, ↓reduceIte, reduceCtorEq, reduceAdd, reduceEqDiff, reduceLeDiff, reduceLT, eq_true hc2]; (repeat intro (_ : _ ≤ lim))
    refine SemF.ret rfl ?_
    try simp only [gE, ↓gT, ↓reduceIte, reduceCtorEq, reduceAdd, reduceEqDiff, reduceLeDiff, reduceLT, eq_true hc2]; (repeat intro (_ : _ ≤ lim))
    obtain rfl := Option.some.inj h
    simp only [gE, ↓gT, ↓reduceIte, reduceCtorEq, reduceAdd, reduceEqDiff, reduceLeDiff, reduceLT, RetP_def, eq_true hc2]
  · rw [if_neg hc2] at h
    refine SemF.cond rfl ?_
    simp only [gE, ↓gT, ↓reduceIte, reduceCtorEq, reduceAdd, reduceEqDiff, reduceLeDiff, reduceLT, eq_false hc2]
    refine SemF.skip rfl ?_
    simp only [gE, ↓gT, ↓reduceIte, reduceCtorEq, reduceAdd, reduceEqDiff, reduceLeDiff, reduceLT, eq_false hc2]
    refine SemF.seq rfl ?_
    refine SemF.reg true rfl ?_
    try simp only [gE, ↓gT, ↓reduceIte, reduceCtorEq, reduceAdd, reduceEqDiff, reduceLeDiff, reduceLT, eq_false hc2]; (repeat intro (_ : _ ≤ lim))
    obtain ⟨r3, h_r3, h⟩ := bs h
    refine HCp.callE (K.laws_szProg (p1, r1) r3 h_r3) (by simp only [gE, ↓gT, ↓reduceIte, reduceCtorEq, reduceAdd, reduceEqDiff, reduceLeDiff, reduceLT, eq_false hc2]) (by simp only [scT, esT, and_self, true_and, and_true]) (by simp only [scT, esT, and_self, true_and, and_true]) ?_
    try simp only [gE, ↓gT, ↓reduceIte, reduceCtorEq, reduceAdd, reduceEqDiff, reduceLeDiff, reduceLT, eq_false hc2]; (repeat intro (_ : _ ≤ lim))
    refine SemF.seq rfl ?_
    refine SemF.seq rfl ?_
    refine SemF.reg true rfl ?_
    try simp only [gE, ↓gT, ↓reduceIte, reduceCtorEq, reduceAdd, reduceEqDiff, reduceLeDiff, reduceLT, eq_false hc2]; (repeat intro (_ : _ ≤ lim))
    by_cases hc4 : r3 < 0
    · rw [if_pos hc4] at h
      refine SemF.cond rfl ?_
      simp only [gE, ↓gT, ↓reduceIte, reduceCtorEq, reduceAdd, reduceEqDiff, reduceLeDiff, reduceLT, eq_false hc2, eq_true hc4]
      refine SemF.seq rfl ?_
      refine SemF.reg true rfl ?_
      try simp only [gE, ↓gT, ↓reduceIte, reduceCtorEq, reduceAdd, reduceEqDiff, reduceLeDiff, reduceLT, eq_false hc2, eq_true hc4]; (repeat intro (_ : _ ≤ lim))
      refine SemF.ret rfl ?_
      try simp only [gE, ↓gT, ↓reduceIte, reduceCtorEq, reduceAdd, reduceEqDiff, reduceLeDiff, reduceLT, eq_false hc2, eq_true hc4]; (repeat intro (_ : _ ≤ lim))
      obtain rfl := Option.some.inj h
      simp only [gE, ↓gT, ↓reduceIte, reduceCtorEq, reduceAdd, reduceEqDiff, reduceLeDiff, reduceLT, RetP_def, eq_false hc2, eq_true hc4]
    · rw [if_neg hc4] at h
      refine SemF.cond rfl ?_
      simp only [gE, ↓gT, ↓reduceIte, reduceCtorEq, reduceAdd, reduceEqDiff, reduceLeDiff, reduceLT, eq_false hc2, eq_false hc4]
      refine SemF.skip rfl ?_
      simp only [gE, ↓gT, ↓reduceIte, reduceCtorEq, reduceAdd, reduceEqDiff, reduceLeDiff, reduceLT, eq_false hc2, eq_false hc4]
      refine SemF.seq rfl ?_
      refine SemF.dreg true rfl ?_
      try simp only [gE, ↓gT, ↓reduceIte, reduceCtorEq, reduceAdd, reduceEqDiff, reduceLeDiff, reduceLT, eq_false hc2, eq_false hc4]; (repeat intro (_ : _ ≤ lim))
      obtain ⟨r5, h_r5, h⟩ := bs h
      refine HCp.callE (K.laws_toProg p0 r5 h_r5) (by simp only [gE, ↓gT, ↓reduceIte, reduceCtorEq, reduceAdd, reduceEqDiff, reduceLeDiff, reduceLT, eq_false hc2, eq_false hc4]) (by simp only [scT, esT, and_self, true_and, and_true]) (by simp only [scT, esT, and_self, true_and, and_true]) ?_
      try simp only [gE, ↓gT, ↓reduceIte, reduceCtorEq, reduceAdd, reduceEqDiff, reduceLeDiff, reduceLT, eq_false hc2, eq_false hc4]; (repeat intro (_ : _ ≤ lim))
      obtain ⟨r6, h_r6, h⟩ := bs h
      refine HCp.callE (K.laws_toProg p1 r6 h_r6) (by simp only [gE, ↓gT, ↓reduceIte, reduceCtorEq, reduceAdd, reduceEqDiff, reduceLeDiff, reduceLT, eq_false hc2, eq_false hc4]) (by simp only [scT, esT, and_self, true_and, and_true]) (by simp only [scT, esT, and_self, true_and, and_true]) ?_
      try simp only [gE, ↓gT, ↓reduceIte, reduceCtorEq, reduceAdd, reduceEqDiff, reduceLeDiff, reduceLT, eq_false hc2, eq_false hc4]; (repeat intro (_ : _ ≤ lim))
      obtain ⟨r7, h_r7, h⟩ := bs h
      refine HCp.callE (K.spec_SameProg (r5, r6) r7 h_r7) (by simp only [gE, ↓gT, ↓reduceIte, reduceCtorEq, reduceAdd, reduceEqDiff, reduceLeDiff, reduceLT, eq_false hc2, eq_false hc4]) (by simp only [scT, esT, and_self, true_and, and_true]) (by simp only [scT, esT, and_self, true_and, and_true]) ?_
      try simp only [gE, ↓gT, ↓reduceIte, reduceCtorEq, reduceAdd, reduceEqDiff, reduceLeDiff, reduceLT, eq_false hc2, eq_false hc4]; (repeat intro (_ : _ ≤ lim))
      refine SemF.seq rfl ?_
      refine SemF.reg true rfl ?_
      try simp only [gE, ↓gT, ↓reduceIte, reduceCtorEq, reduceAdd, reduceEqDiff, reduceLeDiff, reduceLT, eq_false hc2, eq_false hc4]; (repeat intro (_ : _ ≤ lim))
      obtain ⟨r8, h_r8, h⟩ := bs h
      refine HCp.callE (K.laws_toProg p0 r8 h_r8) (by simp only [gE, ↓gT, ↓reduceIte, reduceCtorEq, reduceAdd, reduceEqDiff, reduceLeDiff, reduceLT, eq_false hc2, eq_false hc4]) (by simp only [scT, esT, and_self, true_and, and_true]) (by simp only [scT, esT, and_self, true_and, and_true]) ?_
      try simp only [gE, ↓gT, ↓reduceIte, reduceCtorEq, reduceAdd, reduceEqDiff, reduceLeDiff, reduceLT, eq_false hc2, eq_false hc4]; (repeat intro (_ : _ ≤ lim))
      refine SemF.seq rfl ?_
      refine SemF.reg true rfl ?_
      try simp only [gE, ↓gT, ↓reduceIte, reduceCtorEq, reduceAdd, reduceEqDiff, reduceLeDiff, reduceLT, eq_false hc2, eq_false hc4]; (repeat intro (_ : _ ≤ lim))
      obtain ⟨r9, h_r9, h⟩ := bs h
      refine HCp.callE (K.laws_toProg p1 r9 h_r9) (by simp only [gE, ↓gT, ↓reduceIte, reduceCtorEq, reduceAdd, reduceEqDiff, reduceLeDiff, reduceLT, eq_false hc2, eq_false hc4]) (by simp only [scT, esT, and_self, true_and, and_true]) (by simp only [scT, esT, and_self, true_and, and_true]) ?_
      try simp only [gE, ↓gT, ↓reduceIte, reduceCtorEq, reduceAdd, reduceEqDiff, reduceLeDiff, reduceLT, eq_false hc2, eq_false hc4]; (repeat intro (_ : _ ≤ lim))
      refine SemF.seq rfl ?_
      refine SemF.reg true rfl ?_
      try simp only [gE, ↓gT, ↓reduceIte, reduceCtorEq, reduceAdd, reduceEqDiff, reduceLeDiff, reduceLT, eq_false hc2, eq_false hc4]; (repeat intro (_ : _ ≤ lim))
      obtain ⟨r10, h_r10, h⟩ := bs h
      refine HCp.callE (K.impl_SameProg (r8, r9) r10 h_r10) (by simp only [gE, ↓gT, ↓reduceIte, reduceCtorEq, reduceAdd, reduceEqDiff, reduceLeDiff, reduceLT, eq_false hc2, eq_false hc4]) (by simp only [scT, esT, and_self, true_and, and_true]) (by simp only [scT, esT, and_self, true_and, and_true]) ?_
      try simp only [gE, ↓gT, ↓reduceIte, reduceCtorEq, reduceAdd, reduceEqDiff, reduceLeDiff, reduceLT, eq_false hc2, eq_false hc4]; (repeat intro (_ : _ ≤ lim))
      refine SemF.seq rfl ?_
      refine SemF.seq rfl ?_
      refine SemF.reg true rfl ?_
      try simp only [gE, ↓gT, ↓reduceIte, reduceCtorEq, reduceAdd, reduceEqDiff, reduceLeDiff, reduceLT, eq_false hc2, eq_false hc4]; (repeat intro (_ : _ ≤ lim))
      by_cases hc11 : (r10 == r7) = true
      · rw [if_pos hc11] at h
        refine SemF.cond rfl ?_
        simp only [gE, ↓gT, ↓reduceIte, reduceCtorEq, reduceAdd, reduceEqDiff, reduceLeDiff, reduceLT, eq_false hc2, eq_false hc4, hc11]
        refine SemF.skip rfl ?_
        simp only [gE, ↓gT, ↓reduceIte, reduceCtorEq, reduceAdd, reduceEqDiff, reduceLeDiff, reduceLT, eq_false hc2, eq_false hc4, hc11]
        refine SemF.seq rfl ?_
        refine SemF.seq rfl ?_
        refine SemF.dreg true rfl ?_
        try simp only [gE, ↓gT, ↓reduceIte, reduceCtorEq, reduceAdd, reduceEqDiff, reduceLeDiff, reduceLT, eq_false hc2, eq_false hc4, hc11]; (repeat intro (_ : _ ≤ lim))
        obtain ⟨r12, h_r12, h⟩ := bs h
        refine HCp.callE (K.laws_toProg p0 r12 h_r12) (by simp only [gE, ↓gT, ↓reduceIte, reduceCtorEq, reduceAdd, reduceEqDiff, reduceLeDiff, reduceLT, eq_false hc2, eq_false hc4, hc11]) (by simp only [scT, esT, and_self, true_and, and_true]) (by simp only [scT, esT, and_self, true_and, and_true]) ?_
        try simp only [gE, ↓gT, ↓reduceIte, reduceCtorEq, reduceAdd, reduceEqDiff, reduceLeDiff, reduceLT, eq_false hc2, eq_false hc4, hc11]; (repeat intro (_ : _ ≤ lim))
        obtain ⟨r13, h_r13, h⟩ := bs h
        refine HCp.callE (K.laws_eqProg (r8, r12) r13 h_r13) (by simp only [gE, ↓gT, ↓reduceIte, reduceCtorEq, reduceAdd, reduceEqDiff, reduceLeDiff, reduceLT, eq_false hc2, eq_false hc4, hc11]) (by simp only [scT, esT, and_self, true_and, and_true]) (by simp only [scT, esT, and_self, true_and, and_true]) ?_
        try simp only [gE, ↓gT, ↓reduceIte, reduceCtorEq, reduceAdd, reduceEqDiff, reduceLeDiff, reduceLT, eq_false hc2, eq_false hc4, hc11]; (repeat intro (_ : _ ≤ lim))
        by_cases hc14 : r13 = true
        · rw [if_pos hc14] at h
          refine SemF.cond rfl ?_
          simp only [gE, ↓gT, ↓reduceIte, reduceCtorEq, reduceAdd, reduceEqDiff, reduceLeDiff, reduceLT, eq_false hc2, eq_false hc4, hc11, hc14]
          refine SemF.skip rfl ?_
          simp only [gE, ↓gT, ↓reduceIte, reduceCtorEq, reduceAdd, reduceEqDiff, reduceLeDiff, reduceLT, eq_false hc2, eq_false hc4, hc11, hc14]
          refine SemF.seq rfl ?_
          refine SemF.seq rfl ?_
          refine SemF.dreg true rfl ?_
          try simp only [gE, ↓gT, ↓reduceIte, reduceCtorEq, reduceAdd, reduceEqDiff, reduceLeDiff, reduceLT, eq_false hc2, eq_false hc4, hc11, hc14]; (repeat intro (_ : _ ≤ lim))
          obtain ⟨r15, h_r15, h⟩ := bs h
          refine HCp.callE (K.laws_toProg p1 r15 h_r15) (by simp only [gE, ↓gT, ↓reduceIte, reduceCtorEq, reduceAdd, reduceEqDiff, reduceLeDiff, reduceLT, eq_false hc2, eq_false hc4, hc11, hc14]) (by simp only [scT, esT, and_self, true_and, and_true]) (by simp only [scT, esT, and_self, true_and, and_true]) ?_
          try simp only [gE, ↓gT, ↓reduceIte, reduceCtorEq, reduceAdd, reduceEqDiff, reduceLeDiff, reduceLT, eq_false hc2, eq_false hc4, hc11, hc14]; (repeat intro (_ : _ ≤ lim))
          obtain ⟨r16, h_r16, h⟩ := bs h
          refine HCp.callE (K.laws_eqProg (r9, r15) r16 h_r16) (by simp only [gE, ↓gT, ↓reduceIte, reduceCtorEq, reduceAdd, reduceEqDiff, reduceLeDiff, reduceLT, eq_false hc2, eq_false hc4, hc11, hc14]) (by simp only [scT, esT, and_self, true_and, and_true]) (by simp only [scT, esT, and_self, true_and, and_true]) ?_
          try simp only [gE, ↓gT, ↓reduceIte, reduceCtorEq, reduceAdd, reduceEqDiff, reduceLeDiff, reduceLT, eq_false hc2, eq_false hc4, hc11, hc14]; (repeat intro (_ : _ ≤ lim))
          by_cases hc17 : r16 = true
          · rw [if_pos hc17] at h
            refine SemF.cond rfl ?_
            simp only [gE, ↓gT, ↓reduceIte, reduceCtorEq, reduceAdd, reduceEqDiff, reduceLeDiff, reduceLT, eq_false hc2, eq_false hc4, hc11, hc14, hc17]
            refine SemF.skip rfl ?_
            simp only [gE, ↓gT, ↓reduceIte, reduceCtorEq, reduceAdd, reduceEqDiff, reduceLeDiff, reduceLT, eq_false hc2, eq_false hc4, hc11, hc14, hc17]
            refine SemF.seq rfl ?_
            refine SemF.reg true rfl ?_
            try simp only [gE, ↓gT, ↓reduceIte, reduceCtorEq, reduceAdd, reduceEqDiff, reduceLeDiff, reduceLT, eq_false hc2, eq_false hc4, hc11, hc14, hc17]; (repeat intro (_ : _ ≤ lim))
            refine SemF.ret rfl ?_
            try simp only [gE, ↓gT, ↓reduceIte, reduceCtorEq, reduceAdd, reduceEqDiff, reduceLeDiff, reduceLT, eq_false hc2, eq_false hc4, hc11, hc14, hc17]; (repeat intro (_ : _ ≤ lim))
            obtain rfl := Option.some.inj h
            simp only [gE, ↓gT, ↓reduceIte, reduceCtorEq, reduceAdd, reduceEqDiff, reduceLeDiff, reduceLT, RetP_def, eq_false hc2, eq_false hc4, hc11, hc14, hc17]
          · rw [if_neg hc17] at h
            replace hc17 := eq_false_of_ne_true hc17
            refine SemF.cond rfl ?_
            simp only [gE, ↓gT, ↓reduceIte, reduceCtorEq, reduceAdd, reduceEqDiff, reduceLeDiff, reduceLT, eq_false hc2, eq_false hc4, hc11, hc14, hc17]
            refine SemF.seq rfl ?_
            refine SemF.reg true rfl ?_
            try simp only [gE, ↓gT, ↓reduceIte, reduceCtorEq, reduceAdd, reduceEqDiff, reduceLeDiff, reduceLT, eq_false hc2, eq_false hc4, hc11, hc14, hc17]; (repeat intro (_ : _ ≤ lim))
            refine SemF.ret rfl ?_
            try simp only [gE, ↓gT, ↓reduceIte, reduceCtorEq, reduceAdd, reduceEqDiff, reduceLeDiff, reduceLT, eq_false hc2, eq_false hc4, hc11, hc14, hc17]; (repeat intro (_ : _ ≤ lim))
            obtain rfl := Option.some.inj h
            simp only [gE, ↓gT, ↓reduceIte, reduceCtorEq, reduceAdd, reduceEqDiff, reduceLeDiff, reduceLT, RetP_def, eq_false hc2, eq_false hc4, hc11, hc14, hc17]
        · rw [if_neg hc14] at h
          replace hc14 := eq_false_of_ne_true hc14
          refine SemF.cond rfl ?_
          simp only [gE, ↓gT, ↓reduceIte, reduceCtorEq, reduceAdd, reduceEqDiff, reduceLeDiff, reduceLT, eq_false hc2, eq_false hc4, hc11, hc14]
          refine SemF.seq rfl ?_
          refine SemF.reg true rfl ?_
          try simp only [gE, ↓gT, ↓reduceIte, reduceCtorEq, reduceAdd, reduceEqDiff, reduceLeDiff, reduceLT, eq_false hc2, eq_false hc4, hc11, hc14]; (repeat intro (_ : _ ≤ lim))
          refine SemF.ret rfl ?_
          try simp only [gE, ↓gT, ↓reduceIte, reduceCtorEq, reduceAdd, reduceEqDiff, reduceLeDiff, reduceLT, eq_false hc2, eq_false hc4, hc11, hc14]; (repeat intro (_ : _ ≤ lim))
          obtain rfl := Option.some.inj h
          simp only [gE, ↓gT, ↓reduceIte, reduceCtorEq, reduceAdd, reduceEqDiff, reduceLeDiff, reduceLT, RetP_def, eq_false hc2, eq_false hc4, hc11, hc14]
      · rw [if_neg hc11] at h
        replace hc11 := eq_false_of_ne_true hc11
        refine SemF.cond rfl ?_
        simp only [gE, ↓gT, ↓reduceIte, reduceCtorEq, reduceAdd, reduceEqDiff, reduceLeDiff, reduceLT, eq_false hc2, eq_false hc4, hc11]
        refine SemF.seq rfl ?_
        refine SemF.reg true rfl ?_
        try simp only [gE, ↓gT, ↓reduceIte, reduceCtorEq, reduceAdd, reduceEqDiff, reduceLeDiff, reduceLT, eq_false hc2, eq_false hc4, hc11]; (repeat intro (_ : _ ≤ lim))
        refine SemF.ret rfl ?_
        try simp only [gE, ↓gT, ↓reduceIte, reduceCtorEq, reduceAdd, reduceEqDiff, reduceLeDiff, reduceLT, eq_false hc2, eq_false hc4, hc11]; (repeat intro (_ : _ ≤ lim))
        obtain rfl := Option.some.inj h
        simp only [gE, ↓gT, ↓reduceIte, reduceCtorEq, reduceAdd, reduceEqDiff, reduceLeDiff, reduceLT, RetP_def, eq_false hc2, eq_false hc4, hc11]
end K
end W
