import Derived.Test.YtnhdobhfebiggaaDoorUPrf4
namespace W
set_option linter.unusedSimpArgs false
set_option linter.unusedVariables false
open Go HL S
open Nat (reduceAdd reduceEqDiff reduceLeDiff reduceSub reduceMul reduceLT)
set_option linter.unusedVariables false
set_option maxRecDepth 100000
set_option maxHeartbeats 4000000
namespace K
theorem laws_toResS_L0_step (f_laws_toRes : Res → Option Res) (f_laws_toResS_L0 : ((List Res) × Int × (List Res)) → Option (List Res)) (ih_laws_toRes : ∀ (x : Res) (r : Res), f_laws_toRes x = some r → HCp P F.laws_toRes [(Res.enc x)] (Res.enc r)) (ih_laws_toResS_L0 : ∀ (x : ((List Res) × Int × (List Res))) (out : (List Res)), f_laws_toResS_L0 x = some out → ∀ Q : HExit → Env → St → Prop, (∀ env st sel, Weak 0 sel [(3, (.own 0 out.length))] [(.arr 4 (List.map Res.enc out) true)] env st → Q (.exit 0) env st) → SemL P H.laws_toResS.ntmps 0 H.laws_toResS_l5 [(0, (.sl (List.map Res.enc x.1))), (3, (.own 0 x.2.2.length)), (4, (.int .i64 x.2.1))] [(.arr 4 (List.map Res.enc x.2.2) true)] Q) (x : ((List Res) × Int × (List Res))) (out : (List Res)) (h : (if x.2.1 < ((x.1.length : Nat) : Int) then (ix x.1 x.2.1 >>= fun e20 =>
    (f_laws_toRes e20 >>= fun r21 =>
    (gd ((0 : Int) ≤ x.2.1) >>= fun u23 =>
    (gd (x.2.1 < ((x.2.2.length : Nat) : Int)) >>= fun u25 =>
    f_laws_toResS_L0 (x.1, (IntKind.i64.wrap (x.2.1 + 1)), (x.2.2.set x.2.1.toNat r21)))))) else
    some x.2.2) = some out) : ∀ Q : HExit → Env → St → Prop, (∀ env st sel, Weak 0 sel [(3, (.own 0 out.length))] [(.arr 4 (List.map Res.enc out) true)] env st → Q (.exit 0) env st) → SemL P H.laws_toResS.ntmps 0 H.laws_toResS_l5 [(0, (.sl (List.map Res.enc x.1))), (3, (.own 0 x.2.2.length)), (4, (.int .i64 x.2.1))] [(.arr 4 (List.map Res.enc x.2.2) true)] Q := by
  obtain ⟨p0, t4_L0, a0_L0⟩ := x
  try dsimp only at h
  intro Q hx
  refine SemL.round ?_
  try dsimp only at hx
  refine SemF.seq rfl ?_
  refine SemF.seq rfl ?_
  refine SemF.reg true rfl ?_
  try simp only [gE, ↓gT, ↓reduceIte, reduceCtorEq, reduceAdd, reduceEqDiff, reduceLeDiff, reduceLT]; (repeat intro (_ : _ ≤ lim))
  (repeat intro (_ : _ ≤ lim))
  by_cases hc19 : t4_L0 < ((p0.length : Nat) : Int)
  · rw [if_pos hc19] at h
    refine SemF.cond rfl ?_
    simp only [gE, ↓gT, ↓reduceIte, reduceCtorEq, reduceAdd, reduceEqDiff, reduceLeDiff, reduceLT, eq_true hc19]
    refine SemF.skip rfl ?_
    simp only [gE, ↓gT, ↓reduceIte, reduceCtorEq, reduceAdd, reduceEqDiff, reduceLeDiff, reduceLT, eq_true hc19]
    refine SemF.seq rfl ?_
    refine SemF.block rfl ?_
    refine SemF.reg true rfl ?_
    try simp only [gE, ↓gT, ↓reduceIte, reduceCtorEq, reduceAdd, reduceEqDiff, reduceLeDiff, reduceLT, eq_true hc19]; (repeat intro (_ : _ ≤ lim))
    obtain ⟨e20, h_e20, h⟩ := bs h
    have m_e20 := ixm (f := Res.enc) (ix_get h_e20)
    try simp only [gE, ↓gT, ↓reduceIte, reduceCtorEq, reduceAdd, reduceEqDiff, reduceLeDiff, reduceLT, eq_true hc19, eq_true (ix_nn h_e20), m_e20]; (repeat intro (_ : _ ≤ lim))
    obtain ⟨r21, h_r21, h⟩ := bs h
    refine HCp.callE (ih_laws_toRes e20 r21 h_r21) (by simp only [gE, ↓gT, ↓reduceIte, reduceCtorEq, reduceAdd, reduceEqDiff, reduceLeDiff, reduceLT, eq_true hc19, eq_true (ix_nn h_e20), m_e20]) (by simp only [scT, esT, and_self, true_and, and_true]) (by simp only [scT, esT, and_self, true_and, and_true]) ?_
    try simp only [gE, ↓gT, ↓reduceIte, reduceCtorEq, reduceAdd, reduceEqDiff, reduceLeDiff, reduceLT, eq_true hc19, eq_true (ix_nn h_e20), m_e20]; (repeat intro (_ : _ ≤ lim))
    obtain ⟨u23, h_u23, h⟩ := bs h
    have hg22 := gd_some h_u23
    try simp only [gE, ↓gT, ↓reduceIte, reduceCtorEq, reduceAdd, reduceEqDiff, reduceLeDiff, reduceLT, eq_true hc19, eq_true (ix_nn h_e20), m_e20, eq_true hg22]; (repeat intro (_ : _ ≤ lim))
    obtain ⟨u25, h_u25, h⟩ := bs h
    have hg24 := gd_some h_u25
    try simp only [gE, ↓gT, ↓reduceIte, reduceCtorEq, reduceAdd, reduceEqDiff, reduceLeDiff, reduceLT, eq_true hc19, eq_true (ix_nn h_e20), m_e20, eq_true hg22, eq_true hg24]; (repeat intro (_ : _ ≤ lim))
    obtain ⟨y26, m_y26⟩ := own_get (f := Res.enc) (l := a0_L0) (by simp only [List.length_replicate, List.length_set, List.length_append, List.length_cons, List.length_nil, Nat.zero_add, reduceAdd]) hg22 hg24
    try simp only [gE, ↓gT, ↓reduceIte, reduceCtorEq, reduceAdd, reduceEqDiff, reduceLeDiff, reduceLT, eq_true hc19, eq_true (ix_nn h_e20), m_e20, eq_true hg22, eq_true hg24, m_y26]; (repeat intro (_ : _ ≤ lim))
    refine SemF.reg true rfl ?_
    try simp only [gE, ↓gT, ↓reduceIte, reduceCtorEq, reduceAdd, reduceEqDiff, reduceLeDiff, reduceLT, eq_true hc19, eq_true (ix_nn h_e20), m_e20, eq_true hg22, eq_true hg24, m_y26]; (repeat intro (_ : _ ≤ lim))
    refine SemL.weak (sel := [0]) ⟨by simp only [gE, ↓gT, ↓reduceIte, reduceCtorEq, reduceAdd, reduceEqDiff, reduceLeDiff, reduceLT, hwT, selS, erT, eq_true hc19, eq_true (ix_nn h_e20), m_e20, eq_true hg22, eq_true hg24, m_y26], by decide, by decide, by simp only [gE, ↓gT, ↓reduceIte, reduceCtorEq, reduceAdd, reduceEqDiff, reduceLeDiff, reduceLT, hwT, selS, erT, subR, eq_true hc19, eq_true (ix_nn h_e20), m_e20, eq_true hg22, eq_true hg24, m_y26], by simp only [gE, ↓gT, ↓reduceIte, reduceCtorEq, reduceAdd, reduceEqDiff, reduceLeDiff, reduceLT, hwT, selS, erT, scT, esT, eq_true hc19, eq_true (ix_nn h_e20), m_e20, eq_true hg22, eq_true hg24, m_y26], by simp only [gE, ↓gT, ↓reduceIte, reduceCtorEq, reduceAdd, reduceEqDiff, reduceLeDiff, reduceLT, hwT, selS, erT, scT, esT, eq_true hc19, eq_true (ix_nn h_e20), m_e20, eq_true hg22, eq_true hg24, m_y26]⟩ (ih_laws_toResS_L0 (p0, (IntKind.i64.wrap (t4_L0 + 1)), (a0_L0.set t4_L0.toNat r21)) out h Q hx)
  · rw [if_neg hc19] at h
    refine SemF.cond rfl ?_
    simp only [gE, ↓gT, ↓reduceIte, reduceCtorEq, reduceAdd, reduceEqDiff, reduceLeDiff, reduceLT, eq_false hc19]
    refine SemF.exit rfl ?_
    simp only [gE, ↓gT, ↓reduceIte, reduceCtorEq, reduceAdd, reduceEqDiff, reduceLeDiff, reduceLT, eq_false hc19]
    obtain rfl := Option.some.inj h
    refine hx _ _ [0] ⟨by simp only [gE, ↓gT, ↓reduceIte, reduceCtorEq, reduceAdd, reduceEqDiff, reduceLeDiff, reduceLT, hwT, selS, erT, eq_false hc19], by decide, by decide, by simp only [gE, ↓gT, ↓reduceIte, reduceCtorEq, reduceAdd, reduceEqDiff, reduceLeDiff, reduceLT, hwT, selS, erT, subR, eq_false hc19], by simp only [gE, ↓gT, ↓reduceIte, reduceCtorEq, reduceAdd, reduceEqDiff, reduceLeDiff, reduceLT, hwT, selS, erT, scT, esT, eq_false hc19], by simp only [gE, ↓gT, ↓reduceIte, reduceCtorEq, reduceAdd, reduceEqDiff, reduceLeDiff, reduceLT, hwT, selS, erT, scT, esT, eq_false hc19]⟩
theorem laws_toRes_all : (∀ (x : Res) (r : Res), M.laws_toRes x = some r → HCp P F.laws_toRes [(Res.enc x)] (Res.enc r)) ∧
  (∀ (x : (List Res)) (r : (List Res)), M.laws_toResS x = some r → HCp P F.laws_toResS [(.sl (List.map Res.enc x))] (HV.sl (List.map Res.enc r))) ∧
  (∀ (x : ((List Res) × Int × (List Res))) (out : (List Res)), M.laws_toResS_L0 x = some out → ∀ Q : HExit → Env → St → Prop, (∀ env st sel, Weak 0 sel [(3, (.own 0 out.length))] [(.arr 4 (List.map Res.enc out) true)] env st → Q (.exit 0) env st) → SemL P H.laws_toResS.ntmps 0 H.laws_toResS_l5 [(0, (.sl (List.map Res.enc x.1))), (3, (.own 0 x.2.2.length)), (4, (.int .i64 x.2.1))] [(.arr 4 (List.map Res.enc x.2.2) true)] Q) := by
  refine M.laws_toRes.mutual_partial_correctness (motive_1 := fun x r => HCp P F.laws_toRes [(Res.enc x)] (Res.enc r)) (motive_2 := fun x r => HCp P F.laws_toResS [(.sl (List.map Res.enc x))] (HV.sl (List.map Res.enc r))) (motive_3 := fun x out => ∀ Q : HExit → Env → St → Prop, (∀ env st sel, Weak 0 sel [(3, (.own 0 out.length))] [(.arr 4 (List.map Res.enc out) true)] env st → Q (.exit 0) env st) → SemL P H.laws_toResS.ntmps 0 H.laws_toResS_l5 [(0, (.sl (List.map Res.enc x.1))), (3, (.own 0 x.2.2.length)), (4, (.int .i64 x.2.1))] [(.arr 4 (List.map Res.enc x.2.2) true)] Q) ?_ ?_ ?_
  · exact fun f_laws_toResS ih_laws_toResS x r h => K.laws_toRes_step f_laws_toResS ih_laws_toResS x r h
  · exact fun f_laws_toResS_L0 ih_laws_toResS_L0 x r h => K.laws_toResS_step f_laws_toResS_L0 ih_laws_toResS_L0 x r h
  · exact fun f_laws_toRes f_laws_toResS_L0 ih_laws_toRes ih_laws_toResS_L0 x out h => K.laws_toResS_L0_step f_laws_toRes f_laws_toResS_L0 ih_laws_toRes ih_laws_toResS_L0 x out h
theorem laws_toRes : (∀ (x : Res) (r : Res), M.laws_toRes x = some r → HCp P F.laws_toRes [(Res.enc x)] (Res.enc r)) := K.laws_toRes_all.1
theorem laws_toResS : (∀ (x : (List Res)) (r : (List Res)), M.laws_toResS x = some r → HCp P F.laws_toResS [(.sl (List.map Res.enc x))] (HV.sl (List.map Res.enc r))) := K.laws_toRes_all.2.1
theorem laws_toResS_L0 : (∀ (x : ((List Res) × Int × (List Res))) (out : (List Res)), M.laws_toResS_L0 x = some out → ∀ Q : HExit → Env → St → Prop, (∀ env st sel, Weak 0 sel [(3, (.own 0 out.length))] [(.arr 4 (List.map Res.enc out) true)] env st → Q (.exit 0) env st) → SemL P H.laws_toResS.ntmps 0 H.laws_toResS_l5 [(0, (.sl (List.map Res.enc x.1))), (3, (.own 0 x.2.2.length)), (4, (.int .i64 x.2.1))] [(.arr 4 (List.map Res.enc x.2.2) true)] Q) := K.laws_toRes_all.2.2
theorem laws_FnExactResText : ∀ (x : Res) (r : Bool), M.laws_FnExactResText x = some r → HCp P F.laws_FnExactResText [(Res.enc x)] (HV.bool r) := by
  intro x r h
  revert h; revert x; intro p0 h
  unfold M.laws_FnExactResText at h
  try dsimp only at h
  refine HCp.mkF S.laws_FnExactResText (by simp [H.laws_FnExactResText]) (by simp only [scT, esT, and_self, true_and, and_true]) ?_
  simp only [gE, ↓gT, ↓reduceIte, reduceCtorEq, reduceAdd, reduceEqDiff, reduceLeDiff, reduceLT, H.laws_FnExactResText]
  refine SemF.seq rfl ?_
  refine SemF.reg true rfl ?_
  try simp only [gE, ↓gT, ↓reduceIte, reduceCtorEq, reduceAdd, reduceEqDiff, reduceLeDiff, reduceLT]; (repeat intro (_ : _ ≤ lim))
  refine SemF.seq rfl ?_
  refine SemF.reg true rfl ?_
  try simp only [gE, ↓gT, ↓reduceIte, reduceCtorEq, reduceAdd, reduceEqDiff, reduceLeDiff, reduceLT]; (repeat intro (_ : _ ≤ lim))
  refine SemF.seq rfl ?_
  refine SemF.reg true rfl ?_
  try simp only [gE, ↓gT, ↓reduceIte, reduceCtorEq, reduceAdd, reduceEqDiff, reduceLeDiff, reduceLT]; (repeat intro (_ : _ ≤ lim))
  obtain ⟨r1, h_r1, h⟩ := bs h
  refine HCp.callE (K.laws_szRes (p0, 1048576) r1 h_r1) (by simp only [gE, ↓gT, ↓reduceIte, reduceCtorEq, reduceAdd, reduceEqDiff, reduceLeDiff, reduceLT]) (by simp only [scT, esT, and_self, true_and, and_true]) (by simp only [scT, esT, and_self, true_and, and_true]) ?_
  try simp only [gE, ↓gT, ↓reduceIte, reduceCtorEq, reduceAdd, reduceEqDiff, reduceLeDiff, reduceLT]; (repeat intro (_ : _ ≤ lim))
  refine SemF.seq rfl ?_
  refine SemF.seq rfl ?_
  refine SemF.reg true rfl ?_
  try simp only [gE, ↓gT, ↓reduceIte, reduceCtorEq, reduceAdd, reduceEqDiff, reduceLeDiff, reduceLT]; (repeat intro (_ : _ ≤ lim))
  by_cases hc2 : r1 < 0
  · rw [if_pos hc2] at h
    refine SemF.cond rfl ?_
    simp only [gE, ↓gT, ↓reduceIte, reduceCtorEq, reduceAdd, reduceEqDiff, reduceLeDiff, reduceLT, eq_true hc2]
    refine SemF.seq rfl ?_
    refine SemF.reg true rfl ?_
    try simp only [gE, ↓gT, ↓reduceIte, reduceCtorEq, reduceAdd, reduceEqDiff, reduceLeDiff, reduceLT, eq_true hc2]; (repeat intro (_ : _ ≤ lim))
    refine SemF.ret rfl ?_
    try simp only [gE, ↓gT, ↓reduceIte, reduceCtorEq, reduceAdd, reduceEqDiff, reduceLeDiff, reduceLT, eq_true hc2]; (repeat intro (_ : _ ≤ lim))
    obtain rfl := Option.some.inj h
    simp only [gE, ↓gT, ↓reduceIte, reduceCtorEq, reduceAdd, reduceEqDiff, reduceLeDiff, reduceLT, RetP_def, eq_true hc2]
  · rw [if_neg hc2] at h
    refine SemF.cond rfl ?_
    simp only [gE, ↓gT, ↓reduceIte, reduceCtorEq, reduceAdd, reduceEqDiff, reduceLeDiff, reduceLT, eq_false hc2]
    refine SemF.skip rfl ?_
    simp only [gE, ↓gT, ↓reduceIte, reduceCtorEq, reduceAdd, reduceEqDiff, reduceLeDiff, reduceLT, eq_false hc2]
    refine SemF.seq rfl ?_
    refine SemF.reg true rfl ?_
    try simp only [gE, ↓gT, ↓reduceIte, reduceCtorEq, reduceAdd, reduceEqDiff, reduceLeDiff, reduceLT, eq_false hc2]; (repeat intro (_ : _ ≤ lim))
    obtain ⟨r3, h_r3, h⟩ := bs h
    refine HCp.callE (K.laws_toRes p0 r3 h_r3) (by simp only [gE, ↓gT, ↓reduceIte, reduceCtorEq, reduceAdd, reduceEqDiff, reduceLeDiff, reduceLT, eq_false hc2]) (by simp only [scT, esT, and_self, true_and, and_true]) (by simp only [scT, esT, and_self, true_and, and_true]) ?_
    try simp only [gE, ↓gT, ↓reduceIte, reduceCtorEq, reduceAdd, reduceEqDiff, reduceLeDiff, reduceLT, eq_false hc2]; (repeat intro (_ : _ ≤ lim))
    obtain ⟨r4, h_r4, h⟩ := bs h
    refine HCp.callE (K.spec_ResText r3 r4 h_r4) (by simp only [gE, ↓gT, ↓reduceIte, reduceCtorEq, reduceAdd, reduceEqDiff, reduceLeDiff, reduceLT, eq_false hc2]) (by simp only [scT, esT, and_self, true_and, and_true]) (by simp only [scT, esT, and_self, true_and, and_true]) ?_
    try simp only [gE, ↓gT, ↓reduceIte, reduceCtorEq, reduceAdd, reduceEqDiff, reduceLeDiff, reduceLT, eq_false hc2]; (repeat intro (_ : _ ≤ lim))
    refine SemF.seq rfl ?_
    refine SemF.reg true rfl ?_
    try simp only [gE, ↓gT, ↓reduceIte, reduceCtorEq, reduceAdd, reduceEqDiff, reduceLeDiff, reduceLT, eq_false hc2]; (repeat intro (_ : _ ≤ lim))
    obtain ⟨r5, h_r5, h⟩ := bs h
    refine HCp.callE (K.laws_toRes p0 r5 h_r5) (by simp only [gE, ↓gT, ↓reduceIte, reduceCtorEq, reduceAdd, reduceEqDiff, reduceLeDiff, reduceLT, eq_false hc2]) (by simp only [scT, esT, and_self, true_and, and_true]) (by simp only [scT, esT, and_self, true_and, and_true]) ?_
    try simp only [gE, ↓gT, ↓reduceIte, reduceCtorEq, reduceAdd, reduceEqDiff, reduceLeDiff, reduceLT, eq_false hc2]; (repeat intro (_ : _ ≤ lim))
    refine SemF.seq rfl ?_
    refine SemF.reg true rfl ?_
    try simp only [gE, ↓gT, ↓reduceIte, reduceCtorEq, reduceAdd, reduceEqDiff, reduceLeDiff, reduceLT, eq_false hc2]; (repeat intro (_ : _ ≤ lim))
    obtain ⟨r6, h_r6, h⟩ := bs h
    refine HCp.callE (K.impl_ResText r5 r6 h_r6) (by simp only [gE, ↓gT, ↓reduceIte, reduceCtorEq, reduceAdd, reduceEqDiff, reduceLeDiff, reduceLT, eq_false hc2]) (by simp only [scT, esT, and_self, true_and, and_true]) (by simp only [scT, esT, and_self, true_and, and_true]) ?_
    try simp only [gE, ↓gT, ↓reduceIte, reduceCtorEq, reduceAdd, reduceEqDiff, reduceLeDiff, reduceLT, eq_false hc2]; (repeat intro (_ : _ ≤ lim))
    refine SemF.seq rfl ?_
    refine SemF.seq rfl ?_
    refine SemF.reg true rfl ?_
    try simp only [gE, ↓gT, ↓reduceIte, reduceCtorEq, reduceAdd, reduceEqDiff, reduceLeDiff, reduceLT, eq_false hc2]; (repeat intro (_ : _ ≤ lim))
    by_cases hc7 : r6 = r4
    · rw [if_pos hc7] at h
      refine SemF.cond rfl ?_
      simp only [gE, ↓gT, ↓reduceIte, reduceCtorEq, reduceAdd, reduceEqDiff, reduceLeDiff, reduceLT, eq_false hc2, eq_true hc7]
      refine SemF.skip rfl ?_
      simp only [gE, ↓gT, ↓reduceIte, reduceCtorEq, reduceAdd, reduceEqDiff, reduceLeDiff, reduceLT, eq_false hc2, eq_true hc7]
      refine SemF.seq rfl ?_
      refine SemF.seq rfl ?_
      refine SemF.dreg true rfl ?_
      try simp only [gE, ↓gT, ↓reduceIte, reduceCtorEq, reduceAdd, reduceEqDiff, reduceLeDiff, reduceLT, eq_false hc2, eq_true hc7]; (repeat intro (_ : _ ≤ lim))
      obtain ⟨r8, h_r8, h⟩ := bs h
      refine HCp.callE (K.laws_toRes p0 r8 h_r8) (by simp only [gE, ↓gT, ↓reduceIte, reduceCtorEq, reduceAdd, reduceEqDiff, reduceLeDiff, reduceLT, eq_false hc2, eq_true hc7]) (by simp only [scT, esT, and_self, true_and, and_true]) (by simp only [scT, esT, and_self, true_and, and_true]) ?_
      try simp only [gE, ↓gT, ↓reduceIte, reduceCtorEq, reduceAdd, reduceEqDiff, reduceLeDiff, reduceLT, eq_false hc2, eq_true hc7]; (repeat intro (_ : _ ≤ lim))
      obtain ⟨r9, h_r9, h⟩ := bs h
      refine HCp.callE (K.laws_eqRes (r5, r8) r9 h_r9) (by simp only [gE, ↓gT, ↓reduceIte, reduceCtorEq, reduceAdd, reduceEqDiff, reduceLeDiff, reduceLT, eq_false hc2, eq_true hc7]) (by simp only [scT, esT, and_self, true_and, and_true]) (by simp only [scT, esT, and_self, true_and, and_true]) ?_
      try simp only [gE, ↓gT, ↓reduceIte, reduceCtorEq, reduceAdd, reduceEqDiff, reduceLeDiff, reduceLT, eq_false hc2, eq_true hc7]; (repeat intro (_ : _ ≤ lim))
      by_cases hc10 : r9 = true
      · rw [if_pos hc10] at h
        refine SemF.cond rfl ?_
        simp only [gE, ↓gT, ↓reduceIte, reduceCtorEq, reduceAdd, reduceEqDiff, reduceLeDiff, reduceLT, eq_false hc2, eq_true hc7, hc10]
        refine SemF.skip rfl ?_
        simp only [gE, ↓gT, ↓reduceIte, reduceCtorEq, reduceAdd, reduceEqDiff, reduceLeDiff, reduceLT, eq_false hc2, eq_true hc7, hc10]
        refine SemF.seq rfl ?_
        refine SemF.reg true rfl ?_
        try simp only [gE, ↓gT, ↓reduceIte, reduceCtorEq, reduceAdd, reduceEqDiff, reduceLeDiff, reduceLT, eq_false hc2, eq_true hc7, hc10]; (repeat intro (_ : _ ≤ lim))
        refine SemF.ret rfl ?_
        try simp only [gE, ↓gT, ↓reduceIte, reduceCtorEq, reduceAdd, reduceEqDiff, reduceLeDiff, reduceLT, eq_false hc2, eq_true hc7, hc10]; (repeat intro (_ : _ ≤ lim))
        obtain rfl := Option.some.inj h
        simp only [gE, ↓gT, ↓reduceIte, reduceCtorEq, reduceAdd, reduceEqDiff, reduceLeDiff, reduceLT, RetP_def, eq_false hc2, eq_true hc7, hc10]
      · rw [if_neg hc10] at h
        replace hc10 := eq_false_of_ne_true hc10
        refine SemF.cond rfl ?_
        simp only [gE, ↓gT, ↓reduceIte, reduceCtorEq, reduceAdd, reduceEqDiff, reduceLeDiff, reduceLT, eq_false hc2, eq_true hc7, hc10]
        refine SemF.seq rfl ?_
        refine SemF.reg true rfl ?_
        try simp only [gE, ↓gT, ↓reduceIte, reduceCtorEq, reduceAdd, reduceEqDiff, reduceLeDiff, reduceLT, eq_false hc2, eq_true hc7, hc10]; (repeat intro (_ : _ ≤ lim))
        refine SemF.ret rfl ?_
        try simp only [gE, ↓gT, ↓reduceIte, reduceCtorEq, reduceAdd, reduceEqDiff, reduceLeDiff, reduceLT, eq_false hc2, eq_true hc7, hc10]; (repeat intro (_ : _ ≤ lim))
        obtain rfl := Option.some.inj h
        simp only [gE, ↓gT, ↓reduceIte, reduceCtorEq, reduceAdd, reduceEqDiff, reduceLeDiff, reduceLT, RetP_def, eq_false hc2, eq_true hc7, hc10]
    · rw [if_neg hc7] at h
      refine SemF.cond rfl ?_
      simp only [gE, ↓gT, ↓reduceIte, reduceCtorEq, reduceAdd, reduceEqDiff, reduceLeDiff, reduceLT, eq_false hc2, eq_false hc7]
      refine SemF.seq rfl ?_
      refine SemF.reg true rfl ?_
      try simp only [gE, ↓gT, ↓reduceIte, reduceCtorEq, reduceAdd, reduceEqDiff, reduceLeDiff, reduceLT, eq_false hc2, eq_false hc7]; (repeat intro (_ : _ ≤ lim))
      refine SemF.ret rfl ?_
      try simp only [gE, ↓gT, ↓reduceIte, reduceCtorEq, reduceAdd, reduceEqDiff, reduceLeDiff, reduceLT, eq_false hc2, eq_false hc7]; (repeat intro (_ : _ ≤ lim))
      obtain rfl := Option.some.inj h
      simp only [gE, ↓gT, ↓reduceIte, reduceCtorEq, reduceAdd, reduceEqDiff, reduceLeDiff, reduceLT, RetP_def, eq_false hc2, eq_false hc7]
end K
end W
