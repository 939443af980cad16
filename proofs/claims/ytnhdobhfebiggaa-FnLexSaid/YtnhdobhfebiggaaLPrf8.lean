import Derived.Test.YtnhdobhfebiggaaLPrf7
namespace W
set_option linter.unusedSimpArgs false
set_option linter.unusedVariables false
open Go HL S
open Nat (reduceAdd reduceEqDiff reduceLeDiff reduceSub reduceMul reduceLT)
set_option linter.unusedVariables false
set_option maxRecDepth 100000
set_option maxHeartbeats 4000000
namespace K
theorem spec_l1Next_L0 : ∀ (x : (ByteArray × Int × Int)) (out : Int), M.spec_l1Next_L0 x = some out → ∀ Q : HExit → Env → St → Prop, (∀ env st sel, Weak 0 sel [(0, (.str x.1)), (1, (.int .i64 x.2.1)), (7, (.int .i64 out))] [] env st → Q (.exit 1) env st) → SemL P H.spec_l1Next.ntmps 0 H.spec_l1Next_l17 [(0, (.str x.1)), (1, (.int .i64 x.2.1)), (7, (.int .i64 x.2.2))] [] Q := by
  refine M.spec_l1Next_L0.partial_correctness (motive := fun x out => ∀ Q : HExit → Env → St → Prop, (∀ env st sel, Weak 0 sel [(0, (.str x.1)), (1, (.int .i64 x.2.1)), (7, (.int .i64 out))] [] env st → Q (.exit 1) env st) → SemL P H.spec_l1Next.ntmps 0 H.spec_l1Next_l17 [(0, (.str x.1)), (1, (.int .i64 x.2.1)), (7, (.int .i64 x.2.2))] [] Q) ?_
  intro f_spec_l1Next_L0 ih_spec_l1Next_L0 x out h
  obtain ⟨p0, p1, t7_L0⟩ := x
  try dsimp only at h
  intro Q hx
  refine SemL.round ?_
  try dsimp only at hx
  refine SemF.seq rfl ?_
  refine SemF.seq rfl ?_
  refine SemF.reg true rfl ?_
  try simp only [gE, ↓gT, ↓reduceIte, reduceCtorEq, reduceAdd, reduceEqDiff, reduceLeDiff, reduceLT]; (repeat intro (_ : _ ≤ lim))
  (repeat intro (_ : _ ≤ lim))
  by_cases hc8 : t7_L0 < ((p0.size : Nat) : Int)
  · rw [if_pos hc8] at h
    try simp only [gE, ↓gT, ↓reduceIte, reduceCtorEq, reduceAdd, reduceEqDiff, reduceLeDiff, reduceLT, eq_true hc8]; (repeat intro (_ : _ ≤ lim))
    obtain ⟨c9, h_c9, h⟩ := bs h
    obtain ⟨c_c9, m_c9, v_c9⟩ := bx_get h_c9
    try simp only [gE, ↓gT, ↓reduceIte, reduceCtorEq, reduceAdd, reduceEqDiff, reduceLeDiff, reduceLT, eq_true hc8, eq_true (bx_nn h_c9), m_c9, v_c9]; (repeat intro (_ : _ ≤ lim))
    obtain ⟨r10, h_r10, h⟩ := bs h
    refine HCp.callE (K.spec_l1Digit c9 r10 h_r10) (by simp only [gE, ↓gT, ↓reduceIte, reduceCtorEq, reduceAdd, reduceEqDiff, reduceLeDiff, reduceLT, eq_true hc8, eq_true (bx_nn h_c9), m_c9, v_c9]) (by simp only [scT, esT, and_self, true_and, and_true]) (by simp only [scT, esT, and_self, true_and, and_true]) ?_
    try simp only [gE, ↓gT, ↓reduceIte, reduceCtorEq, reduceAdd, reduceEqDiff, reduceLeDiff, reduceLT, eq_true hc8, eq_true (bx_nn h_c9), m_c9, v_c9]; (repeat intro (_ : _ ≤ lim))
    by_cases hc11 : r10 = true
    · rw [if_pos hc11] at h
      refine SemF.cond rfl ?_
      simp only [gE, ↓gT, ↓reduceIte, reduceCtorEq, reduceAdd, reduceEqDiff, reduceLeDiff, reduceLT, eq_true hc8, eq_true (bx_nn h_c9), m_c9, v_c9, hc11]
      refine SemF.skip rfl ?_
      simp only [gE, ↓gT, ↓reduceIte, reduceCtorEq, reduceAdd, reduceEqDiff, reduceLeDiff, reduceLT, eq_true hc8, eq_true (bx_nn h_c9), m_c9, v_c9, hc11]
      refine SemF.block rfl ?_
      refine SemF.reg true rfl ?_
      try simp only [gE, ↓gT, ↓reduceIte, reduceCtorEq, reduceAdd, reduceEqDiff, reduceLeDiff, reduceLT, eq_true hc8, eq_true (bx_nn h_c9), m_c9, v_c9, hc11]; (repeat intro (_ : _ ≤ lim))
      refine SemL.weak (sel := []) ⟨by simp only [gE, ↓gT, ↓reduceIte, reduceCtorEq, reduceAdd, reduceEqDiff, reduceLeDiff, reduceLT, hwT, selS, erT, eq_true hc8, eq_true (bx_nn h_c9), m_c9, v_c9, hc11], by decide, by decide, by simp only [gE, ↓gT, ↓reduceIte, reduceCtorEq, reduceAdd, reduceEqDiff, reduceLeDiff, reduceLT, hwT, selS, erT, subR, eq_true hc8, eq_true (bx_nn h_c9), m_c9, v_c9, hc11], by simp only [gE, ↓gT, ↓reduceIte, reduceCtorEq, reduceAdd, reduceEqDiff, reduceLeDiff, reduceLT, hwT, selS, erT, scT, esT, eq_true hc8, eq_true (bx_nn h_c9), m_c9, v_c9, hc11], by simp only [gE, ↓gT, ↓reduceIte, reduceCtorEq, reduceAdd, reduceEqDiff, reduceLeDiff, reduceLT, hwT, selS, erT, scT, esT, eq_true hc8, eq_true (bx_nn h_c9), m_c9, v_c9, hc11]⟩ (ih_spec_l1Next_L0 (p0, p1, (IntKind.i64.wrap (t7_L0 + 1))) out h Q hx)
    · rw [if_neg hc11] at h
      replace hc11 := eq_false_of_ne_true hc11
      refine SemF.cond rfl ?_
      simp only [gE, ↓gT, ↓reduceIte, reduceCtorEq, reduceAdd, reduceEqDiff, reduceLeDiff, reduceLT, eq_true hc8, eq_true (bx_nn h_c9), m_c9, v_c9, hc11]
      refine SemF.exit rfl ?_
      simp only [gE, ↓gT, ↓reduceIte, reduceCtorEq, reduceAdd, reduceEqDiff, reduceLeDiff, reduceLT, eq_true hc8, eq_true (bx_nn h_c9), m_c9, v_c9, hc11]
      obtain rfl := Option.some.inj h
      refine hx _ _ [] ⟨by simp only [gE, ↓gT, ↓reduceIte, reduceCtorEq, reduceAdd, reduceEqDiff, reduceLeDiff, reduceLT, hwT, selS, erT, eq_true hc8, eq_true (bx_nn h_c9), m_c9, v_c9, hc11], by decide, by decide, by simp only [gE, ↓gT, ↓reduceIte, reduceCtorEq, reduceAdd, reduceEqDiff, reduceLeDiff, reduceLT, hwT, selS, erT, subR, eq_true hc8, eq_true (bx_nn h_c9), m_c9, v_c9, hc11], by simp only [gE, ↓gT, ↓reduceIte, reduceCtorEq, reduceAdd, reduceEqDiff, reduceLeDiff, reduceLT, hwT, selS, erT, scT, esT, eq_true hc8, eq_true (bx_nn h_c9), m_c9, v_c9, hc11], by simp only [gE, ↓gT, ↓reduceIte, reduceCtorEq, reduceAdd, reduceEqDiff, reduceLeDiff, reduceLT, hwT, selS, erT, scT, esT, eq_true hc8, eq_true (bx_nn h_c9), m_c9, v_c9, hc11]⟩
  · rw [if_neg hc8] at h
    try simp only [gE, ↓gT, ↓reduceIte, reduceCtorEq, reduceAdd, reduceEqDiff, reduceLeDiff, reduceLT, eq_false hc8]; (repeat intro (_ : _ ≤ lim))
    refine SemF.cond rfl ?_
    simp only [gE, ↓gT, ↓reduceIte, reduceCtorEq, reduceAdd, reduceEqDiff, reduceLeDiff, reduceLT, eq_false hc8]
    refine SemF.exit rfl ?_
    simp only [gE, ↓gT, ↓reduceIte, reduceCtorEq, reduceAdd, reduceEqDiff, reduceLeDiff, reduceLT, eq_false hc8]
    obtain rfl := Option.some.inj h
    refine hx _ _ [] ⟨by simp only [gE, ↓gT, ↓reduceIte, reduceCtorEq, reduceAdd, reduceEqDiff, reduceLeDiff, reduceLT, hwT, selS, erT, eq_false hc8], by decide, by decide, by simp only [gE, ↓gT, ↓reduceIte, reduceCtorEq, reduceAdd, reduceEqDiff, reduceLeDiff, reduceLT, hwT, selS, erT, subR, eq_false hc8], by simp only [gE, ↓gT, ↓reduceIte, reduceCtorEq, reduceAdd, reduceEqDiff, reduceLeDiff, reduceLT, hwT, selS, erT, scT, esT, eq_false hc8], by simp only [gE, ↓gT, ↓reduceIte, reduceCtorEq, reduceAdd, reduceEqDiff, reduceLeDiff, reduceLT, hwT, selS, erT, scT, esT, eq_false hc8]⟩
theorem spec_l1Next : ∀ (x : (ByteArray × Int)) (r : (Int × Int)), M.spec_l1Next x = some r → HCp P F.spec_l1Next [(.str x.1), (.int .i64 x.2)] (HV.tup [(HV.int .i64 r.1), (HV.int .i64 r.2)]) := by
  intro x r h
  obtain ⟨p0, p1⟩ := x
  unfold M.spec_l1Next at h
  try dsimp only at h
  refine HCp.mkF S.spec_l1Next (by simp [H.spec_l1Next]) (by simp only [scT, esT, and_self, true_and, and_true]) ?_
  simp only [gE, ↓gT, ↓reduceIte, reduceCtorEq, reduceAdd, reduceEqDiff, reduceLeDiff, reduceLT, H.spec_l1Next]
  refine SemF.seq rfl ?_
  refine SemF.reg true rfl ?_
  try simp only [gE, ↓gT, ↓reduceIte, reduceCtorEq, reduceAdd, reduceEqDiff, reduceLeDiff, reduceLT]; (repeat intro (_ : _ ≤ lim))
  refine SemF.seq rfl ?_
  refine SemF.reg true rfl ?_
  try simp only [gE, ↓gT, ↓reduceIte, reduceCtorEq, reduceAdd, reduceEqDiff, reduceLeDiff, reduceLT]; (repeat intro (_ : _ ≤ lim))
  obtain ⟨c1, h_c1, h⟩ := bs h
  obtain ⟨c_c1, m_c1, v_c1⟩ := bx_get h_c1
  try simp only [gE, ↓gT, ↓reduceIte, reduceCtorEq, reduceAdd, reduceEqDiff, reduceLeDiff, reduceLT, eq_true (bx_nn h_c1), m_c1, v_c1]; (repeat intro (_ : _ ≤ lim))
  refine SemF.seq rfl ?_
  refine SemF.reg true rfl ?_
  try simp only [gE, ↓gT, ↓reduceIte, reduceCtorEq, reduceAdd, reduceEqDiff, reduceLeDiff, reduceLT, eq_true (bx_nn h_c1), m_c1, v_c1]; (repeat intro (_ : _ ≤ lim))
  refine SemF.seq rfl ?_
  refine SemF.block rfl ?_
  refine SemF.seq rfl ?_
  refine SemF.reg true rfl ?_
  try simp only [gE, ↓gT, ↓reduceIte, reduceCtorEq, reduceAdd, reduceEqDiff, reduceLeDiff, reduceLT, eq_true (bx_nn h_c1), m_c1, v_c1]; (repeat intro (_ : _ ≤ lim))
  obtain ⟨r2, h_r2, h⟩ := bs h
  refine HCp.callE (K.spec_l1Digit c1 r2 h_r2) (by simp only [gE, ↓gT, ↓reduceIte, reduceCtorEq, reduceAdd, reduceEqDiff, reduceLeDiff, reduceLT, eq_true (bx_nn h_c1), m_c1, v_c1]) (by simp only [scT, esT, and_self, true_and, and_true]) (by simp only [scT, esT, and_self, true_and, and_true]) ?_
  try simp only [gE, ↓gT, ↓reduceIte, reduceCtorEq, reduceAdd, reduceEqDiff, reduceLeDiff, reduceLT, eq_true (bx_nn h_c1), m_c1, v_c1]; (repeat intro (_ : _ ≤ lim))
  by_cases hc3 : r2 = true
  · rw [if_pos hc3] at h
    refine SemF.cond rfl ?_
    simp only [gE, ↓gT, ↓reduceIte, reduceCtorEq, reduceAdd, reduceEqDiff, reduceLeDiff, reduceLT, eq_true (bx_nn h_c1), m_c1, v_c1, hc3]
    refine SemF.seq rfl ?_
    refine SemF.block rfl ?_
    obtain ⟨s12, h_s12, h⟩ := bs h
    refine SemF.loop rfl ?_
    refine SemL.weak (sel := []) ⟨by simp only [gE, ↓gT, ↓reduceIte, reduceCtorEq, reduceAdd, reduceEqDiff, reduceLeDiff, reduceLT, hwT, selS, erT, eq_true (bx_nn h_c1), m_c1, v_c1, hc3], by decide, by decide, by simp only [gE, ↓gT, ↓reduceIte, reduceCtorEq, reduceAdd, reduceEqDiff, reduceLeDiff, reduceLT, hwT, selS, erT, subR, eq_true (bx_nn h_c1), m_c1, v_c1, hc3], by simp only [gE, ↓gT, ↓reduceIte, reduceCtorEq, reduceAdd, reduceEqDiff, reduceLeDiff, reduceLT, hwT, selS, erT, scT, esT, eq_true (bx_nn h_c1), m_c1, v_c1, hc3], by simp only [gE, ↓gT, ↓reduceIte, reduceCtorEq, reduceAdd, reduceEqDiff, reduceLeDiff, reduceLT, hwT, selS, erT, scT, esT, eq_true (bx_nn h_c1), m_c1, v_c1, hc3]⟩ (K.spec_l1Next_L0 (p0, p1, p1) s12 h_s12 _ ?_)
    intro env st sel hw
    simp only [gE, ↓gT, ↓reduceIte, reduceCtorEq, reduceAdd, reduceEqDiff, reduceLeDiff, reduceLT]
    first | refine SemF.weak hw ?_ | refine SemL.weak hw ?_
    refine SemF.seq rfl ?_
    refine SemF.seq rfl ?_
    refine SemF.reg true rfl ?_
    try simp only [gE, ↓gT, ↓reduceIte, reduceCtorEq, reduceAdd, reduceEqDiff, reduceLeDiff, reduceLT, eq_true (bx_nn h_c1), m_c1, v_c1, hc3]; (repeat intro (_ : _ ≤ lim))
    obtain ⟨u14, h_u14, h⟩ := bs h
    have hg13 := gd_some h_u14
    try simp only [gE, ↓gT, ↓reduceIte, reduceCtorEq, reduceAdd, reduceEqDiff, reduceLeDiff, reduceLT, eq_true (bx_nn h_c1), m_c1, v_c1, hc3, eq_true hg13]; (repeat intro (_ : _ ≤ lim))
    obtain ⟨u16, h_u16, h⟩ := bs h
    have hg15 := gd_some h_u16
    try simp only [gE, ↓gT, ↓reduceIte, reduceCtorEq, reduceAdd, reduceEqDiff, reduceLeDiff, reduceLT, eq_true (bx_nn h_c1), m_c1, v_c1, hc3, eq_true hg13, eq_true hg15]; (repeat intro (_ : _ ≤ lim))
    obtain ⟨u18, h_u18, h⟩ := bs h
    have hg17 := gd_some h_u18
    try simp only [gE, ↓gT, ↓reduceIte, reduceCtorEq, reduceAdd, reduceEqDiff, reduceLeDiff, reduceLT, eq_true (bx_nn h_c1), m_c1, v_c1, hc3, eq_true hg13, eq_true hg15, eq_true hg17]; (repeat intro (_ : _ ≤ lim))
    obtain ⟨r19, h_r19, h⟩ := bs h
    refine HCp.callE (K.spec_l1NumOk (p0.extract p1.toNat s12.toNat) r19 h_r19) (by simp only [gE, ↓gT, ↓reduceIte, reduceCtorEq, reduceAdd, reduceEqDiff, reduceLeDiff, reduceLT, eq_true (bx_nn h_c1), m_c1, v_c1, hc3, eq_true hg13, eq_true hg15, eq_true hg17]) (by simp only [scT, esT, and_self, true_and, and_true]) (by simp only [scT, esT, and_self, true_and, and_true]) ?_
    try simp only [gE, ↓gT, ↓reduceIte, reduceCtorEq, reduceAdd, reduceEqDiff, reduceLeDiff, reduceLT, eq_true (bx_nn h_c1), m_c1, v_c1, hc3, eq_true hg13, eq_true hg15, eq_true hg17]; (repeat intro (_ : _ ≤ lim))
    by_cases hc20 : r19 = true
    · rw [if_pos hc20] at h
      refine SemF.cond rfl ?_
      simp only [gE, ↓gT, ↓reduceIte, reduceCtorEq, reduceAdd, reduceEqDiff, reduceLeDiff, reduceLT, eq_true (bx_nn h_c1), m_c1, v_c1, hc3, eq_true hg13, eq_true hg15, eq_true hg17, hc20]
      refine SemF.skip rfl ?_
      simp only [gE, ↓gT, ↓reduceIte, reduceCtorEq, reduceAdd, reduceEqDiff, reduceLeDiff, reduceLT, eq_true (bx_nn h_c1), m_c1, v_c1, hc3, eq_true hg13, eq_true hg15, eq_true hg17, hc20]
      refine SemF.seq rfl ?_
      refine SemF.reg true rfl ?_
      try simp only [gE, ↓gT, ↓reduceIte, reduceCtorEq, reduceAdd, reduceEqDiff, reduceLeDiff, reduceLT, eq_true (bx_nn h_c1), m_c1, v_c1, hc3, eq_true hg13, eq_true hg15, eq_true hg17, hc20]; (repeat intro (_ : _ ≤ lim))
      refine SemF.ret rfl ?_
      try simp only [gE, ↓gT, ↓reduceIte, reduceCtorEq, reduceAdd, reduceEqDiff, reduceLeDiff, reduceLT, eq_true (bx_nn h_c1), m_c1, v_c1, hc3, eq_true hg13, eq_true hg15, eq_true hg17, hc20]; (repeat intro (_ : _ ≤ lim))
      obtain rfl := Option.some.inj h
      simp only [gE, ↓gT, ↓reduceIte, reduceCtorEq, reduceAdd, reduceEqDiff, reduceLeDiff, reduceLT, RetP_def, eq_true (bx_nn h_c1), m_c1, v_c1, hc3, eq_true hg13, eq_true hg15, eq_true hg17, hc20]
    · rw [if_neg hc20] at h
      replace hc20 := eq_false_of_ne_true hc20
      refine SemF.cond rfl ?_
      simp only [gE, ↓gT, ↓reduceIte, reduceCtorEq, reduceAdd, reduceEqDiff, reduceLeDiff, reduceLT, eq_true (bx_nn h_c1), m_c1, v_c1, hc3, eq_true hg13, eq_true hg15, eq_true hg17, hc20]
      refine SemF.seq rfl ?_
      refine SemF.reg true rfl ?_
      try simp only [gE, ↓gT, ↓reduceIte, reduceCtorEq, reduceAdd, reduceEqDiff, reduceLeDiff, reduceLT, eq_true (bx_nn h_c1), m_c1, v_c1, hc3, eq_true hg13, eq_true hg15, eq_true hg17, hc20]; (repeat intro (_ : _ ≤ lim))
      refine SemF.ret rfl ?_
      try simp only [gE, ↓gT, ↓reduceIte, reduceCtorEq, reduceAdd, reduceEqDiff, reduceLeDiff, reduceLT, eq_true (bx_nn h_c1), m_c1, v_c1, hc3, eq_true hg13, eq_true hg15, eq_true hg17, hc20]; (repeat intro (_ : _ ≤ lim))
      obtain rfl := Option.some.inj h
      simp only [gE, ↓gT, ↓reduceIte, reduceCtorEq, reduceAdd, reduceEqDiff, reduceLeDiff, reduceLT, RetP_def, eq_true (bx_nn h_c1), m_c1, v_c1, hc3, eq_true hg13, eq_true hg15, eq_true hg17, hc20]
  · rw [if_neg hc3] at h
    replace hc3 := eq_false_of_ne_true hc3
    refine SemF.cond rfl ?_
    simp only [gE, ↓gT, ↓reduceIte, reduceCtorEq, reduceAdd, reduceEqDiff, reduceLeDiff, reduceLT, eq_true (bx_nn h_c1), m_c1, v_c1, hc3]
    refine SemF.seq rfl ?_
    refine SemF.reg true rfl ?_
    try simp only [gE, ↓gT, ↓reduceIte, reduceCtorEq, reduceAdd, reduceEqDiff, reduceLeDiff, reduceLT, eq_true (bx_nn h_c1), m_c1, v_c1, hc3]; (repeat intro (_ : _ ≤ lim))
    obtain ⟨r21, h_r21, h⟩ := bs h
    refine HCp.callE (K.spec_l1Small c1 r21 h_r21) (by simp only [gE, ↓gT, ↓reduceIte, reduceCtorEq, reduceAdd, reduceEqDiff, reduceLeDiff, reduceLT, eq_true (bx_nn h_c1), m_c1, v_c1, hc3]) (by simp only [scT, esT, and_self, true_and, and_true]) (by simp only [scT, esT, and_self, true_and, and_true]) ?_
    try simp only [gE, ↓gT, ↓reduceIte, reduceCtorEq, reduceAdd, reduceEqDiff, reduceLeDiff, reduceLT, eq_true (bx_nn h_c1), m_c1, v_c1, hc3]; (repeat intro (_ : _ ≤ lim))
    by_cases hc22 : r21 = true
    · rw [if_pos hc22] at h
      try simp only [gE, ↓gT, ↓reduceIte, reduceCtorEq, reduceAdd, reduceEqDiff, reduceLeDiff, reduceLT, eq_true (bx_nn h_c1), m_c1, v_c1, hc3, hc22]; (repeat intro (_ : _ ≤ lim))
      refine SemF.cond rfl ?_
      simp only [gE, ↓gT, ↓reduceIte, reduceCtorEq, reduceAdd, reduceEqDiff, reduceLeDiff, reduceLT, eq_true (bx_nn h_c1), m_c1, v_c1, hc3, hc22]
      refine SemF.seq rfl ?_
      refine SemF.block rfl ?_
      obtain ⟨s31, h_s31, h⟩ := bs h
      refine SemF.loop rfl ?_
      refine SemL.weak (sel := []) ⟨by simp only [gE, ↓gT, ↓reduceIte, reduceCtorEq, reduceAdd, reduceEqDiff, reduceLeDiff, reduceLT, hwT, selS, erT, eq_true (bx_nn h_c1), m_c1, v_c1, hc3, hc22], by decide, by decide, by simp only [gE, ↓gT, ↓reduceIte, reduceCtorEq, reduceAdd, reduceEqDiff, reduceLeDiff, reduceLT, hwT, selS, erT, subR, eq_true (bx_nn h_c1), m_c1, v_c1, hc3, hc22], by simp only [gE, ↓gT, ↓reduceIte, reduceCtorEq, reduceAdd, reduceEqDiff, reduceLeDiff, reduceLT, hwT, selS, erT, scT, esT, eq_true (bx_nn h_c1), m_c1, v_c1, hc3, hc22], by simp only [gE, ↓gT, ↓reduceIte, reduceCtorEq, reduceAdd, reduceEqDiff, reduceLeDiff, reduceLT, hwT, selS, erT, scT, esT, eq_true (bx_nn h_c1), m_c1, v_c1, hc3, hc22]⟩ (K.spec_l1Next_L1 (p0, p1, p1) s31 h_s31 _ ?_)
      intro env st sel hw
      simp only [gE, ↓gT, ↓reduceIte, reduceCtorEq, reduceAdd, reduceEqDiff, reduceLeDiff, reduceLT]
      first | refine SemF.weak hw ?_ | refine SemL.weak hw ?_
      refine SemF.seq rfl ?_
      refine SemF.reg true rfl ?_
      try simp only [gE, ↓gT, ↓reduceIte, reduceCtorEq, reduceAdd, reduceEqDiff, reduceLeDiff, reduceLT, eq_true (bx_nn h_c1), m_c1, v_c1, hc3, hc22]; (repeat intro (_ : _ ≤ lim))
      obtain ⟨u33, h_u33, h⟩ := bs h
      have hg32 := gd_some h_u33
      try simp only [gE, ↓gT, ↓reduceIte, reduceCtorEq, reduceAdd, reduceEqDiff, reduceLeDiff, reduceLT, eq_true (bx_nn h_c1), m_c1, v_c1, hc3, hc22, eq_true hg32]; (repeat intro (_ : _ ≤ lim))
      obtain ⟨u35, h_u35, h⟩ := bs h
      have hg34 := gd_some h_u35
      try simp only [gE, ↓gT, ↓reduceIte, reduceCtorEq, reduceAdd, reduceEqDiff, reduceLeDiff, reduceLT, eq_true (bx_nn h_c1), m_c1, v_c1, hc3, hc22, eq_true hg32, eq_true hg34]; (repeat intro (_ : _ ≤ lim))
      obtain ⟨u37, h_u37, h⟩ := bs h
      have hg36 := gd_some h_u37
      try simp only [gE, ↓gT, ↓reduceIte, reduceCtorEq, reduceAdd, reduceEqDiff, reduceLeDiff, reduceLT, eq_true (bx_nn h_c1), m_c1, v_c1, hc3, hc22, eq_true hg32, eq_true hg34, eq_true hg36]; (repeat intro (_ : _ ≤ lim))
      obtain ⟨r38, h_r38, h⟩ := bs h
      refine HCp.callE (K.spec_l1Kind (p0.extract p1.toNat s31.toNat) r38 h_r38) (by simp only [gE, ↓gT, ↓reduceIte, reduceCtorEq, reduceAdd, reduceEqDiff, reduceLeDiff, reduceLT, eq_true (bx_nn h_c1), m_c1, v_c1, hc3, hc22, eq_true hg32, eq_true hg34, eq_true hg36]) (by simp only [scT, esT, and_self, true_and, and_true]) (by simp only [scT, esT, and_self, true_and, and_true]) ?_
      try simp only [gE, ↓gT, ↓reduceIte, reduceCtorEq, reduceAdd, reduceEqDiff, reduceLeDiff, reduceLT, eq_true (bx_nn h_c1), m_c1, v_c1, hc3, hc22, eq_true hg32, eq_true hg34, eq_true hg36]; (repeat intro (_ : _ ≤ lim))
      refine SemF.ret rfl ?_
      try simp only [gE, ↓gT, ↓reduceIte, reduceCtorEq, reduceAdd, reduceEqDiff, reduceLeDiff, reduceLT, eq_true (bx_nn h_c1), m_c1, v_c1, hc3, hc22, eq_true hg32, eq_true hg34, eq_true hg36]; (repeat intro (_ : _ ≤ lim))
      obtain rfl := Option.some.inj h
      simp only [gE, ↓gT, ↓reduceIte, reduceCtorEq, reduceAdd, reduceEqDiff, reduceLeDiff, reduceLT, RetP_def, eq_true (bx_nn h_c1), m_c1, v_c1, hc3, hc22, eq_true hg32, eq_true hg34, eq_true hg36]
    · rw [if_neg hc22] at h
      replace hc22 := eq_false_of_ne_true hc22
      try simp only [gE, ↓gT, ↓reduceIte, reduceCtorEq, reduceAdd, reduceEqDiff, reduceLeDiff, reduceLT, eq_true (bx_nn h_c1), m_c1, v_c1, hc3, hc22]; (repeat intro (_ : _ ≤ lim))
      obtain ⟨r39, h_r39, h⟩ := bs h
      refine HCp.callE (K.spec_l1Large c1 r39 h_r39) (by simp only [gE, ↓gT, ↓reduceIte, reduceCtorEq, reduceAdd, reduceEqDiff, reduceLeDiff, reduceLT, eq_true (bx_nn h_c1), m_c1, v_c1, hc3, hc22]) (by simp only [scT, esT, and_self, true_and, and_true]) (by simp only [scT, esT, and_self, true_and, and_true]) ?_
      try simp only [gE, ↓gT, ↓reduceIte, reduceCtorEq, reduceAdd, reduceEqDiff, reduceLeDiff, reduceLT, eq_true (bx_nn h_c1), m_c1, v_c1, hc3, hc22]; (repeat intro (_ : _ ≤ lim))
      by_cases hc40 : r39 = true
      · rw [if_pos hc40] at h
        refine SemF.cond rfl ?_
        simp only [gE, ↓gT, ↓reduceIte, reduceCtorEq, reduceAdd, reduceEqDiff, reduceLeDiff, reduceLT, eq_true (bx_nn h_c1), m_c1, v_c1, hc3, hc22, hc40]
        refine SemF.seq rfl ?_
        refine SemF.block rfl ?_
        obtain ⟨s49, h_s49, h⟩ := bs h
        refine SemF.loop rfl ?_
        refine SemL.weak (sel := []) ⟨by simp only [gE, ↓gT, ↓reduceIte, reduceCtorEq, reduceAdd, reduceEqDiff, reduceLeDiff, reduceLT, hwT, selS, erT, eq_true (bx_nn h_c1), m_c1, v_c1, hc3, hc22, hc40], by decide, by decide, by simp only [gE, ↓gT, ↓reduceIte, reduceCtorEq, reduceAdd, reduceEqDiff, reduceLeDiff, reduceLT, hwT, selS, erT, subR, eq_true (bx_nn h_c1), m_c1, v_c1, hc3, hc22, hc40], by simp only [gE, ↓gT, ↓reduceIte, reduceCtorEq, reduceAdd, reduceEqDiff, reduceLeDiff, reduceLT, hwT, selS, erT, scT, esT, eq_true (bx_nn h_c1), m_c1, v_c1, hc3, hc22, hc40], by simp only [gE, ↓gT, ↓reduceIte, reduceCtorEq, reduceAdd, reduceEqDiff, reduceLeDiff, reduceLT, hwT, selS, erT, scT, esT, eq_true (bx_nn h_c1), m_c1, v_c1, hc3, hc22, hc40]⟩ (K.spec_l1Next_L2 (p0, p1, p1) s49 h_s49 _ ?_)
        intro env st sel hw
        simp only [gE, ↓gT, ↓reduceIte, reduceCtorEq, reduceAdd, reduceEqDiff, reduceLeDiff, reduceLT]
        first | refine SemF.weak hw ?_ | refine SemL.weak hw ?_
        refine SemF.seq rfl ?_
        refine SemF.reg true rfl ?_
        try simp only [gE, ↓gT, ↓reduceIte, reduceCtorEq, reduceAdd, reduceEqDiff, reduceLeDiff, reduceLT, eq_true (bx_nn h_c1), m_c1, v_c1, hc3, hc22, hc40]; (repeat intro (_ : _ ≤ lim))
        obtain ⟨u51, h_u51, h⟩ := bs h
        have hg50 := gd_some h_u51
        try simp only [gE, ↓gT, ↓reduceIte, reduceCtorEq, reduceAdd, reduceEqDiff, reduceLeDiff, reduceLT, eq_true (bx_nn h_c1), m_c1, v_c1, hc3, hc22, hc40, eq_true hg50]; (repeat intro (_ : _ ≤ lim))
        obtain ⟨u53, h_u53, h⟩ := bs h
        have hg52 := gd_some h_u53
        try simp only [gE, ↓gT, ↓reduceIte, reduceCtorEq, reduceAdd, reduceEqDiff, reduceLeDiff, reduceLT, eq_true (bx_nn h_c1), m_c1, v_c1, hc3, hc22, hc40, eq_true hg50, eq_true hg52]; (repeat intro (_ : _ ≤ lim))
        obtain ⟨u55, h_u55, h⟩ := bs h
        have hg54 := gd_some h_u55
        try simp only [gE, ↓gT, ↓reduceIte, reduceCtorEq, reduceAdd, reduceEqDiff, reduceLeDiff, reduceLT, eq_true (bx_nn h_c1), m_c1, v_c1, hc3, hc22, hc40, eq_true hg50, eq_true hg52, eq_true hg54]; (repeat intro (_ : _ ≤ lim))
        obtain ⟨r56, h_r56, h⟩ := bs h
        refine HCp.callE (K.spec_l1Kind (p0.extract p1.toNat s49.toNat) r56 h_r56) (by simp only [gE, ↓gT, ↓reduceIte, reduceCtorEq, reduceAdd, reduceEqDiff, reduceLeDiff, reduceLT, eq_true (bx_nn h_c1), m_c1, v_c1, hc3, hc22, hc40, eq_true hg50, eq_true hg52, eq_true hg54]) (by simp only [scT, esT, and_self, true_and, and_true]) (by simp only [scT, esT, and_self, true_and, and_true]) ?_
        try simp only [gE, ↓gT, ↓reduceIte, reduceCtorEq, reduceAdd, reduceEqDiff, reduceLeDiff, reduceLT, eq_true (bx_nn h_c1), m_c1, v_c1, hc3, hc22, hc40, eq_true hg50, eq_true hg52, eq_true hg54]; (repeat intro (_ : _ ≤ lim))
        refine SemF.ret rfl ?_
        try simp only [gE, ↓gT, ↓reduceIte, reduceCtorEq, reduceAdd, reduceEqDiff, reduceLeDiff, reduceLT, eq_true (bx_nn h_c1), m_c1, v_c1, hc3, hc22, hc40, eq_true hg50, eq_true hg52, eq_true hg54]; (repeat intro (_ : _ ≤ lim))
        obtain rfl := Option.some.inj h
        simp only [gE, ↓gT, ↓reduceIte, reduceCtorEq, reduceAdd, reduceEqDiff, reduceLeDiff, reduceLT, RetP_def, eq_true (bx_nn h_c1), m_c1, v_c1, hc3, hc22, hc40, eq_true hg50, eq_true hg52, eq_true hg54]
      · rw [if_neg hc40] at h
        replace hc40 := eq_false_of_ne_true hc40
        refine SemF.cond rfl ?_
        simp only [gE, ↓gT, ↓reduceIte, reduceCtorEq, reduceAdd, reduceEqDiff, reduceLeDiff, reduceLT, eq_true (bx_nn h_c1), m_c1, v_c1, hc3, hc22, hc40]
        refine SemF.skip rfl ?_
        simp only [gE, ↓gT, ↓reduceIte, reduceCtorEq, reduceAdd, reduceEqDiff, reduceLeDiff, reduceLT, eq_true (bx_nn h_c1), m_c1, v_c1, hc3, hc22, hc40]
        refine SemF.seq rfl ?_
        refine SemF.seq rfl ?_
        refine SemF.reg true rfl ?_
        try simp only [gE, ↓gT, ↓reduceIte, reduceCtorEq, reduceAdd, reduceEqDiff, reduceLeDiff, reduceLT, eq_true (bx_nn h_c1), m_c1, v_c1, hc3, hc22, hc40]; (repeat intro (_ : _ ≤ lim))
        (repeat intro (_ : _ ≤ lim))
        by_cases hc57 : (IntKind.i64.wrap (p1 + 2)) ≤ ((p0.size : Nat) : Int)
        · rw [if_pos hc57] at h
          try simp only [gE, ↓gT, ↓reduceIte, reduceCtorEq, reduceAdd, reduceEqDiff, reduceLeDiff, reduceLT, eq_true (bx_nn h_c1), m_c1, v_c1, hc3, hc22, hc40, eq_true hc57]; (repeat intro (_ : _ ≤ lim))
          obtain ⟨u59, h_u59, h⟩ := bs h
          have hg58 := gd_some h_u59
          try simp only [gE, ↓gT, ↓reduceIte, reduceCtorEq, reduceAdd, reduceEqDiff, reduceLeDiff, reduceLT, eq_true (bx_nn h_c1), m_c1, v_c1, hc3, hc22, hc40, eq_true hc57, eq_true hg58]; (repeat intro (_ : _ ≤ lim))
          obtain ⟨u61, h_u61, h⟩ := bs h
          have hg60 := gd_some h_u61
          try simp only [gE, ↓gT, ↓reduceIte, reduceCtorEq, reduceAdd, reduceEqDiff, reduceLeDiff, reduceLT, eq_true (bx_nn h_c1), m_c1, v_c1, hc3, hc22, hc40, eq_true hc57, eq_true hg58, eq_true hg60]; (repeat intro (_ : _ ≤ lim))
          by_cases hc62 : (p0.extract p1.toNat (IntKind.i64.wrap (p1 + 2)).toNat) = (⟨⟨[45, 62]⟩⟩ : ByteArray)
          · rw [if_pos hc62] at h
            try simp only [gE, ↓gT, ↓reduceIte, reduceCtorEq, reduceAdd, reduceEqDiff, reduceLeDiff, reduceLT, eq_true (bx_nn h_c1), m_c1, v_c1, hc3, hc22, hc40, eq_true hc57, eq_true hg58, eq_true hg60, eq_true hc62]; (repeat intro (_ : _ ≤ lim))
            refine SemF.cond rfl ?_
            simp only [gE, ↓gT, ↓reduceIte, reduceCtorEq, reduceAdd, reduceEqDiff, reduceLeDiff, reduceLT, eq_true (bx_nn h_c1), m_c1, v_c1, hc3, hc22, hc40, eq_true hc57, eq_true hg58, eq_true hg60, eq_true hc62]
            refine SemF.seq rfl ?_
            refine SemF.reg true rfl ?_
            try simp only [gE, ↓gT, ↓reduceIte, reduceCtorEq, reduceAdd, reduceEqDiff, reduceLeDiff, reduceLT, eq_true (bx_nn h_c1), m_c1, v_c1, hc3, hc22, hc40, eq_true hc57, eq_true hg58, eq_true hg60, eq_true hc62]; (repeat intro (_ : _ ≤ lim))
            refine SemF.ret rfl ?_
            try simp only [gE, ↓gT, ↓reduceIte, reduceCtorEq, reduceAdd, reduceEqDiff, reduceLeDiff, reduceLT, eq_true (bx_nn h_c1), m_c1, v_c1, hc3, hc22, hc40, eq_true hc57, eq_true hg58, eq_true hg60, eq_true hc62]; (repeat intro (_ : _ ≤ lim))
            obtain rfl := Option.some.inj h
            simp only [gE, ↓gT, ↓reduceIte, reduceCtorEq, reduceAdd, reduceEqDiff, reduceLeDiff, reduceLT, RetP_def, eq_true (bx_nn h_c1), m_c1, v_c1, hc3, hc22, hc40, eq_true hc57, eq_true hg58, eq_true hg60, eq_true hc62]
          · rw [if_neg hc62] at h
            try simp only [gE, ↓gT, ↓reduceIte, reduceCtorEq, reduceAdd, reduceEqDiff, reduceLeDiff, reduceLT, eq_true (bx_nn h_c1), m_c1, v_c1, hc3, hc22, hc40, eq_true hc57, eq_true hg58, eq_true hg60, eq_false hc62]; (repeat intro (_ : _ ≤ lim))
            by_cases hc63 : (p0.extract p1.toNat (IntKind.i64.wrap (p1 + 2)).toNat) = (⟨⟨[61, 61]⟩⟩ : ByteArray)
            · rw [if_pos hc63] at h
              refine SemF.cond rfl ?_
              simp only [gE, ↓gT, ↓reduceIte, reduceCtorEq, reduceAdd, reduceEqDiff, reduceLeDiff, reduceLT, eq_true (bx_nn h_c1), m_c1, v_c1, hc3, hc22, hc40, eq_true hc57, eq_true hg58, eq_true hg60, eq_false hc62, eq_true hc63]
              refine SemF.seq rfl ?_
              refine SemF.reg true rfl ?_
              try simp only [gE, ↓gT, ↓reduceIte, reduceCtorEq, reduceAdd, reduceEqDiff, reduceLeDiff, reduceLT, eq_true (bx_nn h_c1), m_c1, v_c1, hc3, hc22, hc40, eq_true hc57, eq_true hg58, eq_true hg60, eq_false hc62, eq_true hc63]; (repeat intro (_ : _ ≤ lim))
              refine SemF.ret rfl ?_
              try simp only [gE, ↓gT, ↓reduceIte, reduceCtorEq, reduceAdd, reduceEqDiff, reduceLeDiff, reduceLT, eq_true (bx_nn h_c1), m_c1, v_c1, hc3, hc22, hc40, eq_true hc57, eq_true hg58, eq_true hg60, eq_false hc62, eq_true hc63]; (repeat intro (_ : _ ≤ lim))
              obtain rfl := Option.some.inj h
              simp only [gE, ↓gT, ↓reduceIte, reduceCtorEq, reduceAdd, reduceEqDiff, reduceLeDiff, reduceLT, RetP_def, eq_true (bx_nn h_c1), m_c1, v_c1, hc3, hc22, hc40, eq_true hc57, eq_true hg58, eq_true hg60, eq_false hc62, eq_true hc63]
            · rw [if_neg hc63] at h
              refine SemF.cond rfl ?_
              simp only [gE, ↓gT, ↓reduceIte, reduceCtorEq, reduceAdd, reduceEqDiff, reduceLeDiff, reduceLT, eq_true (bx_nn h_c1), m_c1, v_c1, hc3, hc22, hc40, eq_true hc57, eq_true hg58, eq_true hg60, eq_false hc62, eq_false hc63]
              refine SemF.skip rfl ?_
              simp only [gE, ↓gT, ↓reduceIte, reduceCtorEq, reduceAdd, reduceEqDiff, reduceLeDiff, reduceLT, eq_true (bx_nn h_c1), m_c1, v_c1, hc3, hc22, hc40, eq_true hc57, eq_true hg58, eq_true hg60, eq_false hc62, eq_false hc63]
              refine SemF.seq rfl ?_
              refine SemF.seq rfl ?_
              refine SemF.reg true rfl ?_
              try simp only [gE, ↓gT, ↓reduceIte, reduceCtorEq, reduceAdd, reduceEqDiff, reduceLeDiff, reduceLT, eq_true (bx_nn h_c1), m_c1, v_c1, hc3, hc22, hc40, eq_true hc57, eq_true hg58, eq_true hg60, eq_false hc62, eq_false hc63]; (repeat intro (_ : _ ≤ lim))
              obtain ⟨u65, h_u65, h⟩ := bs h
              have hg64 := gd_some h_u65
              try simp only [gE, ↓gT, ↓reduceIte, reduceCtorEq, reduceAdd, reduceEqDiff, reduceLeDiff, reduceLT, eq_true (bx_nn h_c1), m_c1, v_c1, hc3, hc22, hc40, eq_true hc57, eq_true hg58, eq_true hg60, eq_false hc62, eq_false hc63, eq_true hg64]; (repeat intro (_ : _ ≤ lim))
              obtain ⟨u67, h_u67, h⟩ := bs h
              have hg66 := gd_some h_u67
              try simp only [gE, ↓gT, ↓reduceIte, reduceCtorEq, reduceAdd, reduceEqDiff, reduceLeDiff, reduceLT, eq_true (bx_nn h_c1), m_c1, v_c1, hc3, hc22, hc40, eq_true hc57, eq_true hg58, eq_true hg60, eq_false hc62, eq_false hc63, eq_true hg64, eq_true hg66]; (repeat intro (_ : _ ≤ lim))
              obtain ⟨r68, h_r68, h⟩ := bs h
              refine HC.view ?_
              simp only [gE, ↓gT, ↓reduceIte, reduceCtorEq, reduceAdd, reduceEqDiff, reduceLeDiff, reduceLT, cnT, eq_true (bx_nn h_c1), m_c1, v_c1, hc3, hc22, hc40, eq_true hc57, eq_true hg58, eq_true hg60, eq_false hc62, eq_false hc63, eq_true hg64, eq_true hg66]
              refine HCp.callE (K.spec_l1Has ([(⟨⟨[40]⟩⟩ : ByteArray), (⟨⟨[41]⟩⟩ : ByteArray), (⟨⟨[123]⟩⟩ : ByteArray), (⟨⟨[125]⟩⟩ : ByteArray), (⟨⟨[59]⟩⟩ : ByteArray), (⟨⟨[61]⟩⟩ : ByteArray), (⟨⟨[92]⟩⟩ : ByteArray), (⟨⟨[124]⟩⟩ : ByteArray), (⟨⟨[43]⟩⟩ : ByteArray), (⟨⟨[45]⟩⟩ : ByteArray), (⟨⟨[42]⟩⟩ : ByteArray), (⟨⟨[60]⟩⟩ : ByteArray), (⟨⟨[95]⟩⟩ : ByteArray)], (p0.extract p1.toNat (IntKind.i64.wrap (p1 + 1)).toNat)) r68 h_r68) (by simp only [gE, ↓gT, ↓reduceIte, reduceCtorEq, reduceAdd, reduceEqDiff, reduceLeDiff, reduceLT, eq_true (bx_nn h_c1), m_c1, v_c1, hc3, hc22, hc40, eq_true hc57, eq_true hg58, eq_true hg60, eq_false hc62, eq_false hc63, eq_true hg64, eq_true hg66]) (by simp only [scT, esT, and_self, true_and, and_true]) (by simp only [scT, esT, and_self, true_and, and_true]) ?_
              try simp only [gE, ↓gT, ↓reduceIte, reduceCtorEq, reduceAdd, reduceEqDiff, reduceLeDiff, reduceLT, eq_true (bx_nn h_c1), m_c1, v_c1, hc3, hc22, hc40, eq_true hc57, eq_true hg58, eq_true hg60, eq_false hc62, eq_false hc63, eq_true hg64, eq_true hg66]; (repeat intro (_ : _ ≤ lim))
              by_cases hc69 : r68 = true
              · rw [if_pos hc69] at h
                refine SemF.cond rfl ?_
                simp only [gE, ↓gT, ↓reduceIte, reduceCtorEq, reduceAdd, reduceEqDiff, reduceLeDiff, reduceLT, eq_true (bx_nn h_c1), m_c1, v_c1, hc3, hc22, hc40, eq_true hc57, eq_true hg58, eq_true hg60, eq_false hc62, eq_false hc63, eq_true hg64, eq_true hg66, hc69]
                refine SemF.seq rfl ?_
                refine SemF.reg true rfl ?_
                try simp only [gE, ↓gT, ↓reduceIte, reduceCtorEq, reduceAdd, reduceEqDiff, reduceLeDiff, reduceLT, eq_true (bx_nn h_c1), m_c1, v_c1, hc3, hc22, hc40, eq_true hc57, eq_true hg58, eq_true hg60, eq_false hc62, eq_false hc63, eq_true hg64, eq_true hg66, hc69]; (repeat intro (_ : _ ≤ lim))
                refine SemF.ret rfl ?_
                try simp only [gE, ↓gT, ↓reduceIte, reduceCtorEq, reduceAdd, reduceEqDiff, reduceLeDiff, reduceLT, eq_true (bx_nn h_c1), m_c1, v_c1, hc3, hc22, hc40, eq_true hc57, eq_true hg58, eq_true hg60, eq_false hc62, eq_false hc63, eq_true hg64, eq_true hg66, hc69]; (repeat intro (_ : _ ≤ lim))
                obtain rfl := Option.some.inj h
                simp only [gE, ↓gT, ↓reduceIte, reduceCtorEq, reduceAdd, reduceEqDiff, reduceLeDiff, reduceLT, RetP_def, eq_true (bx_nn h_c1), m_c1, v_c1, hc3, hc22, hc40, eq_true hc57, eq_true hg58, eq_true hg60, eq_false hc62, eq_false hc63, eq_true hg64, eq_true hg66, hc69]
              · rw [if_neg hc69] at h
                replace hc69 := eq_false_of_ne_true hc69
                refine SemF.cond rfl ?_
                simp only [gE, ↓gT, ↓reduceIte, reduceCtorEq, reduceAdd, reduceEqDiff, reduceLeDiff, reduceLT, eq_true (bx_nn h_c1), m_c1, v_c1, hc3, hc22, hc40, eq_true hc57, eq_true hg58, eq_true hg60, eq_false hc62, eq_false hc63, eq_true hg64, eq_true hg66, hc69]
                refine SemF.skip rfl ?_
                simp only [gE, ↓gT, ↓reduceIte, reduceCtorEq, reduceAdd, reduceEqDiff, reduceLeDiff, reduceLT, eq_true (bx_nn h_c1), m_c1, v_c1, hc3, hc22, hc40, eq_true hc57, eq_true hg58, eq_true hg60, eq_false hc62, eq_false hc63, eq_true hg64, eq_true hg66, hc69]
                refine SemF.seq rfl ?_
                refine SemF.reg true rfl ?_
                try simp only [gE, ↓gT, ↓reduceIte, reduceCtorEq, reduceAdd, reduceEqDiff, reduceLeDiff, reduceLT, eq_true (bx_nn h_c1), m_c1, v_c1, hc3, hc22, hc40, eq_true hc57, eq_true hg58, eq_true hg60, eq_false hc62, eq_false hc63, eq_true hg64, eq_true hg66, hc69]; (repeat intro (_ : _ ≤ lim))
                refine SemF.ret rfl ?_
                try simp only [gE, ↓gT, ↓reduceIte, reduceCtorEq, reduceAdd, reduceEqDiff, reduceLeDiff, reduceLT, eq_true (bx_nn h_c1), m_c1, v_c1, hc3, hc22, hc40, eq_true hc57, eq_true hg58, eq_true hg60, eq_false hc62, eq_false hc63, eq_true hg64, eq_true hg66, hc69]; (repeat intro (_ : _ ≤ lim))
                obtain rfl := Option.some.inj h
                simp only [gE, ↓gT, ↓reduceIte, reduceCtorEq, reduceAdd, reduceEqDiff, reduceLeDiff, reduceLT, RetP_def, eq_true (bx_nn h_c1), m_c1, v_c1, hc3, hc22, hc40, eq_true hc57, eq_true hg58, eq_true hg60, eq_false hc62, eq_false hc63, eq_true hg64, eq_true hg66, hc69]
        · rw [if_neg hc57] at h
          try simp only [gE, ↓gT, ↓reduceIte, reduceCtorEq, reduceAdd, reduceEqDiff, reduceLeDiff, reduceLT, eq_true (bx_nn h_c1), m_c1, v_c1, hc3, hc22, hc40, eq_false hc57]; (repeat intro (_ : _ ≤ lim))
          refine SemF.cond rfl ?_
          simp only [gE, ↓gT, ↓reduceIte, reduceCtorEq, reduceAdd, reduceEqDiff, reduceLeDiff, reduceLT, eq_true (bx_nn h_c1), m_c1, v_c1, hc3, hc22, hc40, eq_false hc57]
          refine SemF.skip rfl ?_
          simp only [gE, ↓gT, ↓reduceIte, reduceCtorEq, reduceAdd, reduceEqDiff, reduceLeDiff, reduceLT, eq_true (bx_nn h_c1), m_c1, v_c1, hc3, hc22, hc40, eq_false hc57]
          refine SemF.seq rfl ?_
          refine SemF.seq rfl ?_
          refine SemF.reg true rfl ?_
          try simp only [gE, ↓gT, ↓reduceIte, reduceCtorEq, reduceAdd, reduceEqDiff, reduceLeDiff, reduceLT, eq_true (bx_nn h_c1), m_c1, v_c1, hc3, hc22, hc40, eq_false hc57]; (repeat intro (_ : _ ≤ lim))
          obtain ⟨u71, h_u71, h⟩ := bs h
          have hg70 := gd_some h_u71
          try simp only [gE, ↓gT, ↓reduceIte, reduceCtorEq, reduceAdd, reduceEqDiff, reduceLeDiff, reduceLT, eq_true (bx_nn h_c1), m_c1, v_c1, hc3, hc22, hc40, eq_false hc57, eq_true hg70]; (repeat intro (_ : _ ≤ lim))
          obtain ⟨u73, h_u73, h⟩ := bs h
          have hg72 := gd_some h_u73
          try simp only [gE, ↓gT, ↓reduceIte, reduceCtorEq, reduceAdd, reduceEqDiff, reduceLeDiff, reduceLT, eq_true (bx_nn h_c1), m_c1, v_c1, hc3, hc22, hc40, eq_false hc57, eq_true hg70, eq_true hg72]; (repeat intro (_ : _ ≤ lim))
          obtain ⟨u75, h_u75, h⟩ := bs h
          have hg74 := gd_some h_u75
          try simp only [gE, ↓gT, ↓reduceIte, reduceCtorEq, reduceAdd, reduceEqDiff, reduceLeDiff, reduceLT, eq_true (bx_nn h_c1), m_c1, v_c1, hc3, hc22, hc40, eq_false hc57, eq_true hg70, eq_true hg72, eq_true hg74]; (repeat intro (_ : _ ≤ lim))
          obtain ⟨r76, h_r76, h⟩ := bs h
          refine HC.view ?_
          simp only [gE, ↓gT, ↓reduceIte, reduceCtorEq, reduceAdd, reduceEqDiff, reduceLeDiff, reduceLT, cnT, eq_true (bx_nn h_c1), m_c1, v_c1, hc3, hc22, hc40, eq_false hc57, eq_true hg70, eq_true hg72, eq_true hg74]
          refine HCp.callE (K.spec_l1Has ([(⟨⟨[40]⟩⟩ : ByteArray), (⟨⟨[41]⟩⟩ : ByteArray), (⟨⟨[123]⟩⟩ : ByteArray), (⟨⟨[125]⟩⟩ : ByteArray), (⟨⟨[59]⟩⟩ : ByteArray), (⟨⟨[61]⟩⟩ : ByteArray), (⟨⟨[92]⟩⟩ : ByteArray), (⟨⟨[124]⟩⟩ : ByteArray), (⟨⟨[43]⟩⟩ : ByteArray), (⟨⟨[45]⟩⟩ : ByteArray), (⟨⟨[42]⟩⟩ : ByteArray), (⟨⟨[60]⟩⟩ : ByteArray), (⟨⟨[95]⟩⟩ : ByteArray)], (p0.extract p1.toNat (IntKind.i64.wrap (p1 + 1)).toNat)) r76 h_r76) (by simp only [gE, ↓gT, ↓reduceIte, reduceCtorEq, reduceAdd, reduceEqDiff, reduceLeDiff, reduceLT, eq_true (bx_nn h_c1), m_c1, v_c1, hc3, hc22, hc40, eq_false hc57, eq_true hg70, eq_true hg72, eq_true hg74]) (by simp only [scT, esT, and_self, true_and, and_true]) (by simp only [scT, esT, and_self, true_and, and_true]) ?_
          try simp only [gE, ↓gT, ↓reduceIte, reduceCtorEq, reduceAdd, reduceEqDiff, reduceLeDiff, reduceLT, eq_true (bx_nn h_c1), m_c1, v_c1, hc3, hc22, hc40, eq_false hc57, eq_true hg70, eq_true hg72, eq_true hg74]; (repeat intro (_ : _ ≤ lim))
          by_cases hc77 : r76 = true
          · rw [if_pos hc77] at h
            refine SemF.cond rfl ?_
            simp only [gE, ↓gT, ↓reduceIte, reduceCtorEq, reduceAdd, reduceEqDiff, reduceLeDiff, reduceLT, eq_true (bx_nn h_c1), m_c1, v_c1, hc3, hc22, hc40, eq_false hc57, eq_true hg70, eq_true hg72, eq_true hg74, hc77]
            refine SemF.seq rfl ?_
            refine SemF.reg true rfl ?_
            try simp only [gE, ↓gT, ↓reduceIte, reduceCtorEq, reduceAdd, reduceEqDiff, reduceLeDiff, reduceLT, eq_true (bx_nn h_c1), m_c1, v_c1, hc3, hc22, hc40, eq_false hc57, eq_true hg70, eq_true hg72, eq_true hg74, hc77]; (repeat intro (_ : _ ≤ lim))
            refine SemF.ret rfl ?_
            try simp only [gE, ↓gT, ↓reduceIte, reduceCtorEq, reduceAdd, reduceEqDiff, reduceLeDiff, reduceLT, eq_true (bx_nn h_c1), m_c1, v_c1, hc3, hc22, hc40, eq_false hc57, eq_true hg70, eq_true hg72, eq_true hg74, hc77]; (repeat intro (_ : _ ≤ lim))
            obtain rfl := Option.some.inj h
            simp only [gE, ↓gT, ↓reduceIte, reduceCtorEq, reduceAdd, reduceEqDiff, reduceLeDiff, reduceLT, RetP_def, eq_true (bx_nn h_c1), m_c1, v_c1, hc3, hc22, hc40, eq_false hc57, eq_true hg70, eq_true hg72, eq_true hg74, hc77]
          · rw [if_neg hc77] at h
            replace hc77 := eq_false_of_ne_true hc77
            refine SemF.cond rfl ?_
            simp only [gE, ↓gT, ↓reduceIte, reduceCtorEq, reduceAdd, reduceEqDiff, reduceLeDiff, reduceLT, eq_true (bx_nn h_c1), m_c1, v_c1, hc3, hc22, hc40, eq_false hc57, eq_true hg70, eq_true hg72, eq_true hg74, hc77]
            refine SemF.skip rfl ?_
            simp only [gE, ↓gT, ↓reduceIte, reduceCtorEq, reduceAdd, reduceEqDiff, reduceLeDiff, reduceLT, eq_true (bx_nn h_c1), m_c1, v_c1, hc3, hc22, hc40, eq_false hc57, eq_true hg70, eq_true hg72, eq_true hg74, hc77]
            refine SemF.seq rfl ?_
            refine SemF.reg true rfl ?_
            try simp only [gE, ↓gT, ↓reduceIte, reduceCtorEq, reduceAdd, reduceEqDiff, reduceLeDiff, reduceLT, eq_true (bx_nn h_c1), m_c1, v_c1, hc3, hc22, hc40, eq_false hc57, eq_true hg70, eq_true hg72, eq_true hg74, hc77]; (repeat intro (_ : _ ≤ lim))
            refine SemF.ret rfl ?_
            try simp only [gE, ↓gT, ↓reduceIte, reduceCtorEq, reduceAdd, reduceEqDiff, reduceLeDiff, reduceLT, eq_true (bx_nn h_c1), m_c1, v_c1, hc3, hc22, hc40, eq_false hc57, eq_true hg70, eq_true hg72, eq_true hg74, hc77]; (repeat intro (_ : _ ≤ lim))
            obtain rfl := Option.some.inj h
            simp only [gE, ↓gT, ↓reduceIte, reduceCtorEq, reduceAdd, reduceEqDiff, reduceLeDiff, reduceLT, RetP_def, eq_true (bx_nn h_c1), m_c1, v_c1, hc3, hc22, hc40, eq_false hc57, eq_true hg70, eq_true hg72, eq_true hg74, hc77]
end K
end W
