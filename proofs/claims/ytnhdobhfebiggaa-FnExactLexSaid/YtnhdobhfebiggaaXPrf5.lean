import Derived.Test.YtnhdobhfebiggaaXPrf4
namespace W
set_option linter.unusedSimpArgs false
set_option linter.unusedVariables false
open Go HL S
open Nat (reduceAdd reduceEqDiff reduceLeDiff reduceSub reduceMul reduceLT)
set_option linter.unusedVariables false
set_option maxRecDepth 100000
set_option maxHeartbeats 4000000
namespace K
theorem spec_l1Next_L1 : ∀ (x : (ByteArray × Int × Int)) (out : Int), M.spec_l1Next_L1 x = some out → ∀ Q : HExit → Env → St → Prop, (∀ env st sel, Weak 0 sel [(0, (.str x.1)), (1, (.int .i64 x.2.1)), (7, (.int .i64 out))] [] env st → Q (.exit 3) env st) → SemL P H.spec_l1Next.ntmps 0 H.spec_l1Next_l24 [(0, (.str x.1)), (1, (.int .i64 x.2.1)), (7, (.int .i64 x.2.2))] [] Q := by
  refine M.spec_l1Next_L1.partial_correctness (motive := fun x out => ∀ Q : HExit → Env → St → Prop, (∀ env st sel, Weak 0 sel [(0, (.str x.1)), (1, (.int .i64 x.2.1)), (7, (.int .i64 out))] [] env st → Q (.exit 3) env st) → SemL P H.spec_l1Next.ntmps 0 H.spec_l1Next_l24 [(0, (.str x.1)), (1, (.int .i64 x.2.1)), (7, (.int .i64 x.2.2))] [] Q) ?_
  intro f_spec_l1Next_L1 ih_spec_l1Next_L1 x out h
  obtain ⟨p0, p1, t7_L1⟩ := x
  try dsimp only at h
  intro Q hx
  refine SemL.round ?_
  try dsimp only at hx
  refine SemF.seq rfl ?_
  refine SemF.seq rfl ?_
  refine SemF.reg true rfl ?_
  try simp only [gE, ↓gT, ↓reduceIte, reduceCtorEq, reduceAdd, reduceEqDiff, reduceLeDiff, reduceLT]; (repeat intro (_ : _ ≤ lim))
  (repeat intro (_ : _ ≤ lim))
  by_cases hc27 : t7_L1 < ((p0.size : Nat) : Int)
  · rw [if_pos hc27] at h
    try simp only [gE, ↓gT, ↓reduceIte, reduceCtorEq, reduceAdd, reduceEqDiff, reduceLeDiff, reduceLT, eq_true hc27]; (repeat intro (_ : _ ≤ lim))
    obtain ⟨c28, h_c28, h⟩ := bs h
    obtain ⟨c_c28, m_c28, v_c28⟩ := bx_get h_c28
    try simp only [gE, ↓gT, ↓reduceIte, reduceCtorEq, reduceAdd, reduceEqDiff, reduceLeDiff, reduceLT, eq_true hc27, eq_true (bx_nn h_c28), m_c28, v_c28]; (repeat intro (_ : _ ≤ lim))
    obtain ⟨r29, h_r29, h⟩ := bs h
    refine HCp.callE (K.spec_l1Letter c28 r29 h_r29) (by simp only [gE, ↓gT, ↓reduceIte, reduceCtorEq, reduceAdd, reduceEqDiff, reduceLeDiff, reduceLT, eq_true hc27, eq_true (bx_nn h_c28), m_c28, v_c28]) (by simp only [scT, esT, and_self, true_and, and_true]) (by simp only [scT, esT, and_self, true_and, and_true]) ?_
    try simp only [gE, ↓gT, ↓reduceIte, reduceCtorEq, reduceAdd, reduceEqDiff, reduceLeDiff, reduceLT, eq_true hc27, eq_true (bx_nn h_c28), m_c28, v_c28]; (repeat intro (_ : _ ≤ lim))
    by_cases hc30 : r29 = true
    · rw [if_pos hc30] at h
      refine SemF.cond rfl ?_
      simp only [gE, ↓gT, ↓reduceIte, reduceCtorEq, reduceAdd, reduceEqDiff, reduceLeDiff, reduceLT, eq_true hc27, eq_true (bx_nn h_c28), m_c28, v_c28, hc30]
      refine SemF.skip rfl ?_
      simp only [gE, ↓gT, ↓reduceIte, reduceCtorEq, reduceAdd, reduceEqDiff, reduceLeDiff, reduceLT, eq_true hc27, eq_true (bx_nn h_c28), m_c28, v_c28, hc30]
      refine SemF.block rfl ?_
      refine SemF.reg true rfl ?_
      try simp only [gE, ↓gT, ↓reduceIte, reduceCtorEq, reduceAdd, reduceEqDiff, reduceLeDiff, reduceLT, eq_true hc27, eq_true (bx_nn h_c28), m_c28, v_c28, hc30]; (repeat intro (_ : _ ≤ lim))
      refine SemL.weak (sel := []) ⟨by simp only [gE, ↓gT, ↓reduceIte, reduceCtorEq, reduceAdd, reduceEqDiff, reduceLeDiff, reduceLT, hwT, selS, erT, eq_true hc27, eq_true (bx_nn h_c28), m_c28, v_c28, hc30], by decide, by decide, by simp only [gE, ↓gT, ↓reduceIte, reduceCtorEq, reduceAdd, reduceEqDiff, reduceLeDiff, reduceLT, hwT, selS, erT, subR, eq_true hc27, eq_true (bx_nn h_c28), m_c28, v_c28, hc30], by simp only [gE, ↓gT, ↓reduceIte, reduceCtorEq, reduceAdd, reduceEqDiff, reduceLeDiff, reduceLT, hwT, selS, erT, scT, esT, eq_true hc27, eq_true (bx_nn h_c28), m_c28, v_c28, hc30], by simp only [gE, ↓gT, ↓reduceIte, reduceCtorEq, reduceAdd, reduceEqDiff, reduceLeDiff, reduceLT, hwT, selS, erT, scT, esT, eq_true hc27, eq_true (bx_nn h_c28), m_c28, v_c28, hc30]⟩ (ih_spec_l1Next_L1 (p0, p1, (IntKind.i64.wrap (t7_L1 + 1))) out h Q hx)
    · rw [if_neg hc30] at h
      replace hc30 := eq_false_of_ne_true hc30
      refine SemF.cond rfl ?_
      simp only [gE, ↓gT, ↓reduceIte, reduceCtorEq, reduceAdd, reduceEqDiff, reduceLeDiff, reduceLT, eq_true hc27, eq_true (bx_nn h_c28), m_c28, v_c28, hc30]
      refine SemF.exit rfl ?_
      simp only [gE, ↓gT, ↓reduceIte, reduceCtorEq, reduceAdd, reduceEqDiff, reduceLeDiff, reduceLT, eq_true hc27, eq_true (bx_nn h_c28), m_c28, v_c28, hc30]
      obtain rfl := Option.some.inj h
      refine hx _ _ [] ⟨by simp only [gE, ↓gT, ↓reduceIte, reduceCtorEq, reduceAdd, reduceEqDiff, reduceLeDiff, reduceLT, hwT, selS, erT, eq_true hc27, eq_true (bx_nn h_c28), m_c28, v_c28, hc30], by decide, by decide, by simp only [gE, ↓gT, ↓reduceIte, reduceCtorEq, reduceAdd, reduceEqDiff, reduceLeDiff, reduceLT, hwT, selS, erT, subR, eq_true hc27, eq_true (bx_nn h_c28), m_c28, v_c28, hc30], by simp only [gE, ↓gT, ↓reduceIte, reduceCtorEq, reduceAdd, reduceEqDiff, reduceLeDiff, reduceLT, hwT, selS, erT, scT, esT, eq_true hc27, eq_true (bx_nn h_c28), m_c28, v_c28, hc30], by simp only [gE, ↓gT, ↓reduceIte, reduceCtorEq, reduceAdd, reduceEqDiff, reduceLeDiff, reduceLT, hwT, selS, erT, scT, esT, eq_true hc27, eq_true (bx_nn h_c28), m_c28, v_c28, hc30]⟩
  · rw [if_neg hc27] at h
    try simp only [gE, ↓gT, ↓reduceIte, reduceCtorEq, reduceAdd, reduceEqDiff, reduceLeDiff, reduceLT, eq_false hc27]; (repeat intro (_ : _ ≤ lim))
    refine SemF.cond rfl ?_
    simp only [gE, ↓gT, ↓reduceIte, reduceCtorEq, reduceAdd, reduceEqDiff, reduceLeDiff, reduceLT, eq_false hc27]
    refine SemF.exit rfl ?_
    simp only [gE, ↓gT, ↓reduceIte, reduceCtorEq, reduceAdd, reduceEqDiff, reduceLeDiff, reduceLT, eq_false hc27]
    obtain rfl := Option.some.inj h
    refine hx _ _ [] ⟨by simp only [gE, ↓gT, ↓reduceIte, reduceCtorEq, reduceAdd, reduceEqDiff, reduceLeDiff, reduceLT, hwT, selS, erT, eq_false hc27], by decide, by decide, by simp only [gE, ↓gT, ↓reduceIte, reduceCtorEq, reduceAdd, reduceEqDiff, reduceLeDiff, reduceLT, hwT, selS, erT, subR, eq_false hc27], by simp only [gE, ↓gT, ↓reduceIte, reduceCtorEq, reduceAdd, reduceEqDiff, reduceLeDiff, reduceLT, hwT, selS, erT, scT, esT, eq_false hc27], by simp only [gE, ↓gT, ↓reduceIte, reduceCtorEq, reduceAdd, reduceEqDiff, reduceLeDiff, reduceLT, hwT, selS, erT, scT, esT, eq_false hc27]⟩
theorem spec_l1Next_L0 : ∀ (x : (ByteArray × Int × Int)) (out : Int), M.spec_l1Next_L0 x = some out → ∀ Q : HExit → Env → St → Prop, (∀ env st sel, Weak 0 sel [(0, (.str x.1)), (1, (.int .i64 x.2.1)), (7, (.int .i64 out))] [] env st → Q (.exit 1) env st) → SemL P H.spec_l1Next.ntmps 0 H.spec_l1Next_l17 [(0, (.str x.1)), (1, (.int .i64 x.2.1)), (7, (.int .i64 x.2.2))] [] Q := by
  refine M.spec_l1Next_L0.partial_correctness (motive := fun x out => ∀ Q : HExit → Env → St → Prop, (∀ env st sel, Weak 0 sel [(0, (.str x.1)), (1, (.int .i64 x.2.1)), (7, (.int .i64 out))] [] env st → Q (.exit 1) env st) → SemL P H.spec_l1Next.ntmps 0 H.spec_l1Next_l17 [(0, (.str x.1)), (1, (.int .i64 x.2.1)), (7, (.int .i64 x.2.2))] [] Q) ?_
  intro f_spec_l1Next_L0 ih_spec_l1Next_L0 x out h
  obtain ⟨p0, p1, t7_L0⟩ := x
  try dsimp only at h
  intro Q hx
  refine SemL.round ?_
  try dsimp only at hx
  refine SemF.seq rfl ?_
  refine SemF.seq rfl ?_
  refine SemF.reg true rfl ?_
  try simp only [gE, ↓gT, ↓reduceIte, reduceCtorEq, reduceAdd, reduceEqDiff, reduceLeDiff, reduceLT]; (repeat intro (_ : _ ≤ lim))
  (repeat intro (_ : _ ≤ lim))
  by_cases hc8 : t7_L0 < ((p0.size : Nat) : Int)
  · rw [if_pos hc8] at h
    try simp only [gE, ↓gT, ↓reduceIte, reduceCtorEq, reduceAdd, reduceEqDiff, reduceLeDiff, reduceLT, eq_true hc8]; (repeat intro (_ : _ ≤ lim))
    obtain ⟨c9, h_c9, h⟩ := bs h
    obtain ⟨c_c9, m_c9, v_c9⟩ := bx_get h_c9
    try simp only [gE, ↓gT, ↓reduceIte, reduceCtorEq, reduceAdd, reduceEqDiff, reduceLeDiff, reduceLT, eq_true hc8, eq_true (bx_nn h_c9), m_c9, v_c9]; (repeat intro (_ : _ ≤ lim))
    obtain ⟨r10, h_r10, h⟩ := bs h
    refine HCp.callE (K.spec_l1Digit c9 r10 h_r10) (by simp only [gE, ↓gT, ↓reduceIte, reduceCtorEq, reduceAdd, reduceEqDiff, reduceLeDiff, reduceLT, eq_true hc8, eq_true (bx_nn h_c9), m_c9, v_c9]) (by simp only [scT, esT, and_self, true_and, and_true]) (by simp only [scT, esT, and_self, true_and, and_true]) ?_
    try simp only [gE, ↓gT, ↓reduceIte, reduceCtorEq, reduceAdd, reduceEqDiff, reduceLeDiff, reduceLT, eq_true hc8, eq_true (bx_nn h_c9), m_c9, v_c9]; (repeat intro (_ : _ ≤ lim))
    by_cases hc11 : r10 = true
    · rw [if_pos hc11] at h
      refine SemF.cond rfl ?_
      simp only [gE, ↓gT, ↓reduceIte, reduceCtorEq, reduceAdd, reduceEqDiff, reduceLeDiff, reduceLT, eq_true hc8, eq_true (bx_nn h_c9), m_c9, v_c9, hc11]
      refine SemF.skip rfl ?_
      simp only [gE, ↓gT, ↓reduceIte, reduceCtorEq, reduceAdd, reduceEqDiff, reduceLeDiff, reduceLT, eq_true hc8, eq_true (bx_nn h_c9), m_c9, v_c9, hc11]
      refine SemF.block rfl ?_
      refine SemF.reg true rfl ?_
      try simp only [gE, ↓gT, ↓reduceIte, reduceCtorEq, reduceAdd, reduceEqDiff, reduceLeDiff, reduceLT, eq_true hc8, eq_true (bx_nn h_c9), m_c9, v_c9, hc11]; (repeat intro (_ : _ ≤ lim))
      refine SemL.weak (sel := []) ⟨by simp only [gE, ↓gT, ↓reduceIte, reduceCtorEq, reduceAdd, reduceEqDiff, reduceLeDiff, reduceLT, hwT, selS, erT, eq_true hc8, eq_true (bx_nn h_c9), m_c9, v_c9, hc11], by decide, by decide, by simp only [gE, ↓gT, ↓reduceIte, reduceCtorEq, reduceAdd, reduceEqDiff, reduceLeDiff, reduceLT, hwT, selS, erT, subR, eq_true hc8, eq_true (bx_nn h_c9), m_c9, v_c9, hc11], by simp only [gE, ↓gT, ↓reduceIte, reduceCtorEq, reduceAdd, reduceEqDiff, reduceLeDiff, reduceLT, hwT, selS, erT, scT, esT, eq_true hc8, eq_true (bx_nn h_c9), m_c9, v_c9, hc11], by simp only [gE, ↓gT, ↓reduceIte, reduceCtorEq, reduceAdd, reduceEqDiff, reduceLeDiff, reduceLT, hwT, selS, erT, scT, esT, eq_true hc8, eq_true (bx_nn h_c9), m_c9, v_c9, hc11]⟩ (ih_spec_l1Next_L0 (p0, p1, (IntKind.i64.wrap (t7_L0 + 1))) out h Q hx)
    · rw [if_neg hc11] at h
      replace hc11 := eq_false_of_ne_true hc11
      refine SemF.cond rfl ?_
      simp only [gE, ↓gT, ↓reduceIte, reduceCtorEq, reduceAdd, reduceEqDiff, reduceLeDiff, reduceLT, eq_true hc8, eq_true (bx_nn h_c9), m_c9, v_c9, hc11]
      refine SemF.exit rfl ?_
      simp only [gE, ↓gT, ↓reduceIte, reduceCtorEq, reduceAdd, reduceEqDiff, reduceLeDiff, reduceLT, eq_true hc8, eq_true (bx_nn h_c9), m_c9, v_c9, hc11]
      obtain rfl := Option.some.inj h
      refine hx _ _ [] ⟨by simp only [gE, ↓gT, ↓reduceIte, reduceCtorEq, reduceAdd, reduceEqDiff, reduceLeDiff, reduceLT, hwT, selS, erT, eq_true hc8, eq_true (bx_nn h_c9), m_c9, v_c9, hc11], by decide, by decide, by simp only [gE, ↓gT, ↓reduceIte, reduceCtorEq, reduceAdd, reduceEqDiff, reduceLeDiff, reduceLT, hwT, selS, erT, subR, eq_true hc8, eq_true (bx_nn h_c9), m_c9, v_c9, hc11], by simp only [gE, ↓gT, ↓reduceIte, reduceCtorEq, reduceAdd, reduceEqDiff, reduceLeDiff, reduceLT, hwT, selS, erT, scT, esT, eq_true hc8, eq_true (bx_nn h_c9), m_c9, v_c9, hc11], by simp only [gE, ↓gT, ↓reduceIte, reduceCtorEq, reduceAdd, reduceEqDiff, reduceLeDiff, reduceLT, hwT, selS, erT, scT, esT, eq_true hc8, eq_true (bx_nn h_c9), m_c9, v_c9, hc11]⟩
  · rw [if_neg hc8] at h
    try simp only [gE, ↓gT, ↓reduceIte, reduceCtorEq, reduceAdd, reduceEqDiff, reduceLeDiff, reduceLT, eq_false hc8]; (repeat intro (_ : _ ≤ lim))
    refine SemF.cond rfl ?_
    simp only [gE, ↓gT, ↓reduceIte, reduceCtorEq, reduceAdd, reduceEqDiff, reduceLeDiff, reduceLT, eq_false hc8]
    refine SemF.exit rfl ?_
    simp only [gE, ↓gT, ↓reduceIte, reduceCtorEq, reduceAdd, reduceEqDiff, reduceLeDiff, reduceLT, eq_false hc8]
    obtain rfl := Option.some.inj h
    refine hx _ _ [] ⟨by simp only [gE, ↓gT, ↓reduceIte, reduceCtorEq, reduceAdd, reduceEqDiff, reduceLeDiff, reduceLT, hwT, selS, erT, eq_false hc8], by decide, by decide, by simp only [gE, ↓gT, ↓reduceIte, reduceCtorEq, reduceAdd, reduceEqDiff, reduceLeDiff, reduceLT, hwT, selS, erT, subR, eq_false hc8], by simp only [gE, ↓gT, ↓reduceIte, reduceCtorEq, reduceAdd, reduceEqDiff, reduceLeDiff, reduceLT, hwT, selS, erT, scT, esT, eq_false hc8], by simp only [gE, ↓gT, ↓reduceIte, reduceCtorEq, reduceAdd, reduceEqDiff, reduceLeDiff, reduceLT, hwT, selS, erT, scT, esT, eq_false hc8]⟩
end K
end W
