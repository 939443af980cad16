import Derived.Test.YtnhdobhfebiggaaLPrf4
namespace W
set_option linter.unusedSimpArgs false
set_option linter.unusedVariables false
open Go HL S
open Nat (reduceAdd reduceEqDiff reduceLeDiff reduceSub reduceMul reduceLT)
set_option linter.unusedVariables false
set_option maxRecDepth 100000
set_option maxHeartbeats 4000000
namespace K
theorem spec_l1Text_p_L0 : ∀ (x : (ByteArray × Int × (List Int) × Int × Int)) (out : (ByteArray × (List Int) × Int × Int)), M.spec_l1Text_p_L0 x = some out → ∀ Q : HExit → Env → St → Prop, (∀ env st sel, Weak 1 sel [(3, (.str out.1))] [(.box (.agg [(.sl (List.map (HV.int .u8) out.2.1)), (.int .i64 out.2.2.1), (.int .i64 out.2.2.2)]))] env st → Q (.exit 0) env st) → SemL P H.spec_l1Text.ntmps 1 H.spec_l1Text_l5 [(0, (.ptr 0 1 0 0)), (3, (.str x.1)), (4, (.int .i64 x.2.1))] [(.box (.agg [(.sl (List.map (HV.int .u8) x.2.2.1)), (.int .i64 x.2.2.2.1), (.int .i64 x.2.2.2.2)]))] Q := by
  refine M.spec_l1Text_p_L0.partial_correctness (motive := fun x out => ∀ Q : HExit → Env → St → Prop, (∀ env st sel, Weak 1 sel [(3, (.str out.1))] [(.box (.agg [(.sl (List.map (HV.int .u8) out.2.1)), (.int .i64 out.2.2.1), (.int .i64 out.2.2.2)]))] env st → Q (.exit 0) env st) → SemL P H.spec_l1Text.ntmps 1 H.spec_l1Text_l5 [(0, (.ptr 0 1 0 0)), (3, (.str x.1)), (4, (.int .i64 x.2.1))] [(.box (.agg [(.sl (List.map (HV.int .u8) x.2.2.1)), (.int .i64 x.2.2.2.1), (.int .i64 x.2.2.2.2)]))] Q) ?_
  intro f_spec_l1Text_p_L0 ih_spec_l1Text_p_L0 x out h
  obtain ⟨t3_L0, t4_L0, o0_0_L0, o0_1_L0, o0_2_L0⟩ := x
  try dsimp only at h
  intro Q hx
  refine SemL.round ?_
  try dsimp only at hx
  refine SemF.seq rfl ?_
  refine SemF.seq rfl ?_
  refine SemF.reg true rfl ?_
  try simp only [gE, ↓gT, ↓reduceIte, reduceCtorEq, reduceAdd, reduceEqDiff, reduceLeDiff, reduceLT]; (repeat intro (_ : _ ≤ lim))
  by_cases hc16 : 0 < t4_L0
  · rw [if_pos hc16] at h
    refine SemF.cond rfl ?_
    simp only [gE, ↓gT, ↓reduceIte, reduceCtorEq, reduceAdd, reduceEqDiff, reduceLeDiff, reduceLT, eq_true hc16]
    refine SemF.skip rfl ?_
    simp only [gE, ↓gT, ↓reduceIte, reduceCtorEq, reduceAdd, reduceEqDiff, reduceLeDiff, reduceLT, eq_true hc16]
    refine SemF.seq rfl ?_
    refine SemF.block rfl ?_
    refine SemF.reg true rfl ?_
    try simp only [gE, ↓gT, ↓reduceIte, reduceCtorEq, reduceAdd, reduceEqDiff, reduceLeDiff, reduceLT, eq_true hc16]; (repeat intro (_ : _ ≤ lim))
    obtain ⟨r17, h_r17, h⟩ := bs h
    refine HC.frame (K.spec_l1Word_p (spec_l1Cur.mk o0_0_L0 o0_1_L0 o0_2_L0) r17 h_r17) [0] (by simp only [gE, ↓gT, ↓reduceIte, reduceCtorEq, reduceAdd, reduceEqDiff, reduceLeDiff, reduceLT, hwT, selS, erT, eq_true hc16]) (by decide) (ltL_iff (by simp only [hlT, reduceAdd, reduceLT, reduceLeDiff])) (liveL_iff (by simp only [hlT, reduceAdd, reduceLT, reduceLeDiff])) (by simp only [gE, ↓gT, ↓reduceIte, reduceCtorEq, reduceAdd, reduceEqDiff, reduceLeDiff, reduceLT, hwT, selS, erT, eq_true hc16]) (by simp only [gE, ↓gT, ↓reduceIte, reduceCtorEq, reduceAdd, reduceEqDiff, reduceLeDiff, reduceLT, hwT, selS, erT, scT, esT]) (by simp only [gE, ↓gT, ↓reduceIte, reduceCtorEq, reduceAdd, reduceEqDiff, reduceLeDiff, reduceLT, hwT, selS, erT, scT, esT]) (by simp only [hlT, reduceAdd, reduceLT, reduceLeDiff]) (by simp only [gE, ↓gT, ↓reduceIte, reduceCtorEq, reduceAdd, reduceEqDiff, reduceLeDiff, reduceLT, hwT, selS, erT, scT, esT]) (by simp only [gE, ↓gT, ↓reduceIte, reduceCtorEq, reduceAdd, reduceEqDiff, reduceLeDiff, reduceLT, hwT, selS, erT, scT, esT]) ?_
    simp only [gE, ↓gT, ↓reduceIte, reduceCtorEq, reduceAdd, reduceEqDiff, reduceLeDiff, reduceLT, hwT, selS, erT, hmT, reduceSub, eq_true hc16]
    obtain ⟨u19, h_u19, h⟩ := bs h
    have hg18 := gd_some h_u19
    try simp only [gE, ↓gT, ↓reduceIte, reduceCtorEq, reduceAdd, reduceEqDiff, reduceLeDiff, reduceLT, eq_true hc16, eq_true hg18]; (repeat intro (_ : _ ≤ lim))
    obtain ⟨r20, h_r20, h⟩ := bs h
    refine HC.view ?_
    simp only [gE, ↓gT, ↓reduceIte, reduceCtorEq, reduceAdd, reduceEqDiff, reduceLeDiff, reduceLT, cnT, eq_true hc16, eq_true hg18]
    refine HC.frame (K.spec_l1Str_p (r17.2, [(⟨⟨[32]⟩⟩ : ByteArray), (⟨⟨[32]⟩⟩ : ByteArray), (⟨⟨[32]⟩⟩ : ByteArray), (⟨⟨[10]⟩⟩ : ByteArray), (⟨⟨[10, 32, 32]⟩⟩ : ByteArray), (⟨⟨[10, 32, 32, 32, 32]⟩⟩ : ByteArray), (⟨⟨[]⟩⟩ : ByteArray)]) r20 h_r20) [0] (by simp only [gE, ↓gT, ↓reduceIte, reduceCtorEq, reduceAdd, reduceEqDiff, reduceLeDiff, reduceLT, hwT, selS, erT, eq_true hc16, eq_true hg18]) (by decide) (ltL_iff (by simp only [hlT, reduceAdd, reduceLT, reduceLeDiff])) (liveL_iff (by simp only [hlT, reduceAdd, reduceLT, reduceLeDiff])) (by simp only [gE, ↓gT, ↓reduceIte, reduceCtorEq, reduceAdd, reduceEqDiff, reduceLeDiff, reduceLT, hwT, selS, erT, eq_true hc16, eq_true hg18]) (by simp only [gE, ↓gT, ↓reduceIte, reduceCtorEq, reduceAdd, reduceEqDiff, reduceLeDiff, reduceLT, hwT, selS, erT, scT, esT]) (by simp only [gE, ↓gT, ↓reduceIte, reduceCtorEq, reduceAdd, reduceEqDiff, reduceLeDiff, reduceLT, hwT, selS, erT, scT, esT]) (by simp only [hlT, reduceAdd, reduceLT, reduceLeDiff]) (by simp only [gE, ↓gT, ↓reduceIte, reduceCtorEq, reduceAdd, reduceEqDiff, reduceLeDiff, reduceLT, hwT, selS, erT, scT, esT]) (by simp only [gE, ↓gT, ↓reduceIte, reduceCtorEq, reduceAdd, reduceEqDiff, reduceLeDiff, reduceLT, hwT, selS, erT, scT, esT]) ?_
    simp only [gE, ↓gT, ↓reduceIte, reduceCtorEq, reduceAdd, reduceEqDiff, reduceLeDiff, reduceLT, hwT, selS, erT, hmT, reduceSub, eq_true hc16, eq_true hg18]
    obtain ⟨u22, h_u22, h⟩ := bs h
    have hg21 := gd_some h_u22
    try simp only [gE, ↓gT, ↓reduceIte, reduceCtorEq, reduceAdd, reduceEqDiff, reduceLeDiff, reduceLT, eq_true hc16, eq_true hg18, eq_true hg21]; (repeat intro (_ : _ ≤ lim))
    refine SemF.reg true rfl ?_
    try simp only [gE, ↓gT, ↓reduceIte, reduceCtorEq, reduceAdd, reduceEqDiff, reduceLeDiff, reduceLT, eq_true hc16, eq_true hg18, eq_true hg21]; (repeat intro (_ : _ ≤ lim))
    refine SemL.weak (sel := [0]) ⟨by simp only [gE, ↓gT, ↓reduceIte, reduceCtorEq, reduceAdd, reduceEqDiff, reduceLeDiff, reduceLT, hwT, selS, erT, eq_true hc16, eq_true hg18, eq_true hg21], by decide, by decide, by simp only [gE, ↓gT, ↓reduceIte, reduceCtorEq, reduceAdd, reduceEqDiff, reduceLeDiff, reduceLT, hwT, selS, erT, subR, eq_true hc16, eq_true hg18, eq_true hg21], by simp only [gE, ↓gT, ↓reduceIte, reduceCtorEq, reduceAdd, reduceEqDiff, reduceLeDiff, reduceLT, hwT, selS, erT, scT, esT, eq_true hc16, eq_true hg18, eq_true hg21], by simp only [gE, ↓gT, ↓reduceIte, reduceCtorEq, reduceAdd, reduceEqDiff, reduceLeDiff, reduceLT, hwT, selS, erT, scT, esT, eq_true hc16, eq_true hg18, eq_true hg21]⟩ (ih_spec_l1Text_p_L0 (((t3_L0 ++ r17.1) ++ r20.1), (IntKind.i64.wrap (t4_L0 - 1)), r20.2.b, r20.2.i, r20.2.h) out h Q hx)
  · rw [if_neg hc16] at h
    refine SemF.cond rfl ?_
    simp only [gE, ↓gT, ↓reduceIte, reduceCtorEq, reduceAdd, reduceEqDiff, reduceLeDiff, reduceLT, eq_false hc16]
    refine SemF.exit rfl ?_
    simp only [gE, ↓gT, ↓reduceIte, reduceCtorEq, reduceAdd, reduceEqDiff, reduceLeDiff, reduceLT, eq_false hc16]
    obtain rfl := Option.some.inj h
    refine hx _ _ [0] ⟨by simp only [gE, ↓gT, ↓reduceIte, reduceCtorEq, reduceAdd, reduceEqDiff, reduceLeDiff, reduceLT, hwT, selS, erT, eq_false hc16], by decide, by decide, by simp only [gE, ↓gT, ↓reduceIte, reduceCtorEq, reduceAdd, reduceEqDiff, reduceLeDiff, reduceLT, hwT, selS, erT, subR, eq_false hc16], by simp only [gE, ↓gT, ↓reduceIte, reduceCtorEq, reduceAdd, reduceEqDiff, reduceLeDiff, reduceLT, hwT, selS, erT, scT, esT, eq_false hc16], by simp only [gE, ↓gT, ↓reduceIte, reduceCtorEq, reduceAdd, reduceEqDiff, reduceLeDiff, reduceLT, hwT, selS, erT, scT, esT, eq_false hc16]⟩
theorem spec_l1Text_p : ∀ (x : spec_l1Cur) (r : (ByteArray × spec_l1Cur)), M.spec_l1Text_p x = some r → HC P F.spec_l1Text [(.ptr 0 1 0 0)] [(.box (spec_l1Cur.enc x))] (fun r_ s_ => r_ = (HV.str r.1) ∧ s_ = [(.box (spec_l1Cur.enc r.2))]) := by
  intro x r h
  revert h; revert x; intro p0 h
  unfold M.spec_l1Text_p at h
  try dsimp only at h
  refine HC.mkB S.spec_l1Text (by simp [H.spec_l1Text]) ?_
  simp only [gE, ↓gT, ↓reduceIte, reduceCtorEq, reduceAdd, reduceEqDiff, reduceLeDiff, reduceLT, H.spec_l1Text]
  refine SemF.seq rfl ?_
  refine SemF.reg true rfl ?_
  try simp only [gE, ↓gT, ↓reduceIte, reduceCtorEq, reduceAdd, reduceEqDiff, reduceLeDiff, reduceLT]; (repeat intro (_ : _ ≤ lim))
  refine SemF.seq rfl ?_
  refine SemF.reg true rfl ?_
  try simp only [gE, ↓gT, ↓reduceIte, reduceCtorEq, reduceAdd, reduceEqDiff, reduceLeDiff, reduceLT]; (repeat intro (_ : _ ≤ lim))
  refine SemF.seq rfl ?_
  refine SemF.seq rfl ?_
  refine SemF.reg true rfl ?_
  try simp only [gE, ↓gT, ↓reduceIte, reduceCtorEq, reduceAdd, reduceEqDiff, reduceLeDiff, reduceLT]; (repeat intro (_ : _ ≤ lim))
  obtain ⟨r1, h_r1, h⟩ := bs h
  refine HC.frame (K.spec_l1Below_p (p0, 14) r1 h_r1) [0] (by simp only [gE, ↓gT, ↓reduceIte, reduceCtorEq, reduceAdd, reduceEqDiff, reduceLeDiff, reduceLT, hwT, selS, erT]) (by decide) (ltL_iff (by simp only [hlT, reduceAdd, reduceLT, reduceLeDiff])) (liveL_iff (by simp only [hlT, reduceAdd, reduceLT, reduceLeDiff])) (by simp only [gE, ↓gT, ↓reduceIte, reduceCtorEq, reduceAdd, reduceEqDiff, reduceLeDiff, reduceLT, hwT, selS, erT]) (by simp only [gE, ↓gT, ↓reduceIte, reduceCtorEq, reduceAdd, reduceEqDiff, reduceLeDiff, reduceLT, hwT, selS, erT, scT, esT]) (by simp only [gE, ↓gT, ↓reduceIte, reduceCtorEq, reduceAdd, reduceEqDiff, reduceLeDiff, reduceLT, hwT, selS, erT, scT, esT]) (by simp only [hlT, reduceAdd, reduceLT, reduceLeDiff]) (by simp only [gE, ↓gT, ↓reduceIte, reduceCtorEq, reduceAdd, reduceEqDiff, reduceLeDiff, reduceLT, hwT, selS, erT, scT, esT]) (by simp only [gE, ↓gT, ↓reduceIte, reduceCtorEq, reduceAdd, reduceEqDiff, reduceLeDiff, reduceLT, hwT, selS, erT, scT, esT]) ?_
  simp only [gE, ↓gT, ↓reduceIte, reduceCtorEq, reduceAdd, reduceEqDiff, reduceLeDiff, reduceLT, hwT, selS, erT, hmT, reduceSub]
  refine SemF.block rfl ?_
  obtain ⟨s23, h_s23, h⟩ := bs h
  refine SemF.loop rfl ?_
  refine SemL.weak (sel := [0]) ⟨by simp only [gE, ↓gT, ↓reduceIte, reduceCtorEq, reduceAdd, reduceEqDiff, reduceLeDiff, reduceLT, hwT, selS, erT], by decide, by decide, by simp only [gE, ↓gT, ↓reduceIte, reduceCtorEq, reduceAdd, reduceEqDiff, reduceLeDiff, reduceLT, hwT, selS, erT, subR], by simp only [gE, ↓gT, ↓reduceIte, reduceCtorEq, reduceAdd, reduceEqDiff, reduceLeDiff, reduceLT, hwT, selS, erT, scT, esT], by simp only [gE, ↓gT, ↓reduceIte, reduceCtorEq, reduceAdd, reduceEqDiff, reduceLeDiff, reduceLT, hwT, selS, erT, scT, esT]⟩ (K.spec_l1Text_p_L0 ((⟨⟨[]⟩⟩ : ByteArray), r1.1, r1.2.b, r1.2.i, r1.2.h) s23 h_s23 _ ?_)
  intro env st sel hw
  simp only [gE, ↓gT, ↓reduceIte, reduceCtorEq, reduceAdd, reduceEqDiff, reduceLeDiff, reduceLT]
  first | refine SemF.weak hw ?_ | refine SemL.weak hw ?_
  refine SemF.seq rfl ?_
  refine SemF.reg true rfl ?_
  try simp only [gE, ↓gT, ↓reduceIte, reduceCtorEq, reduceAdd, reduceEqDiff, reduceLeDiff, reduceLT]; (repeat intro (_ : _ ≤ lim))
  refine SemF.ret rfl ?_
  try simp only [gE, ↓gT, ↓reduceIte, reduceCtorEq, reduceAdd, reduceEqDiff, reduceLeDiff, reduceLT]; (repeat intro (_ : _ ≤ lim))
  obtain rfl := Option.some.inj h
  simp only [gE, ↓gT, ↓reduceIte, reduceCtorEq, reduceAdd, reduceEqDiff, reduceLeDiff, reduceLT, RetB_def]
  exact ⟨[0], by simp only [gE, ↓gT, ↓reduceIte, reduceCtorEq, reduceAdd, reduceEqDiff, reduceLeDiff, reduceLT, hwT, selS, erT], by simp only [gE, ↓gT, ↓reduceIte, reduceCtorEq, reduceAdd, reduceEqDiff, reduceLeDiff, reduceLT, hwT, selS, erT], by decide, by decide, by simp only [gE, ↓gT, ↓reduceIte, reduceCtorEq, reduceAdd, reduceEqDiff, reduceLeDiff, reduceLT, hwT, selS, erT, scT, esT], by simp only [gE, ↓gT, ↓reduceIte, reduceCtorEq, reduceAdd, reduceEqDiff, reduceLeDiff, reduceLT, hwT, selS, erT, scT, esT]⟩
theorem spec_l1Once_p : ∀ (x : (spec_l1Cur × Int)) (r : (Bool × spec_l1Cur)), M.spec_l1Once_p x = some r → HC P F.spec_l1Once [(.ptr 0 1 0 0), (.int .i64 x.2)] [(.box (spec_l1Cur.enc x.1))] (fun r_ s_ => r_ = (HV.bool r.1) ∧ s_ = [(.box (spec_l1Cur.enc r.2))]) := by
  intro x r h
  obtain ⟨p0, p1⟩ := x
  unfold M.spec_l1Once_p at h
  try dsimp only at h
  refine HC.mkB S.spec_l1Once (by simp [H.spec_l1Once]) ?_
  simp only [gE, ↓gT, ↓reduceIte, reduceCtorEq, reduceAdd, reduceEqDiff, reduceLeDiff, reduceLT, H.spec_l1Once]
  refine SemF.seq rfl ?_
  refine SemF.reg true rfl ?_
  try simp only [gE, ↓gT, ↓reduceIte, reduceCtorEq, reduceAdd, reduceEqDiff, reduceLeDiff, reduceLT]; (repeat intro (_ : _ ≤ lim))
  refine SemF.seq rfl ?_
  refine SemF.reg true rfl ?_
  try simp only [gE, ↓gT, ↓reduceIte, reduceCtorEq, reduceAdd, reduceEqDiff, reduceLeDiff, reduceLT]; (repeat intro (_ : _ ≤ lim))
  obtain ⟨r1, h_r1, h⟩ := bs h
  refine HC.frame (K.spec_l1Below_p (p0, p1) r1 h_r1) [0] (by simp only [gE, ↓gT, ↓reduceIte, reduceCtorEq, reduceAdd, reduceEqDiff, reduceLeDiff, reduceLT, hwT, selS, erT]) (by decide) (ltL_iff (by simp only [hlT, reduceAdd, reduceLT, reduceLeDiff])) (liveL_iff (by simp only [hlT, reduceAdd, reduceLT, reduceLeDiff])) (by simp only [gE, ↓gT, ↓reduceIte, reduceCtorEq, reduceAdd, reduceEqDiff, reduceLeDiff, reduceLT, hwT, selS, erT]) (by simp only [gE, ↓gT, ↓reduceIte, reduceCtorEq, reduceAdd, reduceEqDiff, reduceLeDiff, reduceLT, hwT, selS, erT, scT, esT]) (by simp only [gE, ↓gT, ↓reduceIte, reduceCtorEq, reduceAdd, reduceEqDiff, reduceLeDiff, reduceLT, hwT, selS, erT, scT, esT]) (by simp only [hlT, reduceAdd, reduceLT, reduceLeDiff]) (by simp only [gE, ↓gT, ↓reduceIte, reduceCtorEq, reduceAdd, reduceEqDiff, reduceLeDiff, reduceLT, hwT, selS, erT, scT, esT]) (by simp only [gE, ↓gT, ↓reduceIte, reduceCtorEq, reduceAdd, reduceEqDiff, reduceLeDiff, reduceLT, hwT, selS, erT, scT, esT]) ?_
  simp only [gE, ↓gT, ↓reduceIte, reduceCtorEq, reduceAdd, reduceEqDiff, reduceLeDiff, reduceLT, hwT, selS, erT, hmT, reduceSub]
  refine SemF.ret rfl ?_
  try simp only [gE, ↓gT, ↓reduceIte, reduceCtorEq, reduceAdd, reduceEqDiff, reduceLeDiff, reduceLT]; (repeat intro (_ : _ ≤ lim))
  obtain rfl := Option.some.inj h
  simp only [gE, ↓gT, ↓reduceIte, reduceCtorEq, reduceAdd, reduceEqDiff, reduceLeDiff, reduceLT, RetB_def]
  exact ⟨[0], by simp only [gE, ↓gT, ↓reduceIte, reduceCtorEq, reduceAdd, reduceEqDiff, reduceLeDiff, reduceLT, hwT, selS, erT], by simp only [gE, ↓gT, ↓reduceIte, reduceCtorEq, reduceAdd, reduceEqDiff, reduceLeDiff, reduceLT, hwT, selS, erT], by decide, by decide, by simp only [gE, ↓gT, ↓reduceIte, reduceCtorEq, reduceAdd, reduceEqDiff, reduceLeDiff, reduceLT, hwT, selS, erT, scT, esT], by simp only [gE, ↓gT, ↓reduceIte, reduceCtorEq, reduceAdd, reduceEqDiff, reduceLeDiff, reduceLT, hwT, selS, erT, scT, esT]⟩
theorem spec_DrawLex : ∀ (x : (List Int)) (r : ByteArray), M.spec_DrawLex x = some r → HCp P F.spec_DrawLex [(.sl (List.map (HV.int .u8) x))] (HV.str r) := by
  intro x r h
  revert h; revert x; intro p0 h
  unfold M.spec_DrawLex at h
  try dsimp only at h
  refine HCp.mkF S.spec_DrawLex (by simp [H.spec_DrawLex]) (by simp only [scT, esT, and_self, true_and, and_true]) ?_
  simp only [gE, ↓gT, ↓reduceIte, reduceCtorEq, reduceAdd, reduceEqDiff, reduceLeDiff, reduceLT, H.spec_DrawLex]
  refine SemF.seq rfl ?_
  refine SemF.reg true rfl ?_
  try simp only [gE, ↓gT, ↓reduceIte, reduceCtorEq, reduceAdd, reduceEqDiff, reduceLeDiff, reduceLT]; (repeat intro (_ : _ ≤ lim))
  refine SemF.seq rfl ?_
  refine SemF.reg true rfl ?_
  try simp only [gE, ↓gT, ↓reduceIte, reduceCtorEq, reduceAdd, reduceEqDiff, reduceLeDiff, reduceLT]; (repeat intro (_ : _ ≤ lim))
  obtain ⟨r1, h_r1, h⟩ := bs h
  refine HC.frame (K.spec_l1New p0 r1 h_r1) [] (by simp only [gE, ↓gT, ↓reduceIte, reduceCtorEq, reduceAdd, reduceEqDiff, reduceLeDiff, reduceLT, hwT, selS, erT]) (by decide) (ltL_iff (by simp only [hlT, reduceAdd, reduceLT, reduceLeDiff])) (liveL_iff (by simp only [hlT, reduceAdd, reduceLT, reduceLeDiff])) (by simp only [gE, ↓gT, ↓reduceIte, reduceCtorEq, reduceAdd, reduceEqDiff, reduceLeDiff, reduceLT, hwT, selS, erT]) (by simp only [gE, ↓gT, ↓reduceIte, reduceCtorEq, reduceAdd, reduceEqDiff, reduceLeDiff, reduceLT, hwT, selS, erT, scT, esT]) (by simp only [gE, ↓gT, ↓reduceIte, reduceCtorEq, reduceAdd, reduceEqDiff, reduceLeDiff, reduceLT, hwT, selS, erT, scT, esT]) (by simp only [hlT, reduceAdd, reduceLT, reduceLeDiff]) (by simp only [gE, ↓gT, ↓reduceIte, reduceCtorEq, reduceAdd, reduceEqDiff, reduceLeDiff, reduceLT, hwT, selS, erT, scT, esT]) (by simp only [gE, ↓gT, ↓reduceIte, reduceCtorEq, reduceAdd, reduceEqDiff, reduceLeDiff, reduceLT, hwT, selS, erT, scT, esT]) ?_
  simp only [gE, ↓gT, ↓reduceIte, reduceCtorEq, reduceAdd, reduceEqDiff, reduceLeDiff, reduceLT, hwT, selS, erT, hmT, reduceSub]
  refine SemF.seq rfl ?_
  refine SemF.reg true rfl ?_
  try simp only [gE, ↓gT, ↓reduceIte, reduceCtorEq, reduceAdd, reduceEqDiff, reduceLeDiff, reduceLT]; (repeat intro (_ : _ ≤ lim))
  obtain ⟨r2, h_r2, h⟩ := bs h
  refine HC.frame (K.spec_l1Text_p r1 r2 h_r2) [0] (by simp only [gE, ↓gT, ↓reduceIte, reduceCtorEq, reduceAdd, reduceEqDiff, reduceLeDiff, reduceLT, hwT, selS, erT]) (by decide) (ltL_iff (by simp only [hlT, reduceAdd, reduceLT, reduceLeDiff])) (liveL_iff (by simp only [hlT, reduceAdd, reduceLT, reduceLeDiff])) (by simp only [gE, ↓gT, ↓reduceIte, reduceCtorEq, reduceAdd, reduceEqDiff, reduceLeDiff, reduceLT, hwT, selS, erT]) (by simp only [gE, ↓gT, ↓reduceIte, reduceCtorEq, reduceAdd, reduceEqDiff, reduceLeDiff, reduceLT, hwT, selS, erT, scT, esT]) (by simp only [gE, ↓gT, ↓reduceIte, reduceCtorEq, reduceAdd, reduceEqDiff, reduceLeDiff, reduceLT, hwT, selS, erT, scT, esT]) (by simp only [hlT, reduceAdd, reduceLT, reduceLeDiff]) (by simp only [gE, ↓gT, ↓reduceIte, reduceCtorEq, reduceAdd, reduceEqDiff, reduceLeDiff, reduceLT, hwT, selS, erT, scT, esT]) (by simp only [gE, ↓gT, ↓reduceIte, reduceCtorEq, reduceAdd, reduceEqDiff, reduceLeDiff, reduceLT, hwT, selS, erT, scT, esT]) ?_
  simp only [gE, ↓gT, ↓reduceIte, reduceCtorEq, reduceAdd, reduceEqDiff, reduceLeDiff, reduceLT, hwT, selS, erT, hmT, reduceSub]
  refine SemF.seq rfl ?_
  refine SemF.seq rfl ?_
  refine SemF.reg true rfl ?_
  try simp only [gE, ↓gT, ↓reduceIte, reduceCtorEq, reduceAdd, reduceEqDiff, reduceLeDiff, reduceLT]; (repeat intro (_ : _ ≤ lim))
  obtain ⟨r3, h_r3, h⟩ := bs h
  refine HC.frame (K.spec_l1Below_p (r2.2, 8) r3 h_r3) [0] (by simp only [gE, ↓gT, ↓reduceIte, reduceCtorEq, reduceAdd, reduceEqDiff, reduceLeDiff, reduceLT, hwT, selS, erT]) (by decide) (ltL_iff (by simp only [hlT, reduceAdd, reduceLT, reduceLeDiff])) (liveL_iff (by simp only [hlT, reduceAdd, reduceLT, reduceLeDiff])) (by simp only [gE, ↓gT, ↓reduceIte, reduceCtorEq, reduceAdd, reduceEqDiff, reduceLeDiff, reduceLT, hwT, selS, erT]) (by simp only [gE, ↓gT, ↓reduceIte, reduceCtorEq, reduceAdd, reduceEqDiff, reduceLeDiff, reduceLT, hwT, selS, erT, scT, esT]) (by simp only [gE, ↓gT, ↓reduceIte, reduceCtorEq, reduceAdd, reduceEqDiff, reduceLeDiff, reduceLT, hwT, selS, erT, scT, esT]) (by simp only [hlT, reduceAdd, reduceLT, reduceLeDiff]) (by simp only [gE, ↓gT, ↓reduceIte, reduceCtorEq, reduceAdd, reduceEqDiff, reduceLeDiff, reduceLT, hwT, selS, erT, scT, esT]) (by simp only [gE, ↓gT, ↓reduceIte, reduceCtorEq, reduceAdd, reduceEqDiff, reduceLeDiff, reduceLT, hwT, selS, erT, scT, esT]) ?_
  simp only [gE, ↓gT, ↓reduceIte, reduceCtorEq, reduceAdd, reduceEqDiff, reduceLeDiff, reduceLT, hwT, selS, erT, hmT, reduceSub]
  refine SemF.block rfl ?_
  refine SemF.seq rfl ?_
  refine SemF.reg true rfl ?_
  try simp only [gE, ↓gT, ↓reduceIte, reduceCtorEq, reduceAdd, reduceEqDiff, reduceLeDiff, reduceLT]; (repeat intro (_ : _ ≤ lim))
  by_cases hc4 : r3.1 = 0
  · rw [if_pos hc4] at h
    refine SemF.cond rfl ?_
    simp only [gE, ↓gT, ↓reduceIte, reduceCtorEq, reduceAdd, reduceEqDiff, reduceLeDiff, reduceLT, eq_true hc4]
    refine SemF.seq rfl ?_
    refine SemF.reg true rfl ?_
    try simp only [gE, ↓gT, ↓reduceIte, reduceCtorEq, reduceAdd, reduceEqDiff, reduceLeDiff, reduceLT, eq_true hc4]; (repeat intro (_ : _ ≤ lim))
    obtain ⟨r5, h_r5, h⟩ := bs h
    refine HC.view ?_
    simp only [gE, ↓gT, ↓reduceIte, reduceCtorEq, reduceAdd, reduceEqDiff, reduceLeDiff, reduceLT, cnT, eq_true hc4]
    refine HC.frame (K.spec_l1Str_p (r3.2, [(⟨⟨[36]⟩⟩ : ByteArray), (⟨⟨[9]⟩⟩ : ByteArray), (⟨⟨[48, 49]⟩⟩ : ByteArray), (⟨⟨[49, 50, 51, 52, 53, 54, 55]⟩⟩ : ByteArray), (⟨⟨[110, 105, 110, 101, 108, 101, 116, 116, 115]⟩⟩ : ByteArray), (⟨⟨[45, 45, 32, 104, 105]⟩⟩ : ByteArray), (⟨⟨[45, 45]⟩⟩ : ByteArray), (⟨⟨[45, 62, 120]⟩⟩ : ByteArray), (⟨⟨[97, 45, 45, 98, 10, 99]⟩⟩ : ByteArray), (⟨⟨[38]⟩⟩ : ByteArray)]) r5 h_r5) [0] (by simp only [gE, ↓gT, ↓reduceIte, reduceCtorEq, reduceAdd, reduceEqDiff, reduceLeDiff, reduceLT, hwT, selS, erT, eq_true hc4]) (by decide) (ltL_iff (by simp only [hlT, reduceAdd, reduceLT, reduceLeDiff])) (liveL_iff (by simp only [hlT, reduceAdd, reduceLT, reduceLeDiff])) (by simp only [gE, ↓gT, ↓reduceIte, reduceCtorEq, reduceAdd, reduceEqDiff, reduceLeDiff, reduceLT, hwT, selS, erT, eq_true hc4]) (by simp only [gE, ↓gT, ↓reduceIte, reduceCtorEq, reduceAdd, reduceEqDiff, reduceLeDiff, reduceLT, hwT, selS, erT, scT, esT]) (by simp only [gE, ↓gT, ↓reduceIte, reduceCtorEq, reduceAdd, reduceEqDiff, reduceLeDiff, reduceLT, hwT, selS, erT, scT, esT]) (by simp only [hlT, reduceAdd, reduceLT, reduceLeDiff]) (by simp only [gE, ↓gT, ↓reduceIte, reduceCtorEq, reduceAdd, reduceEqDiff, reduceLeDiff, reduceLT, hwT, selS, erT, scT, esT]) (by simp only [gE, ↓gT, ↓reduceIte, reduceCtorEq, reduceAdd, reduceEqDiff, reduceLeDiff, reduceLT, hwT, selS, erT, scT, esT]) ?_
    simp only [gE, ↓gT, ↓reduceIte, reduceCtorEq, reduceAdd, reduceEqDiff, reduceLeDiff, reduceLT, hwT, selS, erT, hmT, reduceSub, eq_true hc4]
    obtain ⟨u7, h_u7, h⟩ := bs h
    have hg6 := gd_some h_u7
    try simp only [gE, ↓gT, ↓reduceIte, reduceCtorEq, reduceAdd, reduceEqDiff, reduceLeDiff, reduceLT, eq_true hc4, eq_true hg6]; (repeat intro (_ : _ ≤ lim))
    refine SemF.ret rfl ?_
    try simp only [gE, ↓gT, ↓reduceIte, reduceCtorEq, reduceAdd, reduceEqDiff, reduceLeDiff, reduceLT, eq_true hc4, eq_true hg6]; (repeat intro (_ : _ ≤ lim))
    obtain rfl := Option.some.inj h
    simp only [gE, ↓gT, ↓reduceIte, reduceCtorEq, reduceAdd, reduceEqDiff, reduceLeDiff, reduceLT, RetP_def, eq_true hc4, eq_true hg6]
  · rw [if_neg hc4] at h
    refine SemF.cond rfl ?_
    simp only [gE, ↓gT, ↓reduceIte, reduceCtorEq, reduceAdd, reduceEqDiff, reduceLeDiff, reduceLT, eq_false hc4]
    refine SemF.seq rfl ?_
    refine SemF.reg true rfl ?_
    try simp only [gE, ↓gT, ↓reduceIte, reduceCtorEq, reduceAdd, reduceEqDiff, reduceLeDiff, reduceLT, eq_false hc4]; (repeat intro (_ : _ ≤ lim))
    by_cases hc8 : r3.1 = 1
    · rw [if_pos hc8] at h
      refine SemF.cond rfl ?_
      simp only [gE, ↓gT, ↓reduceIte, reduceCtorEq, reduceAdd, reduceEqDiff, reduceLeDiff, reduceLT, eq_false hc4, eq_true hc8]
      refine SemF.seq rfl ?_
      refine SemF.reg true rfl ?_
      try simp only [gE, ↓gT, ↓reduceIte, reduceCtorEq, reduceAdd, reduceEqDiff, reduceLeDiff, reduceLT, eq_false hc4, eq_true hc8]; (repeat intro (_ : _ ≤ lim))
      (repeat intro (_ : _ ≤ lim))
      obtain ⟨r9, h_r9, h⟩ := bs h
      refine HC.frame (K.spec_l1Below_p (r3.2, (IntKind.i64.wrap (((r2.1.size : Nat) : Int) + 1))) r9 h_r9) [0] (by simp only [gE, ↓gT, ↓reduceIte, reduceCtorEq, reduceAdd, reduceEqDiff, reduceLeDiff, reduceLT, hwT, selS, erT, eq_false hc4, eq_true hc8]) (by decide) (ltL_iff (by simp only [hlT, reduceAdd, reduceLT, reduceLeDiff])) (liveL_iff (by simp only [hlT, reduceAdd, reduceLT, reduceLeDiff])) (by simp only [gE, ↓gT, ↓reduceIte, reduceCtorEq, reduceAdd, reduceEqDiff, reduceLeDiff, reduceLT, hwT, selS, erT, eq_false hc4, eq_true hc8]) (by simp only [gE, ↓gT, ↓reduceIte, reduceCtorEq, reduceAdd, reduceEqDiff, reduceLeDiff, reduceLT, hwT, selS, erT, scT, esT]) (by simp only [gE, ↓gT, ↓reduceIte, reduceCtorEq, reduceAdd, reduceEqDiff, reduceLeDiff, reduceLT, hwT, selS, erT, scT, esT]) (by simp only [hlT, reduceAdd, reduceLT, reduceLeDiff]) (by simp only [gE, ↓gT, ↓reduceIte, reduceCtorEq, reduceAdd, reduceEqDiff, reduceLeDiff, reduceLT, hwT, selS, erT, scT, esT]) (by simp only [gE, ↓gT, ↓reduceIte, reduceCtorEq, reduceAdd, reduceEqDiff, reduceLeDiff, reduceLT, hwT, selS, erT, scT, esT]) ?_
      simp only [gE, ↓gT, ↓reduceIte, reduceCtorEq, reduceAdd, reduceEqDiff, reduceLeDiff, reduceLT, hwT, selS, erT, hmT, reduceSub, eq_false hc4, eq_true hc8]
      refine SemF.seq rfl ?_
      refine SemF.dreg true rfl ?_
      try simp only [gE, ↓gT, ↓reduceIte, reduceCtorEq, reduceAdd, reduceEqDiff, reduceLeDiff, reduceLT, eq_false hc4, eq_true hc8]; (repeat intro (_ : _ ≤ lim))
      obtain ⟨u11, h_u11, h⟩ := bs h
      have hg10 := gd_some h_u11
      try simp only [gE, ↓gT, ↓reduceIte, reduceCtorEq, reduceAdd, reduceEqDiff, reduceLeDiff, reduceLT, eq_false hc4, eq_true hc8, eq_true hg10]; (repeat intro (_ : _ ≤ lim))
      obtain ⟨u13, h_u13, h⟩ := bs h
      have hg12 := gd_some h_u13
      try simp only [gE, ↓gT, ↓reduceIte, reduceCtorEq, reduceAdd, reduceEqDiff, reduceLeDiff, reduceLT, eq_false hc4, eq_true hc8, eq_true hg10, eq_true hg12]; (repeat intro (_ : _ ≤ lim))
      obtain ⟨u15, h_u15, h⟩ := bs h
      have hg14 := gd_some h_u15
      try simp only [gE, ↓gT, ↓reduceIte, reduceCtorEq, reduceAdd, reduceEqDiff, reduceLeDiff, reduceLT, eq_false hc4, eq_true hc8, eq_true hg10, eq_true hg12, eq_true hg14]; (repeat intro (_ : _ ≤ lim))
      obtain ⟨u17, h_u17, h⟩ := bs h
      have hg16 := gd_some h_u17
      try simp only [gE, ↓gT, ↓reduceIte, reduceCtorEq, reduceAdd, reduceEqDiff, reduceLeDiff, reduceLT, eq_false hc4, eq_true hc8, eq_true hg10, eq_true hg12, eq_true hg14, eq_true hg16]; (repeat intro (_ : _ ≤ lim))
      obtain ⟨u19, h_u19, h⟩ := bs h
      have hg18 := gd_some h_u19
      try simp only [gE, ↓gT, ↓reduceIte, reduceCtorEq, reduceAdd, reduceEqDiff, reduceLeDiff, reduceLT, eq_false hc4, eq_true hc8, eq_true hg10, eq_true hg12, eq_true hg14, eq_true hg16, eq_true hg18]; (repeat intro (_ : _ ≤ lim))
      obtain ⟨r20, h_r20, h⟩ := bs h
      refine HC.view ?_
      simp only [gE, ↓gT, ↓reduceIte, reduceCtorEq, reduceAdd, reduceEqDiff, reduceLeDiff, reduceLT, cnT, eq_false hc4, eq_true hc8, eq_true hg10, eq_true hg12, eq_true hg14, eq_true hg16, eq_true hg18]
      refine HC.frame (K.spec_l1Str_p (r9.2, [(⟨⟨[45, 45, 32, 120, 10]⟩⟩ : ByteArray), (⟨⟨[10]⟩⟩ : ByteArray), (⟨⟨[32]⟩⟩ : ByteArray), (⟨⟨[255]⟩⟩ : ByteArray), (⟨⟨[57]⟩⟩ : ByteArray)]) r20 h_r20) [0] (by simp only [gE, ↓gT, ↓reduceIte, reduceCtorEq, reduceAdd, reduceEqDiff, reduceLeDiff, reduceLT, hwT, selS, erT, eq_false hc4, eq_true hc8, eq_true hg10, eq_true hg12, eq_true hg14, eq_true hg16, eq_true hg18]) (by decide) (ltL_iff (by simp only [hlT, reduceAdd, reduceLT, reduceLeDiff])) (liveL_iff (by simp only [hlT, reduceAdd, reduceLT, reduceLeDiff])) (by simp only [gE, ↓gT, ↓reduceIte, reduceCtorEq, reduceAdd, reduceEqDiff, reduceLeDiff, reduceLT, hwT, selS, erT, eq_false hc4, eq_true hc8, eq_true hg10, eq_true hg12, eq_true hg14, eq_true hg16, eq_true hg18]) (by simp only [gE, ↓gT, ↓reduceIte, reduceCtorEq, reduceAdd, reduceEqDiff, reduceLeDiff, reduceLT, hwT, selS, erT, scT, esT]) (by simp only [gE, ↓gT, ↓reduceIte, reduceCtorEq, reduceAdd, reduceEqDiff, reduceLeDiff, reduceLT, hwT, selS, erT, scT, esT]) (by simp only [hlT, reduceAdd, reduceLT, reduceLeDiff]) (by simp only [gE, ↓gT, ↓reduceIte, reduceCtorEq, reduceAdd, reduceEqDiff, reduceLeDiff, reduceLT, hwT, selS, erT, scT, esT]) (by simp only [gE, ↓gT, ↓reduceIte, reduceCtorEq, reduceAdd, reduceEqDiff, reduceLeDiff, reduceLT, hwT, selS, erT, scT, esT]) ?_
      simp only [gE, ↓gT, ↓reduceIte, reduceCtorEq, reduceAdd, reduceEqDiff, reduceLeDiff, reduceLT, hwT, selS, erT, hmT, reduceSub, eq_false hc4, eq_true hc8, eq_true hg10, eq_true hg12, eq_true hg14, eq_true hg16, eq_true hg18]
      obtain ⟨u22, h_u22, h⟩ := bs h
      have hg21 := gd_some h_u22
      try simp only [gE, ↓gT, ↓reduceIte, reduceCtorEq, reduceAdd, reduceEqDiff, reduceLeDiff, reduceLT, eq_false hc4, eq_true hc8, eq_true hg10, eq_true hg12, eq_true hg14, eq_true hg16, eq_true hg18, eq_true hg21]; (repeat intro (_ : _ ≤ lim))
      obtain ⟨u24, h_u24, h⟩ := bs h
      have hg23 := gd_some h_u24
      try simp only [gE, ↓gT, ↓reduceIte, reduceCtorEq, reduceAdd, reduceEqDiff, reduceLeDiff, reduceLT, eq_false hc4, eq_true hc8, eq_true hg10, eq_true hg12, eq_true hg14, eq_true hg16, eq_true hg18, eq_true hg21, eq_true hg23]; (repeat intro (_ : _ ≤ lim))
      refine SemF.ret rfl ?_
      try simp only [gE, ↓gT, ↓reduceIte, reduceCtorEq, reduceAdd, reduceEqDiff, reduceLeDiff, reduceLT, eq_false hc4, eq_true hc8, eq_true hg10, eq_true hg12, eq_true hg14, eq_true hg16, eq_true hg18, eq_true hg21, eq_true hg23]; (repeat intro (_ : _ ≤ lim))
      obtain rfl := Option.some.inj h
      simp only [gE, ↓gT, ↓reduceIte, reduceCtorEq, reduceAdd, reduceEqDiff, reduceLeDiff, reduceLT, RetP_def, eq_false hc4, eq_true hc8, eq_true hg10, eq_true hg12, eq_true hg14, eq_true hg16, eq_true hg18, eq_true hg21, eq_true hg23]
    · rw [if_neg hc8] at h
      refine SemF.cond rfl ?_
      simp only [gE, ↓gT, ↓reduceIte, reduceCtorEq, reduceAdd, reduceEqDiff, reduceLeDiff, reduceLT, eq_false hc4, eq_false hc8]
      refine SemF.seq rfl ?_
      refine SemF.reg true rfl ?_
      try simp only [gE, ↓gT, ↓reduceIte, reduceCtorEq, reduceAdd, reduceEqDiff, reduceLeDiff, reduceLT, eq_false hc4, eq_false hc8]; (repeat intro (_ : _ ≤ lim))
      by_cases hc25 : r3.1 = 2
      · rw [if_pos hc25] at h
        refine SemF.cond rfl ?_
        simp only [gE, ↓gT, ↓reduceIte, reduceCtorEq, reduceAdd, reduceEqDiff, reduceLeDiff, reduceLT, eq_false hc4, eq_false hc8, eq_true hc25]
        refine SemF.seq rfl ?_
        refine SemF.reg true rfl ?_
        try simp only [gE, ↓gT, ↓reduceIte, reduceCtorEq, reduceAdd, reduceEqDiff, reduceLeDiff, reduceLT, eq_false hc4, eq_false hc8, eq_true hc25]; (repeat intro (_ : _ ≤ lim))
        obtain ⟨r26, h_r26, h⟩ := bs h
        refine HC.frame (K.spec_l1Prog_p r3.2 r26 h_r26) [0] (by simp only [gE, ↓gT, ↓reduceIte, reduceCtorEq, reduceAdd, reduceEqDiff, reduceLeDiff, reduceLT, hwT, selS, erT, eq_false hc4, eq_false hc8, eq_true hc25]) (by decide) (ltL_iff (by simp only [hlT, reduceAdd, reduceLT, reduceLeDiff])) (liveL_iff (by simp only [hlT, reduceAdd, reduceLT, reduceLeDiff])) (by simp only [gE, ↓gT, ↓reduceIte, reduceCtorEq, reduceAdd, reduceEqDiff, reduceLeDiff, reduceLT, hwT, selS, erT, eq_false hc4, eq_false hc8, eq_true hc25]) (by simp only [gE, ↓gT, ↓reduceIte, reduceCtorEq, reduceAdd, reduceEqDiff, reduceLeDiff, reduceLT, hwT, selS, erT, scT, esT]) (by simp only [gE, ↓gT, ↓reduceIte, reduceCtorEq, reduceAdd, reduceEqDiff, reduceLeDiff, reduceLT, hwT, selS, erT, scT, esT]) (by simp only [hlT, reduceAdd, reduceLT, reduceLeDiff]) (by simp only [gE, ↓gT, ↓reduceIte, reduceCtorEq, reduceAdd, reduceEqDiff, reduceLeDiff, reduceLT, hwT, selS, erT, scT, esT]) (by simp only [gE, ↓gT, ↓reduceIte, reduceCtorEq, reduceAdd, reduceEqDiff, reduceLeDiff, reduceLT, hwT, selS, erT, scT, esT]) ?_
        simp only [gE, ↓gT, ↓reduceIte, reduceCtorEq, reduceAdd, reduceEqDiff, reduceLeDiff, reduceLT, hwT, selS, erT, hmT, reduceSub, eq_false hc4, eq_false hc8, eq_true hc25]
        refine SemF.ret rfl ?_
        try simp only [gE, ↓gT, ↓reduceIte, reduceCtorEq, reduceAdd, reduceEqDiff, reduceLeDiff, reduceLT, eq_false hc4, eq_false hc8, eq_true hc25]; (repeat intro (_ : _ ≤ lim))
        obtain rfl := Option.some.inj h
        simp only [gE, ↓gT, ↓reduceIte, reduceCtorEq, reduceAdd, reduceEqDiff, reduceLeDiff, reduceLT, RetP_def, eq_false hc4, eq_false hc8, eq_true hc25]
      · rw [if_neg hc25] at h
        refine SemF.cond rfl ?_
        simp only [gE, ↓gT, ↓reduceIte, reduceCtorEq, reduceAdd, reduceEqDiff, reduceLeDiff, reduceLT, eq_false hc4, eq_false hc8, eq_false hc25]
        refine SemF.skip rfl ?_
        simp only [gE, ↓gT, ↓reduceIte, reduceCtorEq, reduceAdd, reduceEqDiff, reduceLeDiff, reduceLT, eq_false hc4, eq_false hc8, eq_false hc25]
        refine SemF.seq rfl ?_
        refine SemF.seq rfl ?_
        refine SemF.reg true rfl ?_
        try simp only [gE, ↓gT, ↓reduceIte, reduceCtorEq, reduceAdd, reduceEqDiff, reduceLeDiff, reduceLT, eq_false hc4, eq_false hc8, eq_false hc25]; (repeat intro (_ : _ ≤ lim))
        obtain ⟨r27, h_r27, h⟩ := bs h
        refine HC.frame (K.spec_l1Once_p (r3.2, 60) r27 h_r27) [0] (by simp only [gE, ↓gT, ↓reduceIte, reduceCtorEq, reduceAdd, reduceEqDiff, reduceLeDiff, reduceLT, hwT, selS, erT, eq_false hc4, eq_false hc8, eq_false hc25]) (by decide) (ltL_iff (by simp only [hlT, reduceAdd, reduceLT, reduceLeDiff])) (liveL_iff (by simp only [hlT, reduceAdd, reduceLT, reduceLeDiff])) (by simp only [gE, ↓gT, ↓reduceIte, reduceCtorEq, reduceAdd, reduceEqDiff, reduceLeDiff, reduceLT, hwT, selS, erT, eq_false hc4, eq_false hc8, eq_false hc25]) (by simp only [gE, ↓gT, ↓reduceIte, reduceCtorEq, reduceAdd, reduceEqDiff, reduceLeDiff, reduceLT, hwT, selS, erT, scT, esT]) (by simp only [gE, ↓gT, ↓reduceIte, reduceCtorEq, reduceAdd, reduceEqDiff, reduceLeDiff, reduceLT, hwT, selS, erT, scT, esT]) (by simp only [hlT, reduceAdd, reduceLT, reduceLeDiff]) (by simp only [gE, ↓gT, ↓reduceIte, reduceCtorEq, reduceAdd, reduceEqDiff, reduceLeDiff, reduceLT, hwT, selS, erT, scT, esT]) (by simp only [gE, ↓gT, ↓reduceIte, reduceCtorEq, reduceAdd, reduceEqDiff, reduceLeDiff, reduceLT, hwT, selS, erT, scT, esT]) ?_
        simp only [gE, ↓gT, ↓reduceIte, reduceCtorEq, reduceAdd, reduceEqDiff, reduceLeDiff, reduceLT, hwT, selS, erT, hmT, reduceSub, eq_false hc4, eq_false hc8, eq_false hc25]
        by_cases hc28 : r27.1 = true
        · rw [if_pos hc28] at h
          refine SemF.cond rfl ?_
          simp only [gE, ↓gT, ↓reduceIte, reduceCtorEq, reduceAdd, reduceEqDiff, reduceLeDiff, reduceLT, eq_false hc4, eq_false hc8, eq_false hc25, hc28]
          refine SemF.seq rfl ?_
          refine SemF.reg true rfl ?_
          try simp only [gE, ↓gT, ↓reduceIte, reduceCtorEq, reduceAdd, reduceEqDiff, reduceLeDiff, reduceLT, eq_false hc4, eq_false hc8, eq_false hc25, hc28]; (repeat intro (_ : _ ≤ lim))
          obtain ⟨r29, h_r29, h⟩ := bs h
          refine HC.frame (K.spec_l1Below_p (r27.2, 2) r29 h_r29) [0] (by simp only [gE, ↓gT, ↓reduceIte, reduceCtorEq, reduceAdd, reduceEqDiff, reduceLeDiff, reduceLT, hwT, selS, erT, eq_false hc4, eq_false hc8, eq_false hc25, hc28]) (by decide) (ltL_iff (by simp only [hlT, reduceAdd, reduceLT, reduceLeDiff])) (liveL_iff (by simp only [hlT, reduceAdd, reduceLT, reduceLeDiff])) (by simp only [gE, ↓gT, ↓reduceIte, reduceCtorEq, reduceAdd, reduceEqDiff, reduceLeDiff, reduceLT, hwT, selS, erT, eq_false hc4, eq_false hc8, eq_false hc25, hc28]) (by simp only [gE, ↓gT, ↓reduceIte, reduceCtorEq, reduceAdd, reduceEqDiff, reduceLeDiff, reduceLT, hwT, selS, erT, scT, esT]) (by simp only [gE, ↓gT, ↓reduceIte, reduceCtorEq, reduceAdd, reduceEqDiff, reduceLeDiff, reduceLT, hwT, selS, erT, scT, esT]) (by simp only [hlT, reduceAdd, reduceLT, reduceLeDiff]) (by simp only [gE, ↓gT, ↓reduceIte, reduceCtorEq, reduceAdd, reduceEqDiff, reduceLeDiff, reduceLT, hwT, selS, erT, scT, esT]) (by simp only [gE, ↓gT, ↓reduceIte, reduceCtorEq, reduceAdd, reduceEqDiff, reduceLeDiff, reduceLT, hwT, selS, erT, scT, esT]) ?_
          simp only [gE, ↓gT, ↓reduceIte, reduceCtorEq, reduceAdd, reduceEqDiff, reduceLeDiff, reduceLT, hwT, selS, erT, hmT, reduceSub, eq_false hc4, eq_false hc8, eq_false hc25, hc28]
          obtain ⟨u31, h_u31, h⟩ := bs h
          have hg30 := gd_some h_u31
          try simp only [gE, ↓gT, ↓reduceIte, reduceCtorEq, reduceAdd, reduceEqDiff, reduceLeDiff, reduceLT, eq_false hc4, eq_false hc8, eq_false hc25, hc28, eq_true hg30]; (repeat intro (_ : _ ≤ lim))
          obtain ⟨u33, h_u33, h⟩ := bs h
          have hg32 := gd_some h_u33
          try simp only [gE, ↓gT, ↓reduceIte, reduceCtorEq, reduceAdd, reduceEqDiff, reduceLeDiff, reduceLT, eq_false hc4, eq_false hc8, eq_false hc25, hc28, eq_true hg30, eq_true hg32]; (repeat intro (_ : _ ≤ lim))
          refine SemF.ret rfl ?_
          try simp only [gE, ↓gT, ↓reduceIte, reduceCtorEq, reduceAdd, reduceEqDiff, reduceLeDiff, reduceLT, eq_false hc4, eq_false hc8, eq_false hc25, hc28, eq_true hg30, eq_true hg32]; (repeat intro (_ : _ ≤ lim))
          obtain rfl := Option.some.inj h
          simp only [gE, ↓gT, ↓reduceIte, reduceCtorEq, reduceAdd, reduceEqDiff, reduceLeDiff, reduceLT, RetP_def, eq_false hc4, eq_false hc8, eq_false hc25, hc28, eq_true hg30, eq_true hg32]
        · rw [if_neg hc28] at h
          replace hc28 := eq_false_of_ne_true hc28
          refine SemF.cond rfl ?_
          simp only [gE, ↓gT, ↓reduceIte, reduceCtorEq, reduceAdd, reduceEqDiff, reduceLeDiff, reduceLT, eq_false hc4, eq_false hc8, eq_false hc25, hc28]
          refine SemF.skip rfl ?_
          simp only [gE, ↓gT, ↓reduceIte, reduceCtorEq, reduceAdd, reduceEqDiff, reduceLeDiff, reduceLT, eq_false hc4, eq_false hc8, eq_false hc25, hc28]
          refine SemF.seq rfl ?_
          refine SemF.reg true rfl ?_
          try simp only [gE, ↓gT, ↓reduceIte, reduceCtorEq, reduceAdd, reduceEqDiff, reduceLeDiff, reduceLT, eq_false hc4, eq_false hc8, eq_false hc25, hc28]; (repeat intro (_ : _ ≤ lim))
          refine SemF.ret rfl ?_
          try simp only [gE, ↓gT, ↓reduceIte, reduceCtorEq, reduceAdd, reduceEqDiff, reduceLeDiff, reduceLT, eq_false hc4, eq_false hc8, eq_false hc25, hc28]; (repeat intro (_ : _ ≤ lim))
          obtain rfl := Option.some.inj h
          simp only [gE, ↓gT, ↓reduceIte, reduceCtorEq, reduceAdd, reduceEqDiff, reduceLeDiff, reduceLT, RetP_def, eq_false hc4, eq_false hc8, eq_false hc25, hc28]
theorem spec_l1Skip_L1 : ∀ (x : (ByteArray × Int)) (out : Int), M.spec_l1Skip_L1 x = some out → ∀ Q : HExit → Env → St → Prop, (∀ env st sel, Weak 0 sel [(0, (.str x.1)), (1, (.int .i64 out))] [] env st → Q (.exit 2) env st) → SemL P H.spec_l1Skip.ntmps 0 H.spec_l1Skip_l11 [(0, (.str x.1)), (1, (.int .i64 x.2))] [] Q := by
  refine M.spec_l1Skip_L1.partial_correctness (motive := fun x out => ∀ Q : HExit → Env → St → Prop, (∀ env st sel, Weak 0 sel [(0, (.str x.1)), (1, (.int .i64 out))] [] env st → Q (.exit 2) env st) → SemL P H.spec_l1Skip.ntmps 0 H.spec_l1Skip_l11 [(0, (.str x.1)), (1, (.int .i64 x.2))] [] Q) ?_
  intro f_spec_l1Skip_L1 ih_spec_l1Skip_L1 x out h
  obtain ⟨p0, t1_L1⟩ := x
  try dsimp only at h
  intro Q hx
  refine SemL.round ?_
  try dsimp only at hx
  refine SemF.seq rfl ?_
  refine SemF.seq rfl ?_
  refine SemF.reg true rfl ?_
  try simp only [gE, ↓gT, ↓reduceIte, reduceCtorEq, reduceAdd, reduceEqDiff, reduceLeDiff, reduceLT]; (repeat intro (_ : _ ≤ lim))
  (repeat intro (_ : _ ≤ lim))
  by_cases hc31 : t1_L1 < ((p0.size : Nat) : Int)
  · rw [if_pos hc31] at h
    try simp only [gE, ↓gT, ↓reduceIte, reduceCtorEq, reduceAdd, reduceEqDiff, reduceLeDiff, reduceLT, eq_true hc31]; (repeat intro (_ : _ ≤ lim))
    obtain ⟨c32, h_c32, h⟩ := bs h
    obtain ⟨c_c32, m_c32, v_c32⟩ := bx_get h_c32
    try simp only [gE, ↓gT, ↓reduceIte, reduceCtorEq, reduceAdd, reduceEqDiff, reduceLeDiff, reduceLT, eq_true hc31, eq_true (bx_nn h_c32), m_c32, v_c32]; (repeat intro (_ : _ ≤ lim))
    by_cases hc33 : c32 = 10
    · rw [if_pos hc33] at h
      refine SemF.cond rfl ?_
      simp only [gE, ↓gT, ↓reduceIte, reduceCtorEq, reduceAdd, reduceEqDiff, reduceLeDiff, reduceLT, eq_true hc31, eq_true (bx_nn h_c32), m_c32, v_c32, eq_true hc33]
      refine SemF.exit rfl ?_
      simp only [gE, ↓gT, ↓reduceIte, reduceCtorEq, reduceAdd, reduceEqDiff, reduceLeDiff, reduceLT, eq_true hc31, eq_true (bx_nn h_c32), m_c32, v_c32, eq_true hc33]
      obtain rfl := Option.some.inj h
      refine hx _ _ [] ⟨by simp only [gE, ↓gT, ↓reduceIte, reduceCtorEq, reduceAdd, reduceEqDiff, reduceLeDiff, reduceLT, hwT, selS, erT, eq_true hc31, eq_true (bx_nn h_c32), m_c32, v_c32, eq_true hc33], by decide, by decide, by simp only [gE, ↓gT, ↓reduceIte, reduceCtorEq, reduceAdd, reduceEqDiff, reduceLeDiff, reduceLT, hwT, selS, erT, subR, eq_true hc31, eq_true (bx_nn h_c32), m_c32, v_c32, eq_true hc33], by simp only [gE, ↓gT, ↓reduceIte, reduceCtorEq, reduceAdd, reduceEqDiff, reduceLeDiff, reduceLT, hwT, selS, erT, scT, esT, eq_true hc31, eq_true (bx_nn h_c32), m_c32, v_c32, eq_true hc33], by simp only [gE, ↓gT, ↓reduceIte, reduceCtorEq, reduceAdd, reduceEqDiff, reduceLeDiff, reduceLT, hwT, selS, erT, scT, esT, eq_true hc31, eq_true (bx_nn h_c32), m_c32, v_c32, eq_true hc33]⟩
    · rw [if_neg hc33] at h
      refine SemF.cond rfl ?_
      simp only [gE, ↓gT, ↓reduceIte, reduceCtorEq, reduceAdd, reduceEqDiff, reduceLeDiff, reduceLT, eq_true hc31, eq_true (bx_nn h_c32), m_c32, v_c32, eq_false hc33]
      refine SemF.skip rfl ?_
      simp only [gE, ↓gT, ↓reduceIte, reduceCtorEq, reduceAdd, reduceEqDiff, reduceLeDiff, reduceLT, eq_true hc31, eq_true (bx_nn h_c32), m_c32, v_c32, eq_false hc33]
      refine SemF.block rfl ?_
      refine SemF.reg true rfl ?_
      try simp only [gE, ↓gT, ↓reduceIte, reduceCtorEq, reduceAdd, reduceEqDiff, reduceLeDiff, reduceLT, eq_true hc31, eq_true (bx_nn h_c32), m_c32, v_c32, eq_false hc33]; (repeat intro (_ : _ ≤ lim))
      refine SemL.weak (sel := []) ⟨by simp only [gE, ↓gT, ↓reduceIte, reduceCtorEq, reduceAdd, reduceEqDiff, reduceLeDiff, reduceLT, hwT, selS, erT, eq_true hc31, eq_true (bx_nn h_c32), m_c32, v_c32, eq_false hc33], by decide, by decide, by simp only [gE, ↓gT, ↓reduceIte, reduceCtorEq, reduceAdd, reduceEqDiff, reduceLeDiff, reduceLT, hwT, selS, erT, subR, eq_true hc31, eq_true (bx_nn h_c32), m_c32, v_c32, eq_false hc33], by simp only [gE, ↓gT, ↓reduceIte, reduceCtorEq, reduceAdd, reduceEqDiff, reduceLeDiff, reduceLT, hwT, selS, erT, scT, esT, eq_true hc31, eq_true (bx_nn h_c32), m_c32, v_c32, eq_false hc33], by simp only [gE, ↓gT, ↓reduceIte, reduceCtorEq, reduceAdd, reduceEqDiff, reduceLeDiff, reduceLT, hwT, selS, erT, scT, esT, eq_true hc31, eq_true (bx_nn h_c32), m_c32, v_c32, eq_false hc33]⟩ (ih_spec_l1Skip_L1 (p0, (IntKind.i64.wrap (t1_L1 + 1))) out h Q hx)
  · rw [if_neg hc31] at h
    try simp only [gE, ↓gT, ↓reduceIte, reduceCtorEq, reduceAdd, reduceEqDiff, reduceLeDiff, reduceLT, eq_false hc31]; (repeat intro (_ : _ ≤ lim))
    refine SemF.cond rfl ?_
    simp only [gE, ↓gT, ↓reduceIte, reduceCtorEq, reduceAdd, reduceEqDiff, reduceLeDiff, reduceLT, eq_false hc31]
    refine SemF.exit rfl ?_
    simp only [gE, ↓gT, ↓reduceIte, reduceCtorEq, reduceAdd, reduceEqDiff, reduceLeDiff, reduceLT, eq_false hc31]
    obtain rfl := Option.some.inj h
    refine hx _ _ [] ⟨by simp only [gE, ↓gT, ↓reduceIte, reduceCtorEq, reduceAdd, reduceEqDiff, reduceLeDiff, reduceLT, hwT, selS, erT, eq_false hc31], by decide, by decide, by simp only [gE, ↓gT, ↓reduceIte, reduceCtorEq, reduceAdd, reduceEqDiff, reduceLeDiff, reduceLT, hwT, selS, erT, subR, eq_false hc31], by simp only [gE, ↓gT, ↓reduceIte, reduceCtorEq, reduceAdd, reduceEqDiff, reduceLeDiff, reduceLT, hwT, selS, erT, scT, esT, eq_false hc31], by simp only [gE, ↓gT, ↓reduceIte, reduceCtorEq, reduceAdd, reduceEqDiff, reduceLeDiff, reduceLT, hwT, selS, erT, scT, esT, eq_false hc31]⟩
end K
end W
