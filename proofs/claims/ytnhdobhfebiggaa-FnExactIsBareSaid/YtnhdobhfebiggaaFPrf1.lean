import Derived.Test.YtnhdobhfebiggaaFPrf0
namespace W
set_option linter.unusedSimpArgs false
set_option linter.unusedVariables false
open Go HL S
open Nat (reduceAdd reduceEqDiff reduceLeDiff reduceSub reduceMul reduceLT)
set_option linter.unusedVariables false
set_option maxRecDepth 100000
set_option maxHeartbeats 4000000
namespace K
theorem impl_mapped_at_counted_1_IsBare_1_L1_step (f_impl_counted_1_at_IsBare_1 : (Exp × Int) → Option (Exp × Int)) (f_impl_mapped_at_counted_1_IsBare_1_L1 : (Exp × (Int × (List Exp)) × ((List Dec) × Int) × Int × Int × (List Alt)) → Option (Int × (List Alt))) (ih_impl_counted_1_at_IsBare_1 : ∀ (x : (Exp × Int)) (r : (Exp × Int)), f_impl_counted_1_at_IsBare_1 x = some r → HC P F.impl_counted_1 [(Exp.enc x.1), (.ptr 0 1 0 0), (.ptr 1 1 0 0)] [(.box (.int .i64 x.2)), (.box (.fn F.impl_IsBare_1 [] []))] (fun r_ s_ => r_ = (Exp.enc r.1) ∧ s_ = [(.box (HV.int .i64 r.2)), (.box (.fn F.impl_IsBare_1 [] []))])) (ih_impl_mapped_at_counted_1_IsBare_1_L1 : ∀ (x : (Exp × (Int × (List Exp)) × ((List Dec) × Int) × Int × Int × (List Alt))) (out : (Int × (List Alt))), f_impl_mapped_at_counted_1_IsBare_1_L1 x = some out → ∀ Q : HExit → Env → St → Prop, (∀ env st sel, Weak 2 sel [(4, (.ptr 2 1 0 0)), (5, (.ptr 3 1 0 0))] [(.box (.int .i64 out.1)), (.box (.fn F.impl_IsBare_1 [] [])), (.box (.agg [(.int .i64 0), (.str (⟨⟨[]⟩⟩ : ByteArray)), (.int .i64 0), .nils, .nils, .nils])), (.box (.agg [(.int .i64 x.1.K), (.str x.1.S), (.int .i64 x.1.N), (rep 4 x.2.1.2), (.sl (List.map Dec.enc x.2.2.1.1)), (rep 5 out.2)])), (slot 6 Exp.enc x.2.1.2), (slot 8 Alt.enc out.2)] env st → Q (.exit 2) env st) → SemL P H.impl_mapped.ntmps 2 H.impl_mapped_l7 [(1, (.fn F.impl_counted_1 [] [(.ptr 0 1 0 0), (.ptr 1 1 0 0)])), (4, (.ptr 2 1 0 0)), (5, (.ptr 3 1 0 0)), (39, (.sl (List.map Alt.enc x.1.Alts))), (40, (.int .i64 ((x.1.Alts.length : Nat) : Int))), (41, (.int .i64 x.2.2.2.1))] [(.box (.int .i64 x.2.2.2.2.1)), (.box (.fn F.impl_IsBare_1 [] [])), (.box (.agg [(.int .i64 0), (.str (⟨⟨[]⟩⟩ : ByteArray)), (.int .i64 0), .nils, .nils, .nils])), (.box (.agg [(.int .i64 x.1.K), (.str x.1.S), (.int .i64 x.1.N), (rep 4 x.2.1.2), (.sl (List.map Dec.enc x.2.2.1.1)), (rep 5 x.2.2.2.2.2)])), (slot 6 Exp.enc x.2.1.2), (slot 8 Alt.enc x.2.2.2.2.2)] Q) (x : (Exp × (Int × (List Exp)) × ((List Dec) × Int) × Int × Int × (List Alt))) (out : (Int × (List Alt))) (h : (if x.2.2.2.1 < ((x.1.Alts.length : Nat) : Int) then (ix x.1.Alts x.2.2.2.1 >>= fun e30 =>
    (M.slices_Clone_string e30.Vars >>= fun r31 =>
    (f_impl_counted_1_at_IsBare_1 (e30.E, x.2.2.2.2.1) >>= fun r32 =>
    (gd (x.2.2.2.2.2.length + 1 ≤ grow) >>= fun u34 =>
    f_impl_mapped_at_counted_1_IsBare_1_L1 (x.1, x.2.1, x.2.2.1, (IntKind.i64.wrap (x.2.2.2.1 + 1)), r32.2, (x.2.2.2.2.2 ++ [(Alt.mk e30.Great r31 r32.1)])))))) else
    some (x.2.2.2.2.1, x.2.2.2.2.2)) = some out) : ∀ Q : HExit → Env → St → Prop, (∀ env st sel, Weak 2 sel [(4, (.ptr 2 1 0 0)), (5, (.ptr 3 1 0 0))] [(.box (.int .i64 out.1)), (.box (.fn F.impl_IsBare_1 [] [])), (.box (.agg [(.int .i64 0), (.str (⟨⟨[]⟩⟩ : ByteArray)), (.int .i64 0), .nils, .nils, .nils])), (.box (.agg [(.int .i64 x.1.K), (.str x.1.S), (.int .i64 x.1.N), (rep 4 x.2.1.2), (.sl (List.map Dec.enc x.2.2.1.1)), (rep 5 out.2)])), (slot 6 Exp.enc x.2.1.2), (slot 8 Alt.enc out.2)] env st → Q (.exit 2) env st) → SemL P H.impl_mapped.ntmps 2 H.impl_mapped_l7 [(1, (.fn F.impl_counted_1 [] [(.ptr 0 1 0 0), (.ptr 1 1 0 0)])), (4, (.ptr 2 1 0 0)), (5, (.ptr 3 1 0 0)), (39, (.sl (List.map Alt.enc x.1.Alts))), (40, (.int .i64 ((x.1.Alts.length : Nat) : Int))), (41, (.int .i64 x.2.2.2.1))] [(.box (.int .i64 x.2.2.2.2.1)), (.box (.fn F.impl_IsBare_1 [] [])), (.box (.agg [(.int .i64 0), (.str (⟨⟨[]⟩⟩ : ByteArray)), (.int .i64 0), .nils, .nils, .nils])), (.box (.agg [(.int .i64 x.1.K), (.str x.1.S), (.int .i64 x.1.N), (rep 4 x.2.1.2), (.sl (List.map Dec.enc x.2.2.1.1)), (rep 5 x.2.2.2.2.2)])), (slot 6 Exp.enc x.2.1.2), (slot 8 Alt.enc x.2.2.2.2.2)] Q := by
  obtain ⟨p0, s16, r17, t41_L1, o0_0_L1, o3_5_L1⟩ := x
  try dsimp only at h
  intro Q hx
  refine SemL.round ?_
  try dsimp only at hx
  refine SemF.seq rfl ?_
  refine SemF.reg true rfl ?_
  try simp only [gE, ↓gT, ↓reduceIte, reduceCtorEq, reduceAdd, reduceEqDiff, reduceLeDiff, reduceLT]; (repeat intro (_ : _ ≤ lim))
  refine SemF.seq rfl ?_
  by_cases hc29 : t41_L1 < ((p0.Alts.length : Nat) : Int)
  · rw [if_pos hc29] at h
    refine SemF.cond rfl ?_
    simp only [gE, ↓gT, ↓reduceIte, reduceCtorEq, reduceAdd, reduceEqDiff, reduceLeDiff, reduceLT, eq_true hc29]
    refine SemF.skip rfl ?_
    simp only [gE, ↓gT, ↓reduceIte, reduceCtorEq, reduceAdd, reduceEqDiff, reduceLeDiff, reduceLT, eq_true hc29]
    refine SemF.seq rfl ?_
    refine SemF.block rfl ?_
    refine SemF.seq rfl ?_
    refine SemF.reg true rfl ?_
    try simp only [gE, ↓gT, ↓reduceIte, reduceCtorEq, reduceAdd, reduceEqDiff, reduceLeDiff, reduceLT, eq_true hc29]; (repeat intro (_ : _ ≤ lim))
    obtain ⟨e30, h_e30, h⟩ := bs h
    have m_e30 := ixm (f := Alt.enc) (ix_get h_e30)
    try simp only [gE, ↓gT, ↓reduceIte, reduceCtorEq, reduceAdd, reduceEqDiff, reduceLeDiff, reduceLT, eq_true hc29, eq_true (ix_nn h_e30), m_e30]; (repeat intro (_ : _ ≤ lim))
    refine SemF.dreg true rfl ?_
    try simp only [gE, ↓gT, ↓reduceIte, reduceCtorEq, reduceAdd, reduceEqDiff, reduceLeDiff, reduceLT, eq_true hc29, eq_true (ix_nn h_e30), m_e30]; (repeat intro (_ : _ ≤ lim))
    obtain ⟨r31, h_r31, h⟩ := bs h
    refine HCp.callE (K.slices_Clone_string e30.Vars r31 h_r31) (by simp only [gE, ↓gT, ↓reduceIte, reduceCtorEq, reduceAdd, reduceEqDiff, reduceLeDiff, reduceLT, eq_true hc29, eq_true (ix_nn h_e30), m_e30]) (by simp only [scT, esT, and_self, true_and, and_true]) (by simp only [scT, esT, and_self, true_and, and_true]) ?_
    try simp only [gE, ↓gT, ↓reduceIte, reduceCtorEq, reduceAdd, reduceEqDiff, reduceLeDiff, reduceLT, eq_true hc29, eq_true (ix_nn h_e30), m_e30]; (repeat intro (_ : _ ≤ lim))
    obtain ⟨r32, h_r32, h⟩ := bs h
    refine HC.frame (ih_impl_counted_1_at_IsBare_1 (e30.E, o0_0_L1) r32 h_r32) [0, 1] (by simp only [gE, ↓gT, ↓reduceIte, reduceCtorEq, reduceAdd, reduceEqDiff, reduceLeDiff, reduceLT, hwT, selS, erT, eq_true hc29, eq_true (ix_nn h_e30), m_e30]) (by decide) (ltL_iff (by simp only [hlT, reduceAdd, reduceLT, reduceLeDiff])) (liveL_iff (by simp only [hlT, reduceAdd, reduceLT, reduceLeDiff])) (by simp only [gE, ↓gT, ↓reduceIte, reduceCtorEq, reduceAdd, reduceEqDiff, reduceLeDiff, reduceLT, hwT, selS, erT, eq_true hc29, eq_true (ix_nn h_e30), m_e30]) (by simp only [gE, ↓gT, ↓reduceIte, reduceCtorEq, reduceAdd, reduceEqDiff, reduceLeDiff, reduceLT, hwT, selS, erT, scT, esT]) (by simp only [gE, ↓gT, ↓reduceIte, reduceCtorEq, reduceAdd, reduceEqDiff, reduceLeDiff, reduceLT, hwT, selS, erT, scT, esT]) (by simp only [hlT, reduceAdd, reduceLT, reduceLeDiff]) (by simp only [gE, ↓gT, ↓reduceIte, reduceCtorEq, reduceAdd, reduceEqDiff, reduceLeDiff, reduceLT, hwT, selS, erT, scT, esT]) (by simp only [gE, ↓gT, ↓reduceIte, reduceCtorEq, reduceAdd, reduceEqDiff, reduceLeDiff, reduceLT, hwT, selS, erT, scT, esT]) ?_
    simp only [gE, ↓gT, ↓reduceIte, reduceCtorEq, reduceAdd, reduceEqDiff, reduceLeDiff, reduceLT, hwT, selS, erT, hmT, eq_true hc29, eq_true (ix_nn h_e30), m_e30]
    obtain ⟨u34, h_u34, h⟩ := bs h
    have hg33 := gd_some h_u34
    try simp only [gE, ↓gT, ↓reduceIte, reduceCtorEq, reduceAdd, reduceEqDiff, reduceLeDiff, reduceLT, eq_true hc29, eq_true (ix_nn h_e30), m_e30, eq_true hg33]; (repeat intro (_ : _ ≤ lim))
    by_cases hs35 : o3_5_L1 = []
    · simp only [gE, ↓gT, ↓reduceIte, reduceCtorEq, reduceAdd, reduceEqDiff, reduceLeDiff, reduceLT, eq_true hc29, eq_true (ix_nn h_e30), m_e30, eq_true hg33, hs35, rep_nil hs35, slot_nil hs35]
      refine SemF.reg true rfl ?_
      try simp only [gE, ↓gT, ↓reduceIte, reduceCtorEq, reduceAdd, reduceEqDiff, reduceLeDiff, reduceLT, eq_true hc29, eq_true (ix_nn h_e30), m_e30, eq_true hg33, hs35, rep_nil hs35, slot_nil hs35]; (repeat intro (_ : _ ≤ lim))
      refine SemL.weak (sel := [0, 1, 2, 3, 4, 8]) ⟨by simp only [gE, ↓gT, ↓reduceIte, reduceCtorEq, reduceAdd, reduceEqDiff, reduceLeDiff, reduceLT, hwT, selS, erT, eq_true hc29, eq_true (ix_nn h_e30), m_e30, eq_true hg33, hs35, rep_nil hs35, slot_nil hs35], by decide, by decide, by simp only [gE, ↓gT, ↓reduceIte, reduceCtorEq, reduceAdd, reduceEqDiff, reduceLeDiff, reduceLT, hwT, selS, erT, subR, eq_true hc29, eq_true (ix_nn h_e30), m_e30, eq_true hg33, hs35, rep_nil hs35, slot_nil hs35], by simp only [gE, ↓gT, ↓reduceIte, reduceCtorEq, reduceAdd, reduceEqDiff, reduceLeDiff, reduceLT, hwT, selS, erT, scT, esT, eq_true hc29, eq_true (ix_nn h_e30), m_e30, eq_true hg33, hs35, rep_nil hs35, slot_nil hs35], by simp only [gE, ↓gT, ↓reduceIte, reduceCtorEq, reduceAdd, reduceEqDiff, reduceLeDiff, reduceLT, hwT, selS, erT, scT, esT, eq_true hc29, eq_true (ix_nn h_e30), m_e30, eq_true hg33, hs35, rep_nil hs35, slot_nil hs35]⟩ (ih_impl_mapped_at_counted_1_IsBare_1_L1 (p0, s16, r17, (IntKind.i64.wrap (t41_L1 + 1)), r32.2, (o3_5_L1 ++ [(Alt.mk e30.Great r31 r32.1)])) out h Q hx)
    · simp only [gE, ↓gT, ↓reduceIte, reduceCtorEq, reduceAdd, reduceEqDiff, reduceLeDiff, reduceLT, eq_true hc29, eq_true (ix_nn h_e30), m_e30, eq_true hg33, eq_false hs35, rep_cons hs35, slot_cons hs35]
      refine SemF.reg true rfl ?_
      try simp only [gE, ↓gT, ↓reduceIte, reduceCtorEq, reduceAdd, reduceEqDiff, reduceLeDiff, reduceLT, eq_true hc29, eq_true (ix_nn h_e30), m_e30, eq_true hg33, eq_false hs35, rep_cons hs35, slot_cons hs35]; (repeat intro (_ : _ ≤ lim))
      refine SemL.weak (sel := [0, 1, 2, 3, 4, 5]) ⟨by simp only [gE, ↓gT, ↓reduceIte, reduceCtorEq, reduceAdd, reduceEqDiff, reduceLeDiff, reduceLT, hwT, selS, erT, eq_true hc29, eq_true (ix_nn h_e30), m_e30, eq_true hg33, eq_false hs35, rep_cons hs35, slot_cons hs35], by decide, by decide, by simp only [gE, ↓gT, ↓reduceIte, reduceCtorEq, reduceAdd, reduceEqDiff, reduceLeDiff, reduceLT, hwT, selS, erT, subR, eq_true hc29, eq_true (ix_nn h_e30), m_e30, eq_true hg33, eq_false hs35, rep_cons hs35, slot_cons hs35], by simp only [gE, ↓gT, ↓reduceIte, reduceCtorEq, reduceAdd, reduceEqDiff, reduceLeDiff, reduceLT, hwT, selS, erT, scT, esT, eq_true hc29, eq_true (ix_nn h_e30), m_e30, eq_true hg33, eq_false hs35, rep_cons hs35, slot_cons hs35], by simp only [gE, ↓gT, ↓reduceIte, reduceCtorEq, reduceAdd, reduceEqDiff, reduceLeDiff, reduceLT, hwT, selS, erT, scT, esT, eq_true hc29, eq_true (ix_nn h_e30), m_e30, eq_true hg33, eq_false hs35, rep_cons hs35, slot_cons hs35]⟩ (ih_impl_mapped_at_counted_1_IsBare_1_L1 (p0, s16, r17, (IntKind.i64.wrap (t41_L1 + 1)), r32.2, (o3_5_L1 ++ [(Alt.mk e30.Great r31 r32.1)])) out h Q hx)
  · rw [if_neg hc29] at h
    refine SemF.cond rfl ?_
    simp only [gE, ↓gT, ↓reduceIte, reduceCtorEq, reduceAdd, reduceEqDiff, reduceLeDiff, reduceLT, eq_false hc29]
    refine SemF.exit rfl ?_
    simp only [gE, ↓gT, ↓reduceIte, reduceCtorEq, reduceAdd, reduceEqDiff, reduceLeDiff, reduceLT, eq_false hc29]
    obtain rfl := Option.some.inj h
    refine hx _ _ [0, 1, 2, 3, 4, 5] ⟨by simp only [gE, ↓gT, ↓reduceIte, reduceCtorEq, reduceAdd, reduceEqDiff, reduceLeDiff, reduceLT, hwT, selS, erT, eq_false hc29], by decide, by decide, by simp only [gE, ↓gT, ↓reduceIte, reduceCtorEq, reduceAdd, reduceEqDiff, reduceLeDiff, reduceLT, hwT, selS, erT, subR, eq_false hc29], by simp only [gE, ↓gT, ↓reduceIte, reduceCtorEq, reduceAdd, reduceEqDiff, reduceLeDiff, reduceLT, hwT, selS, erT, scT, esT, eq_false hc29], by simp only [gE, ↓gT, ↓reduceIte, reduceCtorEq, reduceAdd, reduceEqDiff, reduceLeDiff, reduceLT, hwT, selS, erT, scT, esT, eq_false hc29]⟩
theorem impl_mappedDecs_at_counted_1_IsBare_1_step (f_impl_mappedDecs_at_counted_1_IsBare_1_L0 : ((List Dec) × (List Dec) × Int × Int) → Option ((List Dec) × Int)) (ih_impl_mappedDecs_at_counted_1_IsBare_1_L0 : ∀ (x : ((List Dec) × (List Dec) × Int × Int)) (out : ((List Dec) × Int)), f_impl_mappedDecs_at_counted_1_IsBare_1_L0 x = some out → ∀ Q : HExit → Env → St → Prop, (∀ env st sel, Weak 2 sel [(5, (rep 2 out.1))] [(.box (.int .i64 out.2)), (.box (.fn F.impl_IsBare_1 [] [])), (slot 9 Dec.enc out.1)] env st → Q (.exit 0) env st) → SemL P H.impl_mappedDecs.ntmps 2 H.impl_mappedDecs_l5 [(1, (.fn F.impl_counted_1 [] [(.ptr 0 1 0 0), (.ptr 1 1 0 0)])), (5, (rep 2 x.2.1)), (8, (.sl (List.map Dec.enc x.1))), (9, (.int .i64 ((x.1.length : Nat) : Int))), (10, (.int .i64 x.2.2.1))] [(.box (.int .i64 x.2.2.2)), (.box (.fn F.impl_IsBare_1 [] [])), (slot 9 Dec.enc x.2.1)] Q) (x : ((List Dec) × Int)) (r : ((List Dec) × Int)) (h : (f_impl_mappedDecs_at_counted_1_IsBare_1_L0 (x.1, [], 0, x.2) >>= fun s25 =>
    some (s25.1, s25.2)) = some r) : HC P F.impl_mappedDecs [(.sl (List.map Dec.enc x.1)), (.fn F.impl_counted_1 [] [(.ptr 0 1 0 0), (.ptr 1 1 0 0)])] [(.box (.int .i64 x.2)), (.box (.fn F.impl_IsBare_1 [] []))] (fun r_ s_ => r_ = (HV.sl (List.map Dec.enc r.1)) ∧ s_ = [(.box (HV.int .i64 r.2)), (.box (.fn F.impl_IsBare_1 [] []))]) := by
  obtain ⟨p0, p1⟩ := x
  try dsimp only at h
  refine HC.mkB S.impl_mappedDecs (by simp [H.impl_mappedDecs]) ?_
  simp only [gE, ↓gT, ↓reduceIte, reduceCtorEq, reduceAdd, reduceEqDiff, reduceLeDiff, reduceLT, H.impl_mappedDecs]
  refine SemF.seq rfl ?_
  refine SemF.reg true rfl ?_
  try simp only [gE, ↓gT, ↓reduceIte, reduceCtorEq, reduceAdd, reduceEqDiff, reduceLeDiff, reduceLT]; (repeat intro (_ : _ ≤ lim))
  refine SemF.seq rfl ?_
  refine SemF.reg true rfl ?_
  try simp only [gE, ↓gT, ↓reduceIte, reduceCtorEq, reduceAdd, reduceEqDiff, reduceLeDiff, reduceLT]; (repeat intro (_ : _ ≤ lim))
  refine SemF.seq rfl ?_
  refine SemF.seq rfl ?_
  refine SemF.reg true rfl ?_
  try simp only [gE, ↓gT, ↓reduceIte, reduceCtorEq, reduceAdd, reduceEqDiff, reduceLeDiff, reduceLT]; (repeat intro (_ : _ ≤ lim))
  (repeat intro (_ : _ ≤ lim))
  refine SemF.block rfl ?_
  obtain ⟨s25, h_s25, h⟩ := bs h
  refine SemF.loop rfl ?_
  refine SemL.weak (sel := [0, 1, 1000]) ⟨by simp only [gE, ↓gT, ↓reduceIte, reduceCtorEq, reduceAdd, reduceEqDiff, reduceLeDiff, reduceLT, hwT, selS, erT], by decide, by decide, by simp only [gE, ↓gT, ↓reduceIte, reduceCtorEq, reduceAdd, reduceEqDiff, reduceLeDiff, reduceLT, hwT, selS, erT, subR], by simp only [gE, ↓gT, ↓reduceIte, reduceCtorEq, reduceAdd, reduceEqDiff, reduceLeDiff, reduceLT, hwT, selS, erT, scT, esT], by simp only [gE, ↓gT, ↓reduceIte, reduceCtorEq, reduceAdd, reduceEqDiff, reduceLeDiff, reduceLT, hwT, selS, erT, scT, esT]⟩ (ih_impl_mappedDecs_at_counted_1_IsBare_1_L0 (p0, [], 0, p1) s25 h_s25 _ ?_)
  intro env st sel hw
  simp only [gE, ↓gT, ↓reduceIte, reduceCtorEq, reduceAdd, reduceEqDiff, reduceLeDiff, reduceLT]
  first | refine SemF.weak hw ?_ | refine SemL.weak hw ?_
  refine SemF.seq rfl ?_
  refine SemF.reg true rfl ?_
  try simp only [gE, ↓gT, ↓reduceIte, reduceCtorEq, reduceAdd, reduceEqDiff, reduceLeDiff, reduceLT]; (repeat intro (_ : _ ≤ lim))
  refine SemF.ret rfl ?_
  try simp only [gE, ↓gT, ↓reduceIte, reduceCtorEq, reduceAdd, reduceEqDiff, reduceLeDiff, reduceLT]; (repeat intro (_ : _ ≤ lim))
  by_cases hs26 : s25.1 = []
  · simp only [gE, ↓gT, ↓reduceIte, reduceCtorEq, reduceAdd, reduceEqDiff, reduceLeDiff, reduceLT, hs26, rep_nil hs26, slot_nil hs26]
    obtain rfl := Option.some.inj h
    simp only [gE, ↓gT, ↓reduceIte, reduceCtorEq, reduceAdd, reduceEqDiff, reduceLeDiff, reduceLT, RetB_def, hs26, rep_nil hs26, slot_nil hs26]
    exact ⟨[0, 1], by simp only [gE, ↓gT, ↓reduceIte, reduceCtorEq, reduceAdd, reduceEqDiff, reduceLeDiff, reduceLT, hwT, selS, erT, hs26, rep_nil hs26, slot_nil hs26], by simp only [gE, ↓gT, ↓reduceIte, reduceCtorEq, reduceAdd, reduceEqDiff, reduceLeDiff, reduceLT, hwT, selS, erT, hs26, rep_nil hs26, slot_nil hs26], by decide, by decide, by simp only [gE, ↓gT, ↓reduceIte, reduceCtorEq, reduceAdd, reduceEqDiff, reduceLeDiff, reduceLT, hwT, selS, erT, scT, esT], by simp only [gE, ↓gT, ↓reduceIte, reduceCtorEq, reduceAdd, reduceEqDiff, reduceLeDiff, reduceLT, hwT, selS, erT, scT, esT]⟩
  · simp only [gE, ↓gT, ↓reduceIte, reduceCtorEq, reduceAdd, reduceEqDiff, reduceLeDiff, reduceLT, eq_false hs26, rep_cons hs26, slot_cons hs26]
    obtain rfl := Option.some.inj h
    simp only [gE, ↓gT, ↓reduceIte, reduceCtorEq, reduceAdd, reduceEqDiff, reduceLeDiff, reduceLT, RetB_def, eq_false hs26, rep_cons hs26, slot_cons hs26]
    exact ⟨[0, 1], by simp only [gE, ↓gT, ↓reduceIte, reduceCtorEq, reduceAdd, reduceEqDiff, reduceLeDiff, reduceLT, hwT, selS, erT, eq_false hs26, rep_cons hs26, slot_cons hs26], by simp only [gE, ↓gT, ↓reduceIte, reduceCtorEq, reduceAdd, reduceEqDiff, reduceLeDiff, reduceLT, hwT, selS, erT, eq_false hs26, rep_cons hs26, slot_cons hs26], by decide, by decide, by simp only [gE, ↓gT, ↓reduceIte, reduceCtorEq, reduceAdd, reduceEqDiff, reduceLeDiff, reduceLT, hwT, selS, erT, scT, esT], by simp only [gE, ↓gT, ↓reduceIte, reduceCtorEq, reduceAdd, reduceEqDiff, reduceLeDiff, reduceLT, hwT, selS, erT, scT, esT]⟩
theorem impl_mappedDecs_at_counted_1_IsBare_1_L0_step (f_impl_counted_1_at_IsBare_1 : (Exp × Int) → Option (Exp × Int)) (f_impl_mappedDecs_at_counted_1_IsBare_1 : ((List Dec) × Int) → Option ((List Dec) × Int)) (f_impl_mappedDecs_at_counted_1_IsBare_1_L0 : ((List Dec) × (List Dec) × Int × Int) → Option ((List Dec) × Int)) (ih_impl_counted_1_at_IsBare_1 : ∀ (x : (Exp × Int)) (r : (Exp × Int)), f_impl_counted_1_at_IsBare_1 x = some r → HC P F.impl_counted_1 [(Exp.enc x.1), (.ptr 0 1 0 0), (.ptr 1 1 0 0)] [(.box (.int .i64 x.2)), (.box (.fn F.impl_IsBare_1 [] []))] (fun r_ s_ => r_ = (Exp.enc r.1) ∧ s_ = [(.box (HV.int .i64 r.2)), (.box (.fn F.impl_IsBare_1 [] []))])) (ih_impl_mappedDecs_at_counted_1_IsBare_1 : ∀ (x : ((List Dec) × Int)) (r : ((List Dec) × Int)), f_impl_mappedDecs_at_counted_1_IsBare_1 x = some r → HC P F.impl_mappedDecs [(.sl (List.map Dec.enc x.1)), (.fn F.impl_counted_1 [] [(.ptr 0 1 0 0), (.ptr 1 1 0 0)])] [(.box (.int .i64 x.2)), (.box (.fn F.impl_IsBare_1 [] []))] (fun r_ s_ => r_ = (HV.sl (List.map Dec.enc r.1)) ∧ s_ = [(.box (HV.int .i64 r.2)), (.box (.fn F.impl_IsBare_1 [] []))])) (ih_impl_mappedDecs_at_counted_1_IsBare_1_L0 : ∀ (x : ((List Dec) × (List Dec) × Int × Int)) (out : ((List Dec) × Int)), f_impl_mappedDecs_at_counted_1_IsBare_1_L0 x = some out → ∀ Q : HExit → Env → St → Prop, (∀ env st sel, Weak 2 sel [(5, (rep 2 out.1))] [(.box (.int .i64 out.2)), (.box (.fn F.impl_IsBare_1 [] [])), (slot 9 Dec.enc out.1)] env st → Q (.exit 0) env st) → SemL P H.impl_mappedDecs.ntmps 2 H.impl_mappedDecs_l5 [(1, (.fn F.impl_counted_1 [] [(.ptr 0 1 0 0), (.ptr 1 1 0 0)])), (5, (rep 2 x.2.1)), (8, (.sl (List.map Dec.enc x.1))), (9, (.int .i64 ((x.1.length : Nat) : Int))), (10, (.int .i64 x.2.2.1))] [(.box (.int .i64 x.2.2.2)), (.box (.fn F.impl_IsBare_1 [] [])), (slot 9 Dec.enc x.2.1)] Q) (x : ((List Dec) × (List Dec) × Int × Int)) (out : ((List Dec) × Int)) (h : (if x.2.2.1 < ((x.1.length : Nat) : Int) then (ix x.1 x.2.2.1 >>= fun e18 =>
    (M.slices_Clone_string e18.Pars >>= fun r19 =>
    (f_impl_counted_1_at_IsBare_1 (e18.E, x.2.2.2) >>= fun r20 =>
    (f_impl_mappedDecs_at_counted_1_IsBare_1 (e18.Where, r20.2) >>= fun r21 =>
    (gd (x.2.1.length + 1 ≤ grow) >>= fun u23 =>
    f_impl_mappedDecs_at_counted_1_IsBare_1_L0 (x.1, (x.2.1 ++ [(Dec.mk e18.Name r19 r20.1 r21.1)]), (IntKind.i64.wrap (x.2.2.1 + 1)), r21.2)))))) else
    some (x.2.1, x.2.2.2)) = some out) : ∀ Q : HExit → Env → St → Prop, (∀ env st sel, Weak 2 sel [(5, (rep 2 out.1))] [(.box (.int .i64 out.2)), (.box (.fn F.impl_IsBare_1 [] [])), (slot 9 Dec.enc out.1)] env st → Q (.exit 0) env st) → SemL P H.impl_mappedDecs.ntmps 2 H.impl_mappedDecs_l5 [(1, (.fn F.impl_counted_1 [] [(.ptr 0 1 0 0), (.ptr 1 1 0 0)])), (5, (rep 2 x.2.1)), (8, (.sl (List.map Dec.enc x.1))), (9, (.int .i64 ((x.1.length : Nat) : Int))), (10, (.int .i64 x.2.2.1))] [(.box (.int .i64 x.2.2.2)), (.box (.fn F.impl_IsBare_1 [] [])), (slot 9 Dec.enc x.2.1)] Q := by
  obtain ⟨p0, t5_L0, t10_L0, o0_0_L0⟩ := x
  try dsimp only at h
  intro Q hx
  refine SemL.round ?_
  try dsimp only at hx
  refine SemF.seq rfl ?_
  refine SemF.reg true rfl ?_
  try simp only [gE, ↓gT, ↓reduceIte, reduceCtorEq, reduceAdd, reduceEqDiff, reduceLeDiff, reduceLT]; (repeat intro (_ : _ ≤ lim))
  refine SemF.seq rfl ?_
  by_cases hc17 : t10_L0 < ((p0.length : Nat) : Int)
  · rw [if_pos hc17] at h
    refine SemF.cond rfl ?_
    simp only [gE, ↓gT, ↓reduceIte, reduceCtorEq, reduceAdd, reduceEqDiff, reduceLeDiff, reduceLT, eq_true hc17]
    refine SemF.skip rfl ?_
    simp only [gE, ↓gT, ↓reduceIte, reduceCtorEq, reduceAdd, reduceEqDiff, reduceLeDiff, reduceLT, eq_true hc17]
    refine SemF.seq rfl ?_
    refine SemF.block rfl ?_
    refine SemF.seq rfl ?_
    refine SemF.reg true rfl ?_
    try simp only [gE, ↓gT, ↓reduceIte, reduceCtorEq, reduceAdd, reduceEqDiff, reduceLeDiff, reduceLT, eq_true hc17]; (repeat intro (_ : _ ≤ lim))
    obtain ⟨e18, h_e18, h⟩ := bs h
    have m_e18 := ixm (f := Dec.enc) (ix_get h_e18)
    try simp only [gE, ↓gT, ↓reduceIte, reduceCtorEq, reduceAdd, reduceEqDiff, reduceLeDiff, reduceLT, eq_true hc17, eq_true (ix_nn h_e18), m_e18]; (repeat intro (_ : _ ≤ lim))
    refine SemF.dreg true rfl ?_
    try simp only [gE, ↓gT, ↓reduceIte, reduceCtorEq, reduceAdd, reduceEqDiff, reduceLeDiff, reduceLT, eq_true hc17, eq_true (ix_nn h_e18), m_e18]; (repeat intro (_ : _ ≤ lim))
    obtain ⟨r19, h_r19, h⟩ := bs h
    refine HCp.callE (K.slices_Clone_string e18.Pars r19 h_r19) (by simp only [gE, ↓gT, ↓reduceIte, reduceCtorEq, reduceAdd, reduceEqDiff, reduceLeDiff, reduceLT, eq_true hc17, eq_true (ix_nn h_e18), m_e18]) (by simp only [scT, esT, and_self, true_and, and_true]) (by simp only [scT, esT, and_self, true_and, and_true]) ?_
    try simp only [gE, ↓gT, ↓reduceIte, reduceCtorEq, reduceAdd, reduceEqDiff, reduceLeDiff, reduceLT, eq_true hc17, eq_true (ix_nn h_e18), m_e18]; (repeat intro (_ : _ ≤ lim))
    obtain ⟨r20, h_r20, h⟩ := bs h
    refine HC.frame (ih_impl_counted_1_at_IsBare_1 (e18.E, o0_0_L0) r20 h_r20) [0, 1] (by simp only [gE, ↓gT, ↓reduceIte, reduceCtorEq, reduceAdd, reduceEqDiff, reduceLeDiff, reduceLT, hwT, selS, erT, eq_true hc17, eq_true (ix_nn h_e18), m_e18]) (by decide) (ltL_iff (by simp only [hlT, reduceAdd, reduceLT, reduceLeDiff])) (liveL_iff (by simp only [hlT, reduceAdd, reduceLT, reduceLeDiff])) (by simp only [gE, ↓gT, ↓reduceIte, reduceCtorEq, reduceAdd, reduceEqDiff, reduceLeDiff, reduceLT, hwT, selS, erT, eq_true hc17, eq_true (ix_nn h_e18), m_e18]) (by simp only [gE, ↓gT, ↓reduceIte, reduceCtorEq, reduceAdd, reduceEqDiff, reduceLeDiff, reduceLT, hwT, selS, erT, scT, esT]) (by simp only [gE, ↓gT, ↓reduceIte, reduceCtorEq, reduceAdd, reduceEqDiff, reduceLeDiff, reduceLT, hwT, selS, erT, scT, esT]) (by simp only [hlT, reduceAdd, reduceLT, reduceLeDiff]) (by simp only [gE, ↓gT, ↓reduceIte, reduceCtorEq, reduceAdd, reduceEqDiff, reduceLeDiff, reduceLT, hwT, selS, erT, scT, esT]) (by simp only [gE, ↓gT, ↓reduceIte, reduceCtorEq, reduceAdd, reduceEqDiff, reduceLeDiff, reduceLT, hwT, selS, erT, scT, esT]) ?_
    simp only [gE, ↓gT, ↓reduceIte, reduceCtorEq, reduceAdd, reduceEqDiff, reduceLeDiff, reduceLT, hwT, selS, erT, hmT, eq_true hc17, eq_true (ix_nn h_e18), m_e18]
    obtain ⟨r21, h_r21, h⟩ := bs h
    refine HC.frame (ih_impl_mappedDecs_at_counted_1_IsBare_1 (e18.Where, r20.2) r21 h_r21) [0, 1] (by simp only [gE, ↓gT, ↓reduceIte, reduceCtorEq, reduceAdd, reduceEqDiff, reduceLeDiff, reduceLT, hwT, selS, erT, eq_true hc17, eq_true (ix_nn h_e18), m_e18]) (by decide) (ltL_iff (by simp only [hlT, reduceAdd, reduceLT, reduceLeDiff])) (liveL_iff (by simp only [hlT, reduceAdd, reduceLT, reduceLeDiff])) (by simp only [gE, ↓gT, ↓reduceIte, reduceCtorEq, reduceAdd, reduceEqDiff, reduceLeDiff, reduceLT, hwT, selS, erT, eq_true hc17, eq_true (ix_nn h_e18), m_e18]) (by simp only [gE, ↓gT, ↓reduceIte, reduceCtorEq, reduceAdd, reduceEqDiff, reduceLeDiff, reduceLT, hwT, selS, erT, scT, esT]) (by simp only [gE, ↓gT, ↓reduceIte, reduceCtorEq, reduceAdd, reduceEqDiff, reduceLeDiff, reduceLT, hwT, selS, erT, scT, esT]) (by simp only [hlT, reduceAdd, reduceLT, reduceLeDiff]) (by simp only [gE, ↓gT, ↓reduceIte, reduceCtorEq, reduceAdd, reduceEqDiff, reduceLeDiff, reduceLT, hwT, selS, erT, scT, esT]) (by simp only [gE, ↓gT, ↓reduceIte, reduceCtorEq, reduceAdd, reduceEqDiff, reduceLeDiff, reduceLT, hwT, selS, erT, scT, esT]) ?_
    simp only [gE, ↓gT, ↓reduceIte, reduceCtorEq, reduceAdd, reduceEqDiff, reduceLeDiff, reduceLT, hwT, selS, erT, hmT, eq_true hc17, eq_true (ix_nn h_e18), m_e18]
    obtain ⟨u23, h_u23, h⟩ := bs h
    have hg22 := gd_some h_u23
    try simp only [gE, ↓gT, ↓reduceIte, reduceCtorEq, reduceAdd, reduceEqDiff, reduceLeDiff, reduceLT, eq_true hc17, eq_true (ix_nn h_e18), m_e18, eq_true hg22]; (repeat intro (_ : _ ≤ lim))
    by_cases hs24 : t5_L0 = []
    · simp only [gE, ↓gT, ↓reduceIte, reduceCtorEq, reduceAdd, reduceEqDiff, reduceLeDiff, reduceLT, eq_true hc17, eq_true (ix_nn h_e18), m_e18, eq_true hg22, hs24, rep_nil hs24, slot_nil hs24]
      refine SemF.reg true rfl ?_
      try simp only [gE, ↓gT, ↓reduceIte, reduceCtorEq, reduceAdd, reduceEqDiff, reduceLeDiff, reduceLT, eq_true hc17, eq_true (ix_nn h_e18), m_e18, eq_true hg22, hs24, rep_nil hs24, slot_nil hs24]; (repeat intro (_ : _ ≤ lim))
      refine SemL.weak (sel := [0, 1, 5]) ⟨by simp only [gE, ↓gT, ↓reduceIte, reduceCtorEq, reduceAdd, reduceEqDiff, reduceLeDiff, reduceLT, hwT, selS, erT, eq_true hc17, eq_true (ix_nn h_e18), m_e18, eq_true hg22, hs24, rep_nil hs24, slot_nil hs24], by decide, by decide, by simp only [gE, ↓gT, ↓reduceIte, reduceCtorEq, reduceAdd, reduceEqDiff, reduceLeDiff, reduceLT, hwT, selS, erT, subR, eq_true hc17, eq_true (ix_nn h_e18), m_e18, eq_true hg22, hs24, rep_nil hs24, slot_nil hs24], by simp only [gE, ↓gT, ↓reduceIte, reduceCtorEq, reduceAdd, reduceEqDiff, reduceLeDiff, reduceLT, hwT, selS, erT, scT, esT, eq_true hc17, eq_true (ix_nn h_e18), m_e18, eq_true hg22, hs24, rep_nil hs24, slot_nil hs24], by simp only [gE, ↓gT, ↓reduceIte, reduceCtorEq, reduceAdd, reduceEqDiff, reduceLeDiff, reduceLT, hwT, selS, erT, scT, esT, eq_true hc17, eq_true (ix_nn h_e18), m_e18, eq_true hg22, hs24, rep_nil hs24, slot_nil hs24]⟩ (ih_impl_mappedDecs_at_counted_1_IsBare_1_L0 (p0, (t5_L0 ++ [(Dec.mk e18.Name r19 r20.1 r21.1)]), (IntKind.i64.wrap (t10_L0 + 1)), r21.2) out h Q hx)
    · simp only [gE, ↓gT, ↓reduceIte, reduceCtorEq, reduceAdd, reduceEqDiff, reduceLeDiff, reduceLT, eq_true hc17, eq_true (ix_nn h_e18), m_e18, eq_true hg22, eq_false hs24, rep_cons hs24, slot_cons hs24]
      refine SemF.reg true rfl ?_
      try simp only [gE, ↓gT, ↓reduceIte, reduceCtorEq, reduceAdd, reduceEqDiff, reduceLeDiff, reduceLT, eq_true hc17, eq_true (ix_nn h_e18), m_e18, eq_true hg22, eq_false hs24, rep_cons hs24, slot_cons hs24]; (repeat intro (_ : _ ≤ lim))
      refine SemL.weak (sel := [0, 1, 2]) ⟨by simp only [gE, ↓gT, ↓reduceIte, reduceCtorEq, reduceAdd, reduceEqDiff, reduceLeDiff, reduceLT, hwT, selS, erT, eq_true hc17, eq_true (ix_nn h_e18), m_e18, eq_true hg22, eq_false hs24, rep_cons hs24, slot_cons hs24], by decide, by decide, by simp only [gE, ↓gT, ↓reduceIte, reduceCtorEq, reduceAdd, reduceEqDiff, reduceLeDiff, reduceLT, hwT, selS, erT, subR, eq_true hc17, eq_true (ix_nn h_e18), m_e18, eq_true hg22, eq_false hs24, rep_cons hs24, slot_cons hs24], by simp only [gE, ↓gT, ↓reduceIte, reduceCtorEq, reduceAdd, reduceEqDiff, reduceLeDiff, reduceLT, hwT, selS, erT, scT, esT, eq_true hc17, eq_true (ix_nn h_e18), m_e18, eq_true hg22, eq_false hs24, rep_cons hs24, slot_cons hs24], by simp only [gE, ↓gT, ↓reduceIte, reduceCtorEq, reduceAdd, reduceEqDiff, reduceLeDiff, reduceLT, hwT, selS, erT, scT, esT, eq_true hc17, eq_true (ix_nn h_e18), m_e18, eq_true hg22, eq_false hs24, rep_cons hs24, slot_cons hs24]⟩ (ih_impl_mappedDecs_at_counted_1_IsBare_1_L0 (p0, (t5_L0 ++ [(Dec.mk e18.Name r19 r20.1 r21.1)]), (IntKind.i64.wrap (t10_L0 + 1)), r21.2) out h Q hx)
  · rw [if_neg hc17] at h
    refine SemF.cond rfl ?_
    simp only [gE, ↓gT, ↓reduceIte, reduceCtorEq, reduceAdd, reduceEqDiff, reduceLeDiff, reduceLT, eq_false hc17]
    refine SemF.exit rfl ?_
    simp only [gE, ↓gT, ↓reduceIte, reduceCtorEq, reduceAdd, reduceEqDiff, reduceLeDiff, reduceLT, eq_false hc17]
    obtain rfl := Option.some.inj h
    refine hx _ _ [0, 1, 2] ⟨by simp only [gE, ↓gT, ↓reduceIte, reduceCtorEq, reduceAdd, reduceEqDiff, reduceLeDiff, reduceLT, hwT, selS, erT, eq_false hc17], by decide, by decide, by simp only [gE, ↓gT, ↓reduceIte, reduceCtorEq, reduceAdd, reduceEqDiff, reduceLeDiff, reduceLT, hwT, selS, erT, subR, eq_false hc17], by simp only [gE, ↓gT, ↓reduceIte, reduceCtorEq, reduceAdd, reduceEqDiff, reduceLeDiff, reduceLT, hwT, selS, erT, scT, esT, eq_false hc17], by simp only [gE, ↓gT, ↓reduceIte, reduceCtorEq, reduceAdd, reduceEqDiff, reduceLeDiff, reduceLT, hwT, selS, erT, scT, esT, eq_false hc17]⟩
end K
end W
