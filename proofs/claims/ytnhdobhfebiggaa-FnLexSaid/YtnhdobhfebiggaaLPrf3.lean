import Derived.Test.YtnhdobhfebiggaaLPrf2
namespace W
set_option linter.unusedSimpArgs false
set_option linter.unusedVariables false
open Go HL S
open Nat (reduceAdd reduceEqDiff reduceLeDiff reduceSub reduceMul reduceLT)
set_option linter.unusedVariables false
set_option maxRecDepth 100000
set_option maxHeartbeats 4000000
namespace K
theorem impl_Lex_L0 : ∀ (x : (ByteArray × (List Tok) × Int × Int × Int)) (out : (Sum ((List Tok) × Bool) ((List Tok) × Int × Int × Int))), M.impl_Lex_L0 x = some out → ∀ Q : HExit → Env → St → Prop, (∀ v, out = .inr v → ∀ env st sel, Weak 0 sel [(4, (.own 0 v.1.length)), (5, (.int .i64 v.2.1)), (6, (.int .i64 v.2.2.1)), (7, (.int .i64 v.2.2.2))] [(.arr 4 (List.map Tok.enc v.1) true)] env st → Q (.exit 0) env st) → (∀ r, out = .inl r → ∀ env st, RetM 0 [some 4, none] [(2, none), (3, none)] (HV.tup [(HV.own 0 r.1.length), (HV.bool r.2)]) [(.arr 4 (List.map Tok.enc r.1) true)] env st → Q .ret env st) → SemL P H.impl_Lex.ntmps 0 H.impl_Lex_l10 [(0, (.str x.1)), (4, (.own 0 x.2.1.length)), (5, (.int .i64 x.2.2.1)), (6, (.int .i64 x.2.2.2.1)), (7, (.int .i64 x.2.2.2.2))] [(.arr 4 (List.map Tok.enc x.2.1) true)] Q := by
  refine M.impl_Lex_L0.partial_correctness (motive := fun x out => ∀ Q : HExit → Env → St → Prop, (∀ v, out = .inr v → ∀ env st sel, Weak 0 sel [(4, (.own 0 v.1.length)), (5, (.int .i64 v.2.1)), (6, (.int .i64 v.2.2.1)), (7, (.int .i64 v.2.2.2))] [(.arr 4 (List.map Tok.enc v.1) true)] env st → Q (.exit 0) env st) → (∀ r, out = .inl r → ∀ env st, RetM 0 [some 4, none] [(2, none), (3, none)] (HV.tup [(HV.own 0 r.1.length), (HV.bool r.2)]) [(.arr 4 (List.map Tok.enc r.1) true)] env st → Q .ret env st) → SemL P H.impl_Lex.ntmps 0 H.impl_Lex_l10 [(0, (.str x.1)), (4, (.own 0 x.2.1.length)), (5, (.int .i64 x.2.2.1)), (6, (.int .i64 x.2.2.2.1)), (7, (.int .i64 x.2.2.2.2))] [(.arr 4 (List.map Tok.enc x.2.1) true)] Q) ?_
  intro f_impl_Lex_L0 ih_impl_Lex_L0 x out h
  obtain ⟨p0, t4_L0, t5_L0, t6_L0, t7_L0⟩ := x
  try dsimp only at h
  intro Q hx hr
  refine SemL.round ?_
  try dsimp only at hx
  refine SemF.seq rfl ?_
  refine SemF.seq rfl ?_
  refine SemF.reg true rfl ?_
  try simp only [gE, ↓gT, ↓reduceIte, reduceCtorEq, reduceAdd, reduceEqDiff, reduceLeDiff, reduceLT]; (repeat intro (_ : _ ≤ lim))
  (repeat intro (_ : _ ≤ lim))
  by_cases hc17 : t7_L0 < ((p0.size : Nat) : Int)
  · rw [if_pos hc17] at h
    refine SemF.cond rfl ?_
    simp only [gE, ↓gT, ↓reduceIte, reduceCtorEq, reduceAdd, reduceEqDiff, reduceLeDiff, reduceLT, eq_true hc17]
    refine SemF.skip rfl ?_
    simp only [gE, ↓gT, ↓reduceIte, reduceCtorEq, reduceAdd, reduceEqDiff, reduceLeDiff, reduceLT, eq_true hc17]
    refine SemF.block rfl ?_
    refine SemF.seq rfl ?_
    refine SemF.seq rfl ?_
    refine SemF.reg true rfl ?_
    try simp only [gE, ↓gT, ↓reduceIte, reduceCtorEq, reduceAdd, reduceEqDiff, reduceLeDiff, reduceLT, eq_true hc17]; (repeat intro (_ : _ ≤ lim))
    obtain ⟨u19, h_u19, h⟩ := bs h
    have hg18 := gd_some h_u19
    try simp only [gE, ↓gT, ↓reduceIte, reduceCtorEq, reduceAdd, reduceEqDiff, reduceLeDiff, reduceLT, eq_true hc17, eq_true hg18]; (repeat intro (_ : _ ≤ lim))
    obtain ⟨u21, h_u21, h⟩ := bs h
    have hg20 := gd_some h_u21
    try simp only [gE, ↓gT, ↓reduceIte, reduceCtorEq, reduceAdd, reduceEqDiff, reduceLeDiff, reduceLT, eq_true hc17, eq_true hg18, eq_true hg20]; (repeat intro (_ : _ ≤ lim))
    obtain ⟨u23, h_u23, h⟩ := bs h
    have hg22 := gd_some h_u23
    try simp only [gE, ↓gT, ↓reduceIte, reduceCtorEq, reduceAdd, reduceEqDiff, reduceLeDiff, reduceLT, eq_true hc17, eq_true hg18, eq_true hg20, eq_true hg22]; (repeat intro (_ : _ ≤ lim))
    obtain ⟨r24, h_r24, h⟩ := bs h
    refine HCp.callE (K.impl_passed (p0.extract t7_L0.toNat p0.size) r24 h_r24) (by simp only [gE, ↓gT, ↓reduceIte, reduceCtorEq, reduceAdd, reduceEqDiff, reduceLeDiff, reduceLT, eq_true hc17, eq_true hg18, eq_true hg20, eq_true hg22]) (by simp only [scT, esT, and_self, true_and, and_true]) (by simp only [scT, esT, and_self, true_and, and_true]) ?_
    try simp only [gE, ↓gT, ↓reduceIte, reduceCtorEq, reduceAdd, reduceEqDiff, reduceLeDiff, reduceLT, eq_true hc17, eq_true hg18, eq_true hg20, eq_true hg22]; (repeat intro (_ : _ ≤ lim))
    refine SemF.seq rfl ?_
    refine SemF.reg true rfl ?_
    try simp only [gE, ↓gT, ↓reduceIte, reduceCtorEq, reduceAdd, reduceEqDiff, reduceLeDiff, reduceLT, eq_true hc17, eq_true hg18, eq_true hg20, eq_true hg22]; (repeat intro (_ : _ ≤ lim))
    by_cases hc25 : 0 < r24
    · rw [if_pos hc25] at h
      refine SemF.cond rfl ?_
      simp only [gE, ↓gT, ↓reduceIte, reduceCtorEq, reduceAdd, reduceEqDiff, reduceLeDiff, reduceLT, eq_true hc17, eq_true hg18, eq_true hg20, eq_true hg22, eq_true hc25]
      refine SemF.seq rfl ?_
      refine SemF.seq rfl ?_
      refine SemF.reg true rfl ?_
      try simp only [gE, ↓gT, ↓reduceIte, reduceCtorEq, reduceAdd, reduceEqDiff, reduceLeDiff, reduceLT, eq_true hc17, eq_true hg18, eq_true hg20, eq_true hg22, eq_true hc25]; (repeat intro (_ : _ ≤ lim))
      obtain ⟨c26, h_c26, h⟩ := bs h
      obtain ⟨c_c26, m_c26, v_c26⟩ := bx_get h_c26
      try simp only [gE, ↓gT, ↓reduceIte, reduceCtorEq, reduceAdd, reduceEqDiff, reduceLeDiff, reduceLT, eq_true hc17, eq_true hg18, eq_true hg20, eq_true hg22, eq_true hc25, eq_true (bx_nn h_c26), m_c26, v_c26]; (repeat intro (_ : _ ≤ lim))
      by_cases hc27 : c26 = 10
      · rw [if_pos hc27] at h
        refine SemF.cond rfl ?_
        simp only [gE, ↓gT, ↓reduceIte, reduceCtorEq, reduceAdd, reduceEqDiff, reduceLeDiff, reduceLT, eq_true hc17, eq_true hg18, eq_true hg20, eq_true hg22, eq_true hc25, eq_true (bx_nn h_c26), m_c26, v_c26, eq_true hc27]
        refine SemF.seq rfl ?_
        refine SemF.reg true rfl ?_
        try simp only [gE, ↓gT, ↓reduceIte, reduceCtorEq, reduceAdd, reduceEqDiff, reduceLeDiff, reduceLT, eq_true hc17, eq_true hg18, eq_true hg20, eq_true hg22, eq_true hc25, eq_true (bx_nn h_c26), m_c26, v_c26, eq_true hc27]; (repeat intro (_ : _ ≤ lim))
        refine SemF.reg true rfl ?_
        try simp only [gE, ↓gT, ↓reduceIte, reduceCtorEq, reduceAdd, reduceEqDiff, reduceLeDiff, reduceLT, eq_true hc17, eq_true hg18, eq_true hg20, eq_true hg22, eq_true hc25, eq_true (bx_nn h_c26), m_c26, v_c26, eq_true hc27]; (repeat intro (_ : _ ≤ lim))
        refine SemF.seq rfl ?_
        refine SemF.reg true rfl ?_
        try simp only [gE, ↓gT, ↓reduceIte, reduceCtorEq, reduceAdd, reduceEqDiff, reduceLeDiff, reduceLT, eq_true hc17, eq_true hg18, eq_true hg20, eq_true hg22, eq_true hc25, eq_true (bx_nn h_c26), m_c26, v_c26, eq_true hc27]; (repeat intro (_ : _ ≤ lim))
        refine SemF.exit rfl ?_
        simp only [gE, ↓gT, ↓reduceIte, reduceCtorEq, reduceAdd, reduceEqDiff, reduceLeDiff, reduceLT, eq_true hc17, eq_true hg18, eq_true hg20, eq_true hg22, eq_true hc25, eq_true (bx_nn h_c26), m_c26, v_c26, eq_true hc27]
        refine SemL.weak (sel := [0]) ⟨by simp only [gE, ↓gT, ↓reduceIte, reduceCtorEq, reduceAdd, reduceEqDiff, reduceLeDiff, reduceLT, hwT, selS, erT, eq_true hc17, eq_true hg18, eq_true hg20, eq_true hg22, eq_true hc25, eq_true (bx_nn h_c26), m_c26, v_c26, eq_true hc27], by decide, by decide, by simp only [gE, ↓gT, ↓reduceIte, reduceCtorEq, reduceAdd, reduceEqDiff, reduceLeDiff, reduceLT, hwT, selS, erT, subR, eq_true hc17, eq_true hg18, eq_true hg20, eq_true hg22, eq_true hc25, eq_true (bx_nn h_c26), m_c26, v_c26, eq_true hc27], by simp only [gE, ↓gT, ↓reduceIte, reduceCtorEq, reduceAdd, reduceEqDiff, reduceLeDiff, reduceLT, hwT, selS, erT, scT, esT, eq_true hc17, eq_true hg18, eq_true hg20, eq_true hg22, eq_true hc25, eq_true (bx_nn h_c26), m_c26, v_c26, eq_true hc27], by simp only [gE, ↓gT, ↓reduceIte, reduceCtorEq, reduceAdd, reduceEqDiff, reduceLeDiff, reduceLT, hwT, selS, erT, scT, esT, eq_true hc17, eq_true hg18, eq_true hg20, eq_true hg22, eq_true hc25, eq_true (bx_nn h_c26), m_c26, v_c26, eq_true hc27]⟩ (ih_impl_Lex_L0 (p0, t4_L0, (IntKind.i64.wrap (t5_L0 + 1)), (IntKind.i64.wrap (t7_L0 + 1)), (IntKind.i64.wrap (t7_L0 + r24))) out h Q hx hr)
      · rw [if_neg hc27] at h
        refine SemF.cond rfl ?_
        simp only [gE, ↓gT, ↓reduceIte, reduceCtorEq, reduceAdd, reduceEqDiff, reduceLeDiff, reduceLT, eq_true hc17, eq_true hg18, eq_true hg20, eq_true hg22, eq_true hc25, eq_true (bx_nn h_c26), m_c26, v_c26, eq_false hc27]
        refine SemF.skip rfl ?_
        simp only [gE, ↓gT, ↓reduceIte, reduceCtorEq, reduceAdd, reduceEqDiff, reduceLeDiff, reduceLT, eq_true hc17, eq_true hg18, eq_true hg20, eq_true hg22, eq_true hc25, eq_true (bx_nn h_c26), m_c26, v_c26, eq_false hc27]
        refine SemF.seq rfl ?_
        refine SemF.reg true rfl ?_
        try simp only [gE, ↓gT, ↓reduceIte, reduceCtorEq, reduceAdd, reduceEqDiff, reduceLeDiff, reduceLT, eq_true hc17, eq_true hg18, eq_true hg20, eq_true hg22, eq_true hc25, eq_true (bx_nn h_c26), m_c26, v_c26, eq_false hc27]; (repeat intro (_ : _ ≤ lim))
        refine SemF.exit rfl ?_
        simp only [gE, ↓gT, ↓reduceIte, reduceCtorEq, reduceAdd, reduceEqDiff, reduceLeDiff, reduceLT, eq_true hc17, eq_true hg18, eq_true hg20, eq_true hg22, eq_true hc25, eq_true (bx_nn h_c26), m_c26, v_c26, eq_false hc27]
        refine SemL.weak (sel := [0]) ⟨by simp only [gE, ↓gT, ↓reduceIte, reduceCtorEq, reduceAdd, reduceEqDiff, reduceLeDiff, reduceLT, hwT, selS, erT, eq_true hc17, eq_true hg18, eq_true hg20, eq_true hg22, eq_true hc25, eq_true (bx_nn h_c26), m_c26, v_c26, eq_false hc27], by decide, by decide, by simp only [gE, ↓gT, ↓reduceIte, reduceCtorEq, reduceAdd, reduceEqDiff, reduceLeDiff, reduceLT, hwT, selS, erT, subR, eq_true hc17, eq_true hg18, eq_true hg20, eq_true hg22, eq_true hc25, eq_true (bx_nn h_c26), m_c26, v_c26, eq_false hc27], by simp only [gE, ↓gT, ↓reduceIte, reduceCtorEq, reduceAdd, reduceEqDiff, reduceLeDiff, reduceLT, hwT, selS, erT, scT, esT, eq_true hc17, eq_true hg18, eq_true hg20, eq_true hg22, eq_true hc25, eq_true (bx_nn h_c26), m_c26, v_c26, eq_false hc27], by simp only [gE, ↓gT, ↓reduceIte, reduceCtorEq, reduceAdd, reduceEqDiff, reduceLeDiff, reduceLT, hwT, selS, erT, scT, esT, eq_true hc17, eq_true hg18, eq_true hg20, eq_true hg22, eq_true hc25, eq_true (bx_nn h_c26), m_c26, v_c26, eq_false hc27]⟩ (ih_impl_Lex_L0 (p0, t4_L0, t5_L0, t6_L0, (IntKind.i64.wrap (t7_L0 + r24))) out h Q hx hr)
    · rw [if_neg hc25] at h
      refine SemF.cond rfl ?_
      simp only [gE, ↓gT, ↓reduceIte, reduceCtorEq, reduceAdd, reduceEqDiff, reduceLeDiff, reduceLT, eq_true hc17, eq_true hg18, eq_true hg20, eq_true hg22, eq_false hc25]
      refine SemF.skip rfl ?_
      simp only [gE, ↓gT, ↓reduceIte, reduceCtorEq, reduceAdd, reduceEqDiff, reduceLeDiff, reduceLT, eq_true hc17, eq_true hg18, eq_true hg20, eq_true hg22, eq_false hc25]
      refine SemF.seq rfl ?_
      refine SemF.reg true rfl ?_
      try simp only [gE, ↓gT, ↓reduceIte, reduceCtorEq, reduceAdd, reduceEqDiff, reduceLeDiff, reduceLT, eq_true hc17, eq_true hg18, eq_true hg20, eq_true hg22, eq_false hc25]; (repeat intro (_ : _ ≤ lim))
      obtain ⟨r28, h_r28, h⟩ := bs h
      refine HCp.callE (K.impl_nextTok (p0.extract t7_L0.toNat p0.size) r28 h_r28) (by simp only [gE, ↓gT, ↓reduceIte, reduceCtorEq, reduceAdd, reduceEqDiff, reduceLeDiff, reduceLT, eq_true hc17, eq_true hg18, eq_true hg20, eq_true hg22, eq_false hc25]) (by simp only [scT, esT, and_self, true_and, and_true]) (by simp only [scT, esT, and_self, true_and, and_true]) ?_
      try simp only [gE, ↓gT, ↓reduceIte, reduceCtorEq, reduceAdd, reduceEqDiff, reduceLeDiff, reduceLT, eq_true hc17, eq_true hg18, eq_true hg20, eq_true hg22, eq_false hc25]; (repeat intro (_ : _ ≤ lim))
      refine SemF.seq rfl ?_
      refine SemF.seq rfl ?_
      refine SemF.reg true rfl ?_
      try simp only [gE, ↓gT, ↓reduceIte, reduceCtorEq, reduceAdd, reduceEqDiff, reduceLeDiff, reduceLT, eq_true hc17, eq_true hg18, eq_true hg20, eq_true hg22, eq_false hc25]; (repeat intro (_ : _ ≤ lim))
      by_cases hc29 : r28.2 = true
      · rw [if_pos hc29] at h
        refine SemF.cond rfl ?_
        simp only [gE, ↓gT, ↓reduceIte, reduceCtorEq, reduceAdd, reduceEqDiff, reduceLeDiff, reduceLT, eq_true hc17, eq_true hg18, eq_true hg20, eq_true hg22, eq_false hc25, hc29]
        refine SemF.skip rfl ?_
        simp only [gE, ↓gT, ↓reduceIte, reduceCtorEq, reduceAdd, reduceEqDiff, reduceLeDiff, reduceLT, eq_true hc17, eq_true hg18, eq_true hg20, eq_true hg22, eq_false hc25, hc29]
        refine SemF.seq rfl ?_
        refine SemF.reg true rfl ?_
        try simp only [gE, ↓gT, ↓reduceIte, reduceCtorEq, reduceAdd, reduceEqDiff, reduceLeDiff, reduceLT, eq_true hc17, eq_true hg18, eq_true hg20, eq_true hg22, eq_false hc25, hc29]; (repeat intro (_ : _ ≤ lim))
        refine SemF.seq rfl ?_
        refine SemF.reg true rfl ?_
        try simp only [gE, ↓gT, ↓reduceIte, reduceCtorEq, reduceAdd, reduceEqDiff, reduceLeDiff, reduceLT, eq_true hc17, eq_true hg18, eq_true hg20, eq_true hg22, eq_false hc25, hc29]; (repeat intro (_ : _ ≤ lim))
        obtain ⟨u31, h_u31, h⟩ := bs h
        have hg30 := gd_some h_u31
        try simp only [gE, ↓gT, ↓reduceIte, reduceCtorEq, reduceAdd, reduceEqDiff, reduceLeDiff, reduceLT, eq_true hc17, eq_true hg18, eq_true hg20, eq_true hg22, eq_false hc25, hc29, eq_true hg30]; (repeat intro (_ : _ ≤ lim))
        refine SemF.reg true rfl ?_
        try simp only [gE, ↓gT, ↓reduceIte, reduceCtorEq, reduceAdd, reduceEqDiff, reduceLeDiff, reduceLT, eq_true hc17, eq_true hg18, eq_true hg20, eq_true hg22, eq_false hc25, hc29, eq_true hg30]; (repeat intro (_ : _ ≤ lim))
        (repeat intro (_ : _ ≤ lim))
        refine SemL.weak (sel := [0]) ⟨by simp only [gE, ↓gT, ↓reduceIte, reduceCtorEq, reduceAdd, reduceEqDiff, reduceLeDiff, reduceLT, hwT, selS, erT, eq_true hc17, eq_true hg18, eq_true hg20, eq_true hg22, eq_false hc25, hc29, eq_true hg30], by decide, by decide, by simp only [gE, ↓gT, ↓reduceIte, reduceCtorEq, reduceAdd, reduceEqDiff, reduceLeDiff, reduceLT, hwT, selS, erT, subR, eq_true hc17, eq_true hg18, eq_true hg20, eq_true hg22, eq_false hc25, hc29, eq_true hg30], by simp only [gE, ↓gT, ↓reduceIte, reduceCtorEq, reduceAdd, reduceEqDiff, reduceLeDiff, reduceLT, hwT, selS, erT, scT, esT, eq_true hc17, eq_true hg18, eq_true hg20, eq_true hg22, eq_false hc25, hc29, eq_true hg30], by simp only [gE, ↓gT, ↓reduceIte, reduceCtorEq, reduceAdd, reduceEqDiff, reduceLeDiff, reduceLT, hwT, selS, erT, scT, esT, eq_true hc17, eq_true hg18, eq_true hg20, eq_true hg22, eq_false hc25, hc29, eq_true hg30]⟩ (ih_impl_Lex_L0 (p0, (t4_L0 ++ [(Tok.mk r28.1.K r28.1.S t5_L0 (IntKind.i64.wrap ((IntKind.i64.wrap (t7_L0 - t6_L0)) + 1)))]), t5_L0, t6_L0, (IntKind.i64.wrap (t7_L0 + ((r28.1.S.size : Nat) : Int)))) out h Q hx hr)
      · rw [if_neg hc29] at h
        replace hc29 := eq_false_of_ne_true hc29
        refine SemF.cond rfl ?_
        simp only [gE, ↓gT, ↓reduceIte, reduceCtorEq, reduceAdd, reduceEqDiff, reduceLeDiff, reduceLT, eq_true hc17, eq_true hg18, eq_true hg20, eq_true hg22, eq_false hc25, hc29]
        refine SemF.seq rfl ?_
        refine SemF.reg true rfl ?_
        try simp only [gE, ↓gT, ↓reduceIte, reduceCtorEq, reduceAdd, reduceEqDiff, reduceLeDiff, reduceLT, eq_true hc17, eq_true hg18, eq_true hg20, eq_true hg22, eq_false hc25, hc29]; (repeat intro (_ : _ ≤ lim))
        refine SemF.ret rfl ?_
        try simp only [gE, ↓gT, ↓reduceIte, reduceCtorEq, reduceAdd, reduceEqDiff, reduceLeDiff, reduceLT, eq_true hc17, eq_true hg18, eq_true hg20, eq_true hg22, eq_false hc25, hc29]; (repeat intro (_ : _ ≤ lim))
        obtain rfl := Option.some.inj h
        refine hr _ rfl _ _ ?_
        simp only [gE, ↓gT, ↓reduceIte, reduceCtorEq, reduceAdd, reduceEqDiff, reduceLeDiff, reduceLT, RetM_def, eq_true hc17, eq_true hg18, eq_true hg20, eq_true hg22, eq_false hc25, hc29]
        exact ⟨[2], by simp only [gE, ↓gT, ↓reduceIte, reduceCtorEq, reduceAdd, reduceEqDiff, reduceLeDiff, reduceLT, hwT, selS, erT, eq_true hc17, eq_true hg18, eq_true hg20, eq_true hg22, eq_false hc25, hc29], by simp only [gE, ↓gT, ↓reduceIte, reduceCtorEq, reduceAdd, reduceEqDiff, reduceLeDiff, reduceLT, hwT, selS, erT, eq_true hc17, eq_true hg18, eq_true hg20, eq_true hg22, eq_false hc25, hc29], by decide, by decide, by simp only [gE, ↓gT, ↓reduceIte, reduceCtorEq, reduceAdd, reduceEqDiff, reduceLeDiff, reduceLT, hwT, selS, erT, scT, esT], by simp only [gE, ↓gT, ↓reduceIte, reduceCtorEq, reduceAdd, reduceEqDiff, reduceLeDiff, reduceLT, hwT, selS, erT, scT, esT]⟩
  · rw [if_neg hc17] at h
    refine SemF.cond rfl ?_
    simp only [gE, ↓gT, ↓reduceIte, reduceCtorEq, reduceAdd, reduceEqDiff, reduceLeDiff, reduceLT, eq_false hc17]
    refine SemF.exit rfl ?_
    simp only [gE, ↓gT, ↓reduceIte, reduceCtorEq, reduceAdd, reduceEqDiff, reduceLeDiff, reduceLT, eq_false hc17]
    obtain rfl := Option.some.inj h
    refine hx _ rfl _ _ [0] ⟨by simp only [gE, ↓gT, ↓reduceIte, reduceCtorEq, reduceAdd, reduceEqDiff, reduceLeDiff, reduceLT, hwT, selS, erT, eq_false hc17], by decide, by decide, by simp only [gE, ↓gT, ↓reduceIte, reduceCtorEq, reduceAdd, reduceEqDiff, reduceLeDiff, reduceLT, hwT, selS, erT, subR, eq_false hc17], by simp only [gE, ↓gT, ↓reduceIte, reduceCtorEq, reduceAdd, reduceEqDiff, reduceLeDiff, reduceLT, hwT, selS, erT, scT, esT, eq_false hc17], by simp only [gE, ↓gT, ↓reduceIte, reduceCtorEq, reduceAdd, reduceEqDiff, reduceLeDiff, reduceLT, hwT, selS, erT, scT, esT, eq_false hc17]⟩
theorem impl_Lex : ∀ (x : ByteArray) (r : ((List Tok) × Bool)), M.impl_Lex x = some r → HC P F.impl_Lex [(.str x)] [] (fun r_ s_ => r_ = (HV.tup [(HV.own 0 r.1.length), (HV.bool r.2)]) ∧ s_ = [(.arr 4 (List.map Tok.enc r.1) true)]) := by
  intro x r h
  revert h; revert x; intro p0 h
  unfold M.impl_Lex at h
  try dsimp only at h
  refine HC.mkM [some 4, none] S.impl_Lex (by simp [H.impl_Lex]) ?_
  simp only [gE, ↓gT, ↓reduceIte, reduceCtorEq, reduceAdd, reduceEqDiff, reduceLeDiff, reduceLT, H.impl_Lex]
  refine SemF.seq rfl ?_
  refine SemF.reg true rfl ?_
  try simp only [gE, ↓gT, ↓reduceIte, reduceCtorEq, reduceAdd, reduceEqDiff, reduceLeDiff, reduceLT]; (repeat intro (_ : _ ≤ lim))
  refine SemF.seq rfl ?_
  refine SemF.seq rfl ?_
  refine SemF.reg true rfl ?_
  try simp only [gE, ↓gT, ↓reduceIte, reduceCtorEq, reduceAdd, reduceEqDiff, reduceLeDiff, reduceLT]; (repeat intro (_ : _ ≤ lim))
  (repeat intro (_ : _ ≤ lim))
  by_cases hc1 : 1500 < ((p0.size : Nat) : Int)
  · rw [if_pos hc1] at h
    refine SemF.cond rfl ?_
    simp only [gE, ↓gT, ↓reduceIte, reduceCtorEq, reduceAdd, reduceEqDiff, reduceLeDiff, reduceLT, eq_true hc1]
    refine SemF.seq rfl ?_
    refine SemF.reg true rfl ?_
    try simp only [gE, ↓gT, ↓reduceIte, reduceCtorEq, reduceAdd, reduceEqDiff, reduceLeDiff, reduceLT, eq_true hc1]; (repeat intro (_ : _ ≤ lim))
    refine SemF.ret rfl ?_
    try simp only [gE, ↓gT, ↓reduceIte, reduceCtorEq, reduceAdd, reduceEqDiff, reduceLeDiff, reduceLT, eq_true hc1]; (repeat intro (_ : _ ≤ lim))
    obtain rfl := Option.some.inj h
    simp only [gE, ↓gT, ↓reduceIte, reduceCtorEq, reduceAdd, reduceEqDiff, reduceLeDiff, reduceLT, RetM_def, eq_true hc1]
    exact ⟨[0], by simp only [gE, ↓gT, ↓reduceIte, reduceCtorEq, reduceAdd, reduceEqDiff, reduceLeDiff, reduceLT, hwT, selS, erT, eq_true hc1], by simp only [gE, ↓gT, ↓reduceIte, reduceCtorEq, reduceAdd, reduceEqDiff, reduceLeDiff, reduceLT, hwT, selS, erT, eq_true hc1], by decide, by decide, by simp only [gE, ↓gT, ↓reduceIte, reduceCtorEq, reduceAdd, reduceEqDiff, reduceLeDiff, reduceLT, hwT, selS, erT, scT, esT], by simp only [gE, ↓gT, ↓reduceIte, reduceCtorEq, reduceAdd, reduceEqDiff, reduceLeDiff, reduceLT, hwT, selS, erT, scT, esT]⟩
  · rw [if_neg hc1] at h
    refine SemF.cond rfl ?_
    simp only [gE, ↓gT, ↓reduceIte, reduceCtorEq, reduceAdd, reduceEqDiff, reduceLeDiff, reduceLT, eq_false hc1]
    refine SemF.skip rfl ?_
    simp only [gE, ↓gT, ↓reduceIte, reduceCtorEq, reduceAdd, reduceEqDiff, reduceLeDiff, reduceLT, eq_false hc1]
    refine SemF.seq rfl ?_
    refine SemF.reg true rfl ?_
    try simp only [gE, ↓gT, ↓reduceIte, reduceCtorEq, reduceAdd, reduceEqDiff, reduceLeDiff, reduceLT, eq_false hc1]; (repeat intro (_ : _ ≤ lim))
    refine SemF.seq rfl ?_
    refine SemF.reg true rfl ?_
    try simp only [gE, ↓gT, ↓reduceIte, reduceCtorEq, reduceAdd, reduceEqDiff, reduceLeDiff, reduceLT, eq_false hc1]; (repeat intro (_ : _ ≤ lim))
    refine SemF.seq rfl ?_
    refine SemF.block rfl ?_
    obtain ⟨s32, h_s32, h⟩ := bs h
    rcases s32 with r33 | v34
    · dsimp only at h
      refine SemF.loop rfl ?_
      refine SemL.weak (sel := [0]) ⟨by simp only [gE, ↓gT, ↓reduceIte, reduceCtorEq, reduceAdd, reduceEqDiff, reduceLeDiff, reduceLT, hwT, selS, erT, eq_false hc1], by decide, by decide, by simp only [gE, ↓gT, ↓reduceIte, reduceCtorEq, reduceAdd, reduceEqDiff, reduceLeDiff, reduceLT, hwT, selS, erT, subR, eq_false hc1], by simp only [gE, ↓gT, ↓reduceIte, reduceCtorEq, reduceAdd, reduceEqDiff, reduceLeDiff, reduceLT, hwT, selS, erT, scT, esT, eq_false hc1], by simp only [gE, ↓gT, ↓reduceIte, reduceCtorEq, reduceAdd, reduceEqDiff, reduceLeDiff, reduceLT, hwT, selS, erT, scT, esT, eq_false hc1]⟩ (K.impl_Lex_L0 (p0, [], 1, 0, 0) (.inl r33) h_s32 _ ?_ ?_)
      · intro v hv; cases hv
      · intro r' hr' env st hy
        cases hr'
        simp only [gE, ↓gT, ↓reduceIte, reduceCtorEq, reduceAdd, reduceEqDiff, reduceLeDiff, reduceLT]
        obtain rfl := Option.some.inj h
        exact hy
    · dsimp only at h
      refine SemF.loop rfl ?_
      refine SemL.weak (sel := [0]) ⟨by simp only [gE, ↓gT, ↓reduceIte, reduceCtorEq, reduceAdd, reduceEqDiff, reduceLeDiff, reduceLT, hwT, selS, erT, eq_false hc1], by decide, by decide, by simp only [gE, ↓gT, ↓reduceIte, reduceCtorEq, reduceAdd, reduceEqDiff, reduceLeDiff, reduceLT, hwT, selS, erT, subR, eq_false hc1], by simp only [gE, ↓gT, ↓reduceIte, reduceCtorEq, reduceAdd, reduceEqDiff, reduceLeDiff, reduceLT, hwT, selS, erT, scT, esT, eq_false hc1], by simp only [gE, ↓gT, ↓reduceIte, reduceCtorEq, reduceAdd, reduceEqDiff, reduceLeDiff, reduceLT, hwT, selS, erT, scT, esT, eq_false hc1]⟩ (K.impl_Lex_L0 (p0, [], 1, 0, 0) (.inr v34) h_s32 _ ?_ ?_)
      rotate_left
      · intro r' hr'; cases hr'
      intro v hv env st sel hw
      cases hv
      simp only [gE, ↓gT, ↓reduceIte, reduceCtorEq, reduceAdd, reduceEqDiff, reduceLeDiff, reduceLT]
      first | refine SemF.weak hw ?_ | refine SemL.weak hw ?_
      refine SemF.seq rfl ?_
      refine SemF.reg true rfl ?_
      try simp only [gE, ↓gT, ↓reduceIte, reduceCtorEq, reduceAdd, reduceEqDiff, reduceLeDiff, reduceLT, eq_false hc1]; (repeat intro (_ : _ ≤ lim))
      obtain ⟨u36, h_u36, h⟩ := bs h
      have hg35 := gd_some h_u36
      try simp only [gE, ↓gT, ↓reduceIte, reduceCtorEq, reduceAdd, reduceEqDiff, reduceLeDiff, reduceLT, eq_false hc1, eq_true hg35]; (repeat intro (_ : _ ≤ lim))
      refine SemF.seq rfl ?_
      refine SemF.seq rfl ?_
      refine SemF.reg true rfl ?_
      try simp only [gE, ↓gT, ↓reduceIte, reduceCtorEq, reduceAdd, reduceEqDiff, reduceLeDiff, reduceLT, eq_false hc1, eq_true hg35]; (repeat intro (_ : _ ≤ lim))
      (repeat intro (_ : _ ≤ lim))
      by_cases hc37 : 400 < (((v34.1.length + 1) : Nat) : Int)
      · rw [if_pos hc37] at h
        refine SemF.cond rfl ?_
        simp only [gE, ↓gT, ↓reduceIte, reduceCtorEq, reduceAdd, reduceEqDiff, reduceLeDiff, reduceLT, eq_false hc1, eq_true hg35, eq_true hc37]
        refine SemF.seq rfl ?_
        refine SemF.reg true rfl ?_
        try simp only [gE, ↓gT, ↓reduceIte, reduceCtorEq, reduceAdd, reduceEqDiff, reduceLeDiff, reduceLT, eq_false hc1, eq_true hg35, eq_true hc37]; (repeat intro (_ : _ ≤ lim))
        refine SemF.ret rfl ?_
        try simp only [gE, ↓gT, ↓reduceIte, reduceCtorEq, reduceAdd, reduceEqDiff, reduceLeDiff, reduceLT, eq_false hc1, eq_true hg35, eq_true hc37]; (repeat intro (_ : _ ≤ lim))
        obtain rfl := Option.some.inj h
        simp only [gE, ↓gT, ↓reduceIte, reduceCtorEq, reduceAdd, reduceEqDiff, reduceLeDiff, reduceLT, RetM_def, eq_false hc1, eq_true hg35, eq_true hc37]
        exact ⟨[2], by simp only [gE, ↓gT, ↓reduceIte, reduceCtorEq, reduceAdd, reduceEqDiff, reduceLeDiff, reduceLT, hwT, selS, erT, eq_false hc1, eq_true hg35, eq_true hc37], by simp only [gE, ↓gT, ↓reduceIte, reduceCtorEq, reduceAdd, reduceEqDiff, reduceLeDiff, reduceLT, hwT, selS, erT, eq_false hc1, eq_true hg35, eq_true hc37], by decide, by decide, by simp only [gE, ↓gT, ↓reduceIte, reduceCtorEq, reduceAdd, reduceEqDiff, reduceLeDiff, reduceLT, hwT, selS, erT, scT, esT], by simp only [gE, ↓gT, ↓reduceIte, reduceCtorEq, reduceAdd, reduceEqDiff, reduceLeDiff, reduceLT, hwT, selS, erT, scT, esT]⟩
      · rw [if_neg hc37] at h
        refine SemF.cond rfl ?_
        simp only [gE, ↓gT, ↓reduceIte, reduceCtorEq, reduceAdd, reduceEqDiff, reduceLeDiff, reduceLT, eq_false hc1, eq_true hg35, eq_false hc37]
        refine SemF.skip rfl ?_
        simp only [gE, ↓gT, ↓reduceIte, reduceCtorEq, reduceAdd, reduceEqDiff, reduceLeDiff, reduceLT, eq_false hc1, eq_true hg35, eq_false hc37]
        refine SemF.seq rfl ?_
        refine SemF.reg true rfl ?_
        try simp only [gE, ↓gT, ↓reduceIte, reduceCtorEq, reduceAdd, reduceEqDiff, reduceLeDiff, reduceLT, eq_false hc1, eq_true hg35, eq_false hc37]; (repeat intro (_ : _ ≤ lim))
        refine SemF.ret rfl ?_
        try simp only [gE, ↓gT, ↓reduceIte, reduceCtorEq, reduceAdd, reduceEqDiff, reduceLeDiff, reduceLT, eq_false hc1, eq_true hg35, eq_false hc37]; (repeat intro (_ : _ ≤ lim))
        obtain rfl := Option.some.inj h
        simp only [gE, ↓gT, ↓reduceIte, reduceCtorEq, reduceAdd, reduceEqDiff, reduceLeDiff, reduceLT, RetM_def, eq_false hc1, eq_true hg35, eq_false hc37]
        exact ⟨[0], by simp only [gE, ↓gT, ↓reduceIte, reduceCtorEq, reduceAdd, reduceEqDiff, reduceLeDiff, reduceLT, hwT, selS, erT, eq_false hc1, eq_true hg35, eq_false hc37], by simp only [gE, ↓gT, ↓reduceIte, reduceCtorEq, reduceAdd, reduceEqDiff, reduceLeDiff, reduceLT, hwT, selS, erT, eq_false hc1, eq_true hg35, eq_false hc37], by decide, by decide, by simp only [gE, ↓gT, ↓reduceIte, reduceCtorEq, reduceAdd, reduceEqDiff, reduceLeDiff, reduceLT, hwT, selS, erT, scT, esT], by simp only [gE, ↓gT, ↓reduceIte, reduceCtorEq, reduceAdd, reduceEqDiff, reduceLeDiff, reduceLT, hwT, selS, erT, scT, esT]⟩
theorem impl_TokText_L0 : ∀ (x : ((List Tok) × (List ByteArray) × Int)) (out : (List ByteArray)), M.impl_TokText_L0 x = some out → ∀ Q : HExit → Env → St → Prop, (∀ env st sel, Weak 0 sel [(3, (.own 0 out.length))] [(.arr 1 (List.map HV.str out) true)] env st → Q (.exit 0) env st) → SemL P H.impl_TokText.ntmps 0 H.impl_TokText_l5 [(3, (.own 0 x.2.1.length)), (7, (.sl (List.map Tok.enc x.1))), (8, (.int .i64 ((x.1.length : Nat) : Int))), (9, (.int .i64 x.2.2))] [(.arr 1 (List.map HV.str x.2.1) true)] Q := by
  refine M.impl_TokText_L0.partial_correctness (motive := fun x out => ∀ Q : HExit → Env → St → Prop, (∀ env st sel, Weak 0 sel [(3, (.own 0 out.length))] [(.arr 1 (List.map HV.str out) true)] env st → Q (.exit 0) env st) → SemL P H.impl_TokText.ntmps 0 H.impl_TokText_l5 [(3, (.own 0 x.2.1.length)), (7, (.sl (List.map Tok.enc x.1))), (8, (.int .i64 ((x.1.length : Nat) : Int))), (9, (.int .i64 x.2.2))] [(.arr 1 (List.map HV.str x.2.1) true)] Q) ?_
  intro f_impl_TokText_L0 ih_impl_TokText_L0 x out h
  obtain ⟨p0, t3_L0, t9_L0⟩ := x
  try dsimp only at h
  intro Q hx
  refine SemL.round ?_
  try dsimp only at hx
  refine SemF.seq rfl ?_
  refine SemF.reg true rfl ?_
  try simp only [gE, ↓gT, ↓reduceIte, reduceCtorEq, reduceAdd, reduceEqDiff, reduceLeDiff, reduceLT]; (repeat intro (_ : _ ≤ lim))
  refine SemF.seq rfl ?_
  by_cases hc6 : t9_L0 < ((p0.length : Nat) : Int)
  · rw [if_pos hc6] at h
    refine SemF.cond rfl ?_
    simp only [gE, ↓gT, ↓reduceIte, reduceCtorEq, reduceAdd, reduceEqDiff, reduceLeDiff, reduceLT, eq_true hc6]
    refine SemF.skip rfl ?_
    simp only [gE, ↓gT, ↓reduceIte, reduceCtorEq, reduceAdd, reduceEqDiff, reduceLeDiff, reduceLT, eq_true hc6]
    refine SemF.seq rfl ?_
    refine SemF.block rfl ?_
    refine SemF.seq rfl ?_
    refine SemF.reg true rfl ?_
    try simp only [gE, ↓gT, ↓reduceIte, reduceCtorEq, reduceAdd, reduceEqDiff, reduceLeDiff, reduceLT, eq_true hc6]; (repeat intro (_ : _ ≤ lim))
    obtain ⟨e7, h_e7, h⟩ := bs h
    have m_e7 := ixm (f := Tok.enc) (ix_get h_e7)
    try simp only [gE, ↓gT, ↓reduceIte, reduceCtorEq, reduceAdd, reduceEqDiff, reduceLeDiff, reduceLT, eq_true hc6, eq_true (ix_nn h_e7), m_e7]; (repeat intro (_ : _ ≤ lim))
    refine SemF.seq rfl ?_
    refine SemF.reg true rfl ?_
    try simp only [gE, ↓gT, ↓reduceIte, reduceCtorEq, reduceAdd, reduceEqDiff, reduceLeDiff, reduceLT, eq_true hc6, eq_true (ix_nn h_e7), m_e7]; (repeat intro (_ : _ ≤ lim))
    by_cases hc8 : e7.K = 6
    · rw [if_pos hc8] at h
      refine SemF.cond rfl ?_
      simp only [gE, ↓gT, ↓reduceIte, reduceCtorEq, reduceAdd, reduceEqDiff, reduceLeDiff, reduceLT, eq_true hc6, eq_true (ix_nn h_e7), m_e7, eq_true hc8]
      refine SemF.skip rfl ?_
      simp only [gE, ↓gT, ↓reduceIte, reduceCtorEq, reduceAdd, reduceEqDiff, reduceLeDiff, reduceLT, eq_true hc6, eq_true (ix_nn h_e7), m_e7, eq_true hc8]
      refine SemF.reg true rfl ?_
      try simp only [gE, ↓gT, ↓reduceIte, reduceCtorEq, reduceAdd, reduceEqDiff, reduceLeDiff, reduceLT, eq_true hc6, eq_true (ix_nn h_e7), m_e7, eq_true hc8]; (repeat intro (_ : _ ≤ lim))
      refine SemL.weak (sel := [0]) ⟨by simp only [gE, ↓gT, ↓reduceIte, reduceCtorEq, reduceAdd, reduceEqDiff, reduceLeDiff, reduceLT, hwT, selS, erT, eq_true hc6, eq_true (ix_nn h_e7), m_e7, eq_true hc8], by decide, by decide, by simp only [gE, ↓gT, ↓reduceIte, reduceCtorEq, reduceAdd, reduceEqDiff, reduceLeDiff, reduceLT, hwT, selS, erT, subR, eq_true hc6, eq_true (ix_nn h_e7), m_e7, eq_true hc8], by simp only [gE, ↓gT, ↓reduceIte, reduceCtorEq, reduceAdd, reduceEqDiff, reduceLeDiff, reduceLT, hwT, selS, erT, scT, esT, eq_true hc6, eq_true (ix_nn h_e7), m_e7, eq_true hc8], by simp only [gE, ↓gT, ↓reduceIte, reduceCtorEq, reduceAdd, reduceEqDiff, reduceLeDiff, reduceLT, hwT, selS, erT, scT, esT, eq_true hc6, eq_true (ix_nn h_e7), m_e7, eq_true hc8]⟩ (ih_impl_TokText_L0 (p0, t3_L0, (IntKind.i64.wrap (t9_L0 + 1))) out h Q hx)
    · rw [if_neg hc8] at h
      refine SemF.cond rfl ?_
      simp only [gE, ↓gT, ↓reduceIte, reduceCtorEq, reduceAdd, reduceEqDiff, reduceLeDiff, reduceLT, eq_true hc6, eq_true (ix_nn h_e7), m_e7, eq_false hc8]
      refine SemF.reg true rfl ?_
      try simp only [gE, ↓gT, ↓reduceIte, reduceCtorEq, reduceAdd, reduceEqDiff, reduceLeDiff, reduceLT, eq_true hc6, eq_true (ix_nn h_e7), m_e7, eq_false hc8]; (repeat intro (_ : _ ≤ lim))
      obtain ⟨u10, h_u10, h⟩ := bs h
      have hg9 := gd_some h_u10
      try simp only [gE, ↓gT, ↓reduceIte, reduceCtorEq, reduceAdd, reduceEqDiff, reduceLeDiff, reduceLT, eq_true hc6, eq_true (ix_nn h_e7), m_e7, eq_false hc8, eq_true hg9]; (repeat intro (_ : _ ≤ lim))
      refine SemF.reg true rfl ?_
      try simp only [gE, ↓gT, ↓reduceIte, reduceCtorEq, reduceAdd, reduceEqDiff, reduceLeDiff, reduceLT, eq_true hc6, eq_true (ix_nn h_e7), m_e7, eq_false hc8, eq_true hg9]; (repeat intro (_ : _ ≤ lim))
      refine SemL.weak (sel := [0]) ⟨by simp only [gE, ↓gT, ↓reduceIte, reduceCtorEq, reduceAdd, reduceEqDiff, reduceLeDiff, reduceLT, hwT, selS, erT, eq_true hc6, eq_true (ix_nn h_e7), m_e7, eq_false hc8, eq_true hg9], by decide, by decide, by simp only [gE, ↓gT, ↓reduceIte, reduceCtorEq, reduceAdd, reduceEqDiff, reduceLeDiff, reduceLT, hwT, selS, erT, subR, eq_true hc6, eq_true (ix_nn h_e7), m_e7, eq_false hc8, eq_true hg9], by simp only [gE, ↓gT, ↓reduceIte, reduceCtorEq, reduceAdd, reduceEqDiff, reduceLeDiff, reduceLT, hwT, selS, erT, scT, esT, eq_true hc6, eq_true (ix_nn h_e7), m_e7, eq_false hc8, eq_true hg9], by simp only [gE, ↓gT, ↓reduceIte, reduceCtorEq, reduceAdd, reduceEqDiff, reduceLeDiff, reduceLT, hwT, selS, erT, scT, esT, eq_true hc6, eq_true (ix_nn h_e7), m_e7, eq_false hc8, eq_true hg9]⟩ (ih_impl_TokText_L0 (p0, (t3_L0 ++ [e7.S]), (IntKind.i64.wrap (t9_L0 + 1))) out h Q hx)
  · rw [if_neg hc6] at h
    refine SemF.cond rfl ?_
    simp only [gE, ↓gT, ↓reduceIte, reduceCtorEq, reduceAdd, reduceEqDiff, reduceLeDiff, reduceLT, eq_false hc6]
    refine SemF.exit rfl ?_
    simp only [gE, ↓gT, ↓reduceIte, reduceCtorEq, reduceAdd, reduceEqDiff, reduceLeDiff, reduceLT, eq_false hc6]
    obtain rfl := Option.some.inj h
    refine hx _ _ [0] ⟨by simp only [gE, ↓gT, ↓reduceIte, reduceCtorEq, reduceAdd, reduceEqDiff, reduceLeDiff, reduceLT, hwT, selS, erT, eq_false hc6], by decide, by decide, by simp only [gE, ↓gT, ↓reduceIte, reduceCtorEq, reduceAdd, reduceEqDiff, reduceLeDiff, reduceLT, hwT, selS, erT, subR, eq_false hc6], by simp only [gE, ↓gT, ↓reduceIte, reduceCtorEq, reduceAdd, reduceEqDiff, reduceLeDiff, reduceLT, hwT, selS, erT, scT, esT, eq_false hc6], by simp only [gE, ↓gT, ↓reduceIte, reduceCtorEq, reduceAdd, reduceEqDiff, reduceLeDiff, reduceLT, hwT, selS, erT, scT, esT, eq_false hc6]⟩
theorem impl_TokText : ∀ (x : (List Tok)) (r : ByteArray), M.impl_TokText x = some r → HCp P F.impl_TokText [(.sl (List.map Tok.enc x))] (HV.str r) := by
  intro x r h
  revert h; revert x; intro p0 h
  unfold M.impl_TokText at h
  try dsimp only at h
  refine HCp.mkF S.impl_TokText (by simp [H.impl_TokText]) (by simp only [scT, esT, and_self, true_and, and_true]) ?_
  simp only [gE, ↓gT, ↓reduceIte, reduceCtorEq, reduceAdd, reduceEqDiff, reduceLeDiff, reduceLT, H.impl_TokText]
  refine SemF.seq rfl ?_
  refine SemF.reg true rfl ?_
  try simp only [gE, ↓gT, ↓reduceIte, reduceCtorEq, reduceAdd, reduceEqDiff, reduceLeDiff, reduceLT]; (repeat intro (_ : _ ≤ lim))
  refine SemF.seq rfl ?_
  refine SemF.reg true rfl ?_
  try simp only [gE, ↓gT, ↓reduceIte, reduceCtorEq, reduceAdd, reduceEqDiff, reduceLeDiff, reduceLT]; (repeat intro (_ : _ ≤ lim))
  refine SemF.seq rfl ?_
  refine SemF.seq rfl ?_
  refine SemF.reg true rfl ?_
  try simp only [gE, ↓gT, ↓reduceIte, reduceCtorEq, reduceAdd, reduceEqDiff, reduceLeDiff, reduceLT]; (repeat intro (_ : _ ≤ lim))
  (repeat intro (_ : _ ≤ lim))
  refine SemF.block rfl ?_
  obtain ⟨s11, h_s11, h⟩ := bs h
  refine SemF.loop rfl ?_
  refine SemL.weak (sel := [0]) ⟨by simp only [gE, ↓gT, ↓reduceIte, reduceCtorEq, reduceAdd, reduceEqDiff, reduceLeDiff, reduceLT, hwT, selS, erT], by decide, by decide, by simp only [gE, ↓gT, ↓reduceIte, reduceCtorEq, reduceAdd, reduceEqDiff, reduceLeDiff, reduceLT, hwT, selS, erT, subR], by simp only [gE, ↓gT, ↓reduceIte, reduceCtorEq, reduceAdd, reduceEqDiff, reduceLeDiff, reduceLT, hwT, selS, erT, scT, esT], by simp only [gE, ↓gT, ↓reduceIte, reduceCtorEq, reduceAdd, reduceEqDiff, reduceLeDiff, reduceLT, hwT, selS, erT, scT, esT]⟩ (K.impl_TokText_L0 (p0, [], 0) s11 h_s11 _ ?_)
  intro env st sel hw
  simp only [gE, ↓gT, ↓reduceIte, reduceCtorEq, reduceAdd, reduceEqDiff, reduceLeDiff, reduceLT]
  first | refine SemF.weak hw ?_ | refine SemL.weak hw ?_
  refine SemF.seq rfl ?_
  refine SemF.reg true rfl ?_
  try simp only [gE, ↓gT, ↓reduceIte, reduceCtorEq, reduceAdd, reduceEqDiff, reduceLeDiff, reduceLT]; (repeat intro (_ : _ ≤ lim))
  obtain ⟨r12, h_r12, h⟩ := bs h
  refine HC.view ?_
  simp only [gE, ↓gT, ↓reduceIte, reduceCtorEq, reduceAdd, reduceEqDiff, reduceLeDiff, reduceLT, cnT,]
  refine HCp.callE (K.strings_Join (s11, (⟨⟨[32]⟩⟩ : ByteArray)) r12 h_r12) (by simp only [gE, ↓gT, ↓reduceIte, reduceCtorEq, reduceAdd, reduceEqDiff, reduceLeDiff, reduceLT]) (by simp only [scT, esT, and_self, true_and, and_true]) (by simp only [scT, esT, and_self, true_and, and_true]) ?_
  try simp only [gE, ↓gT, ↓reduceIte, reduceCtorEq, reduceAdd, reduceEqDiff, reduceLeDiff, reduceLT]; (repeat intro (_ : _ ≤ lim))
  refine SemF.ret rfl ?_
  try simp only [gE, ↓gT, ↓reduceIte, reduceCtorEq, reduceAdd, reduceEqDiff, reduceLeDiff, reduceLT]; (repeat intro (_ : _ ≤ lim))
  obtain rfl := Option.some.inj h
  simp only [gE, ↓gT, ↓reduceIte, reduceCtorEq, reduceAdd, reduceEqDiff, reduceLeDiff, reduceLT, RetP_def]
theorem spec_l1New_L0 : ∀ (x : ((List Int) × Int × Int)) (out : Int), M.spec_l1New_L0 x = some out → ∀ Q : HExit → Env → St → Prop, (∀ env st sel, Weak 0 sel [(0, (.sl (List.map (HV.int .u8) x.1))), (3, (.int .i64 out))] [] env st → Q (.exit 0) env st) → SemL P H.spec_l1New.ntmps 0 H.spec_l1New_l5 [(0, (.sl (List.map (HV.int .u8) x.1))), (3, (.int .i64 x.2.1)), (4, (.int .i64 x.2.2))] [] Q := by
  refine M.spec_l1New_L0.partial_correctness (motive := fun x out => ∀ Q : HExit → Env → St → Prop, (∀ env st sel, Weak 0 sel [(0, (.sl (List.map (HV.int .u8) x.1))), (3, (.int .i64 out))] [] env st → Q (.exit 0) env st) → SemL P H.spec_l1New.ntmps 0 H.spec_l1New_l5 [(0, (.sl (List.map (HV.int .u8) x.1))), (3, (.int .i64 x.2.1)), (4, (.int .i64 x.2.2))] [] Q) ?_
  intro f_spec_l1New_L0 ih_spec_l1New_L0 x out h
  obtain ⟨p0, t3_L0, t4_L0⟩ := x
  try dsimp only at h
  intro Q hx
  refine SemL.round ?_
  try dsimp only at hx
  refine SemF.seq rfl ?_
  refine SemF.seq rfl ?_
  refine SemF.reg true rfl ?_
  try simp only [gE, ↓gT, ↓reduceIte, reduceCtorEq, reduceAdd, reduceEqDiff, reduceLeDiff, reduceLT]; (repeat intro (_ : _ ≤ lim))
  (repeat intro (_ : _ ≤ lim))
  by_cases hc4 : t4_L0 < ((p0.length : Nat) : Int)
  · rw [if_pos hc4] at h
    try simp only [gE, ↓gT, ↓reduceIte, reduceCtorEq, reduceAdd, reduceEqDiff, reduceLeDiff, reduceLT, eq_true hc4]; (repeat intro (_ : _ ≤ lim))
    by_cases hc5 : t4_L0 < 4000
    · rw [if_pos hc5] at h
      refine SemF.cond rfl ?_
      simp only [gE, ↓gT, ↓reduceIte, reduceCtorEq, reduceAdd, reduceEqDiff, reduceLeDiff, reduceLT, eq_true hc4, eq_true hc5]
      refine SemF.skip rfl ?_
      simp only [gE, ↓gT, ↓reduceIte, reduceCtorEq, reduceAdd, reduceEqDiff, reduceLeDiff, reduceLT, eq_true hc4, eq_true hc5]
      refine SemF.seq rfl ?_
      refine SemF.block rfl ?_
      refine SemF.reg true rfl ?_
      try simp only [gE, ↓gT, ↓reduceIte, reduceCtorEq, reduceAdd, reduceEqDiff, reduceLeDiff, reduceLT, eq_true hc4, eq_true hc5]; (repeat intro (_ : _ ≤ lim))
      obtain ⟨e6, h_e6, h⟩ := bs h
      have m_e6 := ixm (f := (HV.int .u8)) (ix_get h_e6)
      try simp only [gE, ↓gT, ↓reduceIte, reduceCtorEq, reduceAdd, reduceEqDiff, reduceLeDiff, reduceLT, eq_true hc4, eq_true hc5, eq_true (ix_nn h_e6), m_e6]; (repeat intro (_ : _ ≤ lim))
      refine SemF.reg true rfl ?_
      try simp only [gE, ↓gT, ↓reduceIte, reduceCtorEq, reduceAdd, reduceEqDiff, reduceLeDiff, reduceLT, eq_true hc4, eq_true hc5, eq_true (ix_nn h_e6), m_e6]; (repeat intro (_ : _ ≤ lim))
      refine SemL.weak (sel := []) ⟨by simp only [gE, ↓gT, ↓reduceIte, reduceCtorEq, reduceAdd, reduceEqDiff, reduceLeDiff, reduceLT, hwT, selS, erT, eq_true hc4, eq_true hc5, eq_true (ix_nn h_e6), m_e6], by decide, by decide, by simp only [gE, ↓gT, ↓reduceIte, reduceCtorEq, reduceAdd, reduceEqDiff, reduceLeDiff, reduceLT, hwT, selS, erT, subR, eq_true hc4, eq_true hc5, eq_true (ix_nn h_e6), m_e6], by simp only [gE, ↓gT, ↓reduceIte, reduceCtorEq, reduceAdd, reduceEqDiff, reduceLeDiff, reduceLT, hwT, selS, erT, scT, esT, eq_true hc4, eq_true hc5, eq_true (ix_nn h_e6), m_e6], by simp only [gE, ↓gT, ↓reduceIte, reduceCtorEq, reduceAdd, reduceEqDiff, reduceLeDiff, reduceLT, hwT, selS, erT, scT, esT, eq_true hc4, eq_true hc5, eq_true (ix_nn h_e6), m_e6]⟩ (ih_spec_l1New_L0 (p0, (andI IntKind.i64 (IntKind.i64.wrap ((IntKind.i64.wrap ((IntKind.i64.wrap (t3_L0 * 137)) + (IntKind.i64.wrap e6))) + 11)) 1073741823), (IntKind.i64.wrap (t4_L0 + 1))) out h Q hx)
    · rw [if_neg hc5] at h
      refine SemF.cond rfl ?_
      simp only [gE, ↓gT, ↓reduceIte, reduceCtorEq, reduceAdd, reduceEqDiff, reduceLeDiff, reduceLT, eq_true hc4, eq_false hc5]
      refine SemF.exit rfl ?_
      simp only [gE, ↓gT, ↓reduceIte, reduceCtorEq, reduceAdd, reduceEqDiff, reduceLeDiff, reduceLT, eq_true hc4, eq_false hc5]
      obtain rfl := Option.some.inj h
      refine hx _ _ [] ⟨by simp only [gE, ↓gT, ↓reduceIte, reduceCtorEq, reduceAdd, reduceEqDiff, reduceLeDiff, reduceLT, hwT, selS, erT, eq_true hc4, eq_false hc5], by decide, by decide, by simp only [gE, ↓gT, ↓reduceIte, reduceCtorEq, reduceAdd, reduceEqDiff, reduceLeDiff, reduceLT, hwT, selS, erT, subR, eq_true hc4, eq_false hc5], by simp only [gE, ↓gT, ↓reduceIte, reduceCtorEq, reduceAdd, reduceEqDiff, reduceLeDiff, reduceLT, hwT, selS, erT, scT, esT, eq_true hc4, eq_false hc5], by simp only [gE, ↓gT, ↓reduceIte, reduceCtorEq, reduceAdd, reduceEqDiff, reduceLeDiff, reduceLT, hwT, selS, erT, scT, esT, eq_true hc4, eq_false hc5]⟩
  · rw [if_neg hc4] at h
    try simp only [gE, ↓gT, ↓reduceIte, reduceCtorEq, reduceAdd, reduceEqDiff, reduceLeDiff, reduceLT, eq_false hc4]; (repeat intro (_ : _ ≤ lim))
    refine SemF.cond rfl ?_
    simp only [gE, ↓gT, ↓reduceIte, reduceCtorEq, reduceAdd, reduceEqDiff, reduceLeDiff, reduceLT, eq_false hc4]
    refine SemF.exit rfl ?_
    simp only [gE, ↓gT, ↓reduceIte, reduceCtorEq, reduceAdd, reduceEqDiff, reduceLeDiff, reduceLT, eq_false hc4]
    obtain rfl := Option.some.inj h
    refine hx _ _ [] ⟨by simp only [gE, ↓gT, ↓reduceIte, reduceCtorEq, reduceAdd, reduceEqDiff, reduceLeDiff, reduceLT, hwT, selS, erT, eq_false hc4], by decide, by decide, by simp only [gE, ↓gT, ↓reduceIte, reduceCtorEq, reduceAdd, reduceEqDiff, reduceLeDiff, reduceLT, hwT, selS, erT, subR, eq_false hc4], by simp only [gE, ↓gT, ↓reduceIte, reduceCtorEq, reduceAdd, reduceEqDiff, reduceLeDiff, reduceLT, hwT, selS, erT, scT, esT, eq_false hc4], by simp only [gE, ↓gT, ↓reduceIte, reduceCtorEq, reduceAdd, reduceEqDiff, reduceLeDiff, reduceLT, hwT, selS, erT, scT, esT, eq_false hc4]⟩
theorem spec_l1New : ∀ (x : (List Int)) (r : spec_l1Cur), M.spec_l1New x = some r → HC P F.spec_l1New [(.sl (List.map (HV.int .u8) x))] [] (fun r_ s_ => r_ = (HV.ptr 0 1 0 0) ∧ s_ = [(.box (spec_l1Cur.enc r))]) := by
  intro x r h
  revert h; revert x; intro p0 h
  unfold M.spec_l1New at h
  try dsimp only at h
  refine HC.mkB S.spec_l1New (by simp [H.spec_l1New]) ?_
  simp only [gE, ↓gT, ↓reduceIte, reduceCtorEq, reduceAdd, reduceEqDiff, reduceLeDiff, reduceLT, H.spec_l1New]
  refine SemF.seq rfl ?_
  refine SemF.reg true rfl ?_
  try simp only [gE, ↓gT, ↓reduceIte, reduceCtorEq, reduceAdd, reduceEqDiff, reduceLeDiff, reduceLT]; (repeat intro (_ : _ ≤ lim))
  refine SemF.seq rfl ?_
  refine SemF.reg true rfl ?_
  try simp only [gE, ↓gT, ↓reduceIte, reduceCtorEq, reduceAdd, reduceEqDiff, reduceLeDiff, reduceLT]; (repeat intro (_ : _ ≤ lim))
  (repeat intro (_ : _ ≤ lim))
  refine SemF.seq rfl ?_
  refine SemF.seq rfl ?_
  refine SemF.reg true rfl ?_
  try simp only [gE, ↓gT, ↓reduceIte, reduceCtorEq, reduceAdd, reduceEqDiff, reduceLeDiff, reduceLT]; (repeat intro (_ : _ ≤ lim))
  refine SemF.block rfl ?_
  obtain ⟨s7, h_s7, h⟩ := bs h
  refine SemF.loop rfl ?_
  refine SemL.weak (sel := []) ⟨by simp only [gE, ↓gT, ↓reduceIte, reduceCtorEq, reduceAdd, reduceEqDiff, reduceLeDiff, reduceLT, hwT, selS, erT], by decide, by decide, by simp only [gE, ↓gT, ↓reduceIte, reduceCtorEq, reduceAdd, reduceEqDiff, reduceLeDiff, reduceLT, hwT, selS, erT, subR], by simp only [gE, ↓gT, ↓reduceIte, reduceCtorEq, reduceAdd, reduceEqDiff, reduceLeDiff, reduceLT, hwT, selS, erT, scT, esT], by simp only [gE, ↓gT, ↓reduceIte, reduceCtorEq, reduceAdd, reduceEqDiff, reduceLeDiff, reduceLT, hwT, selS, erT, scT, esT]⟩ (K.spec_l1New_L0 (p0, (IntKind.i64.wrap (945945 + ((p0.length : Nat) : Int))), 0) s7 h_s7 _ ?_)
  intro env st sel hw
  simp only [gE, ↓gT, ↓reduceIte, reduceCtorEq, reduceAdd, reduceEqDiff, reduceLeDiff, reduceLT]
  first | refine SemF.weak hw ?_ | refine SemL.weak hw ?_
  refine SemF.seq rfl ?_
  refine SemF.reg true rfl ?_
  try simp only [gE, ↓gT, ↓reduceIte, reduceCtorEq, reduceAdd, reduceEqDiff, reduceLeDiff, reduceLT]; (repeat intro (_ : _ ≤ lim))
  refine SemF.ret rfl ?_
  try simp only [gE, ↓gT, ↓reduceIte, reduceCtorEq, reduceAdd, reduceEqDiff, reduceLeDiff, reduceLT]; (repeat intro (_ : _ ≤ lim))
  obtain rfl := Option.some.inj h
  simp only [gE, ↓gT, ↓reduceIte, reduceCtorEq, reduceAdd, reduceEqDiff, reduceLeDiff, reduceLT, RetB_def]
  exact ⟨[0], by simp only [gE, ↓gT, ↓reduceIte, reduceCtorEq, reduceAdd, reduceEqDiff, reduceLeDiff, reduceLT, hwT, selS, erT], by simp only [gE, ↓gT, ↓reduceIte, reduceCtorEq, reduceAdd, reduceEqDiff, reduceLeDiff, reduceLT, hwT, selS, erT], by decide, by decide, by simp only [gE, ↓gT, ↓reduceIte, reduceCtorEq, reduceAdd, reduceEqDiff, reduceLeDiff, reduceLT, hwT, selS, erT, scT, esT], by simp only [gE, ↓gT, ↓reduceIte, reduceCtorEq, reduceAdd, reduceEqDiff, reduceLeDiff, reduceLT, hwT, selS, erT, scT, esT]⟩
end K
end W
