import Derived.Test.YtnhdobhfebiggaaXPrf2
namespace W
set_option linter.unusedSimpArgs false
set_option linter.unusedVariables false
open Go HL S
open Nat (reduceAdd reduceEqDiff reduceLeDiff reduceSub reduceMul reduceLT)
set_option linter.unusedVariables false
set_option maxRecDepth 100000
set_option maxHeartbeats 4000000
namespace K
theorem impl_Lex_L0 : ∀ (x : (ByteArray × (List Tok) × Int × Int × Int)) (out : (Sum ((List Tok) × Bool) ((List Tok) × Int × Int × Int))), M.impl_Lex_L0 x = some out → ∀ Q : HExit → Env → St → Prop, (∀ v, out = .inr v → ∀ env st sel, Weak 0 sel [(4, (.own 0 v.1.length)), (5, (.int .i64 v.2.1)), (6, (.int .i64 v.2.2.1)), (7, (.int .i64 v.2.2.2))] [(.arr 4 (List.map Tok.enc v.1) true)] env st → Q (.exit 0) env st) → (∀ r, out = .inl r → ∀ env st, RetM 0 [some 4, none] [(2, none), (3, none)] (HV.tup [(HV.own 0 r.1.length), (HV.bool r.2)]) [(.arr 4 (List.map Tok.enc r.1) true)] env st → Q .ret env st) → SemL P H.impl_Lex.ntmps 0 H.impl_Lex_l10 [(0, (.str x.1)), (4, (.own 0 x.2.1.length)), (5, (.int .i64 x.2.2.1)), (6, (.int .i64 x.2.2.2.1)), (7, (.int .i64 x.2.2.2.2))] [(.arr 4 (List.map Tok.enc x.2.1) true)] Q := by
  refine M.impl_Lex_L0.partial_correctness (motive := fun x out => ∀ Q : HExit → Env → St → Prop, (∀ v, out = .inr v → ∀ env st sel, Weak 0 sel [(4, (.own 0 v.1.length)), (5, (.int .i64 v.2.1)), (6, (.int .i64 v.2.2.1)), (7, (.int .i64 v.2.2.2))] [(.arr 4 (List.map Tok.enc v.1) true)] env st → Q (.exit 0) env st) → (∀ r, out = .inl r → ∀ env st, RetM 0 [some 4, none] [(2, none), (3, none)] (HV.tup [(HV.own 0 r.1.length), (HV.bool r.2)]) [(.arr 4 (List.map Tok.enc r.1) true)] env st → Q .ret env st) → SemL P H.impl_Lex.ntmps 0 H.impl_Lex_l10 [(0, (.str x.1)), (4, (.own 0 x.2.1.length)), (5, (.int .i64 x.2.2.1)), (6, (.int .i64 x.2.2.2.1)), (7, (.int .i64 x.2.2.2.2))] [(.arr 4 (List.map Tok.enc x.2.1) true)] Q) ?_
  intro f_impl_Lex_L0 ih_impl_Lex_L0 x out h
  obtain ⟨p0, t4_L0, t5_L0, t6_L0, t7_L0⟩ := x
  try dsimp only at h
  intro Q hx hr
  refine SemL.round ?_
  try dsimp only at hx
  refine SemF.seq rfl ?_
  refine SemF.seq rfl ?_
  refine SemF.reg true rfl ?_
  try simp only [gE, ↓gT, ↓reduceIte, reduceCtorEq, reduceAdd, reduceEqDiff, reduceLeDiff, reduceLT]; (repeat intro (_ : _ ≤ lim))
  (repeat intro (_ : _ ≤ lim))
  by_cases hc17 : t7_L0 < ((p0.size : Nat) : Int)
  · rw [if_pos hc17] at h
    refine SemF.cond rfl ?_
    simp only [gE, ↓gT, ↓reduceIte, reduceCtorEq, reduceAdd, reduceEqDiff, reduceLeDiff, reduceLT, eq_true hc17]
    refine SemF.skip rfl ?_
    simp only [gE, ↓gT, ↓reduceIte, reduceCtorEq, reduceAdd, reduceEqDiff, reduceLeDiff, reduceLT, eq_true hc17]
    refine SemF.block rfl ?_
    refine SemF.seq rfl ?_
    refine SemF.seq rfl ?_
    refine SemF.reg true rfl ?_
    try simp only [gE, ↓gT, ↓reduceIte, reduceCtorEq, reduceAdd, reduceEqDiff, reduceLeDiff, reduceLT, eq_true hc17]; (repeat intro (_ : _ ≤ lim))
    obtain ⟨u19, h_u19, h⟩ := bs h
    have hg18 := gd_some h_u19
    try simp only [gE, ↓gT, ↓reduceIte, reduceCtorEq, reduceAdd, reduceEqDiff, reduceLeDiff, reduceLT, eq_true hc17, eq_true hg18]; (repeat intro (_ : _ ≤ lim))
    obtain ⟨u21, h_u21, h⟩ := bs h
    have hg20 := gd_some h_u21
    try simp only [gE, ↓gT, ↓reduceIte, reduceCtorEq, reduceAdd, reduceEqDiff, reduceLeDiff, reduceLT, eq_true hc17, eq_true hg18, eq_true hg20]; (repeat intro (_ : _ ≤ lim))
    obtain ⟨u23, h_u23, h⟩ := bs h
    have hg22 := gd_some h_u23
    try simp only [gE, ↓gT, ↓reduceIte, reduceCtorEq, reduceAdd, reduceEqDiff, reduceLeDiff, reduceLT, eq_true hc17, eq_true hg18, eq_true hg20, eq_true hg22]; (repeat intro (_ : _ ≤ lim))
    obtain ⟨r24, h_r24, h⟩ := bs h
    refine HCp.callE (K.impl_passed (p0.extract t7_L0.toNat ((p0.size : Nat) : Int).toNat) r24 h_r24) (by simp only [gE, ↓gT, ↓reduceIte, reduceCtorEq, reduceAdd, reduceEqDiff, reduceLeDiff, reduceLT, eq_true hc17, eq_true hg18, eq_true hg20, eq_true hg22]) (by simp only [scT, esT, and_self, true_and, and_true]) (by simp only [scT, esT, and_self, true_and, and_true]) ?_
    try simp only [gE, ↓gT, ↓reduceIte, reduceCtorEq, reduceAdd, reduceEqDiff, reduceLeDiff, reduceLT, eq_true hc17, eq_true hg18, eq_true hg20, eq_true hg22]; (repeat intro (_ : _ ≤ lim))
    refine SemF.seq rfl ?_
    refine SemF.reg true rfl ?_
    try simp only [gE, ↓gT, ↓reduceIte, reduceCtorEq, reduceAdd, reduceEqDiff, reduceLeDiff, reduceLT, eq_true hc17, eq_true hg18, eq_true hg20, eq_true hg22]; (repeat intro (_ : _ ≤ lim))
    by_cases hc25 : 0 < r24
    · rw [if_pos hc25] at h
      refine SemF.cond rfl ?_
      simp only [gE, ↓gT, ↓reduceIte, reduceCtorEq, reduceAdd, reduceEqDiff, reduceLeDiff, reduceLT, eq_true hc17, eq_true hg18, eq_true hg20, eq_true hg22, eq_true hc25]
      refine SemF.seq rfl ?_
      refine SemF.seq rfl ?_
      refine SemF.reg true rfl ?_
      try simp only [gE, ↓gT, ↓reduceIte, reduceCtorEq, reduceAdd, reduceEqDiff, reduceLeDiff, reduceLT, eq_true hc17, eq_true hg18, eq_true hg20, eq_true hg22, eq_true hc25]; (repeat intro (_ : _ ≤ lim))
      obtain ⟨c26, h_c26, h⟩ := bs h
      obtain ⟨c_c26, m_c26, v_c26⟩ := bx_get h_c26
      try simp only [gE, ↓gT, ↓reduceIte, reduceCtorEq, reduceAdd, reduceEqDiff, reduceLeDiff, reduceLT, eq_true hc17, eq_true hg18, eq_true hg20, eq_true hg22, eq_true hc25, eq_true (bx_nn h_c26), m_c26, v_c26]; (repeat intro (_ : _ ≤ lim))
      by_cases hc27 : c26 = 10
      · rw [if_pos hc27] at h
        refine SemF.cond rfl ?_
        simp only [gE, ↓gT, ↓reduceIte, reduceCtorEq, reduceAdd, reduceEqDiff, reduceLeDiff, reduceLT, eq_true hc17, eq_true hg18, eq_true hg20, eq_true hg22, eq_true hc25, eq_true (bx_nn h_c26), m_c26, v_c26, eq_true hc27]
        refine SemF.seq rfl ?_
        refine SemF.reg true rfl ?_
        try simp only [gE, ↓gT, ↓reduceIte, reduceCtorEq, reduceAdd, reduceEqDiff, reduceLeDiff, reduceLT, eq_true hc17, eq_true hg18, eq_true hg20, eq_true hg22, eq_true hc25, eq_true (bx_nn h_c26), m_c26, v_c26, eq_true hc27]; (repeat intro (_ : _ ≤ lim))
        refine SemF.reg true rfl ?_
        try simp only [gE, ↓gT, ↓reduceIte, reduceCtorEq, reduceAdd, reduceEqDiff, reduceLeDiff, reduceLT, eq_true hc17, eq_true hg18, eq_true hg20, eq_true hg22, eq_true hc25, eq_true (bx_nn h_c26), m_c26, v_c26, eq_true hc27]; (repeat intro (_ : _ ≤ lim))
        refine SemF.seq rfl ?_
        refine SemF.reg true rfl ?_
        try simp only [gE, ↓gT, ↓reduceIte, reduceCtorEq, reduceAdd, reduceEqDiff, reduceLeDiff, reduceLT, eq_true hc17, eq_true hg18, eq_true hg20, eq_true hg22, eq_true hc25, eq_true (bx_nn h_c26), m_c26, v_c26, eq_true hc27]; (repeat intro (_ : _ ≤ lim))
        refine SemF.exit rfl ?_
        simp only [gE, ↓gT, ↓reduceIte, reduceCtorEq, reduceAdd, reduceEqDiff, reduceLeDiff, reduceLT, eq_true hc17, eq_true hg18, eq_true hg20, eq_true hg22, eq_true hc25, eq_true (bx_nn h_c26), m_c26, v_c26, eq_true hc27]
        refine SemL.weak (sel := [0]) ⟨by simp only [gE, ↓gT, ↓reduceIte, reduceCtorEq, reduceAdd, reduceEqDiff, reduceLeDiff, reduceLT, hwT, selS, erT, eq_true hc17, eq_true hg18, eq_true hg20, eq_true hg22, eq_true hc25, eq_true (bx_nn h_c26), m_c26, v_c26, eq_true hc27], by decide, by decide, by simp only [gE, ↓gT, ↓reduceIte, reduceCtorEq, reduceAdd, reduceEqDiff, reduceLeDiff, reduceLT, hwT, selS, erT, subR, eq_true hc17, eq_true hg18, eq_true hg20, eq_true hg22, eq_true hc25, eq_true (bx_nn h_c26), m_c26, v_c26, eq_true hc27], by simp only [gE, ↓gT, ↓reduceIte, reduceCtorEq, reduceAdd, reduceEqDiff, reduceLeDiff, reduceLT, hwT, selS, erT, scT, esT, eq_true hc17, eq_true hg18, eq_true hg20, eq_true hg22, eq_true hc25, eq_true (bx_nn h_c26), m_c26, v_c26, eq_true hc27], by simp only [gE, ↓gT, ↓reduceIte, reduceCtorEq, reduceAdd, reduceEqDiff, reduceLeDiff, reduceLT, hwT, selS, erT, scT, esT, eq_true hc17, eq_true hg18, eq_true hg20, eq_true hg22, eq_true hc25, eq_true (bx_nn h_c26), m_c26, v_c26, eq_true hc27]⟩ (ih_impl_Lex_L0 (p0, t4_L0, (IntKind.i64.wrap (t5_L0 + 1)), (IntKind.i64.wrap (t7_L0 + 1)), (IntKind.i64.wrap (t7_L0 + r24))) out h Q hx hr)
      · rw [if_neg hc27] at h
        refine SemF.cond rfl ?_
        simp only [gE, ↓gT, ↓reduceIte, reduceCtorEq, reduceAdd, reduceEqDiff, reduceLeDiff, reduceLT, eq_true hc17, eq_true hg18, eq_true hg20, eq_true hg22, eq_true hc25, eq_true (bx_nn h_c26), m_c26, v_c26, eq_false hc27]
        refine SemF.skip rfl ?_
        simp only [gE, ↓gT, ↓reduceIte, reduceCtorEq, reduceAdd, reduceEqDiff, reduceLeDiff, reduceLT, eq_true hc17, eq_true hg18, eq_true hg20, eq_true hg22, eq_true hc25, eq_true (bx_nn h_c26), m_c26, v_c26, eq_false hc27]
        refine SemF.seq rfl ?_
        refine SemF.reg true rfl ?_
        try simp only [gE, ↓gT, ↓reduceIte, reduceCtorEq, reduceAdd, reduceEqDiff, reduceLeDiff, reduceLT, eq_true hc17, eq_true hg18, eq_true hg20, eq_true hg22, eq_true hc25, eq_true (bx_nn h_c26), m_c26, v_c26, eq_false hc27]; (repeat intro (_ : _ ≤ lim))
        refine SemF.exit rfl ?_
        simp only [gE, ↓gT, ↓reduceIte, reduceCtorEq, reduceAdd, reduceEqDiff, reduceLeDiff, reduceLT, eq_true hc17, eq_true hg18, eq_true hg20, eq_true hg22, eq_true hc25, eq_true (bx_nn h_c26), m_c26, v_c26, eq_false hc27]
        refine SemL.weak (sel := [0]) ⟨by simp only [gE, ↓gT, ↓reduceIte, reduceCtorEq, reduceAdd, reduceEqDiff, reduceLeDiff, reduceLT, hwT, selS, erT, eq_true hc17, eq_true hg18, eq_true hg20, eq_true hg22, eq_true hc25, eq_true (bx_nn h_c26), m_c26, v_c26, eq_false hc27], by decide, by decide, by simp only [gE, ↓gT, ↓reduceIte, reduceCtorEq, reduceAdd, reduceEqDiff, reduceLeDiff, reduceLT, hwT, selS, erT, subR, eq_true hc17, eq_true hg18, eq_true hg20, eq_true hg22, eq_true hc25, eq_true (bx_nn h_c26), m_c26, v_c26, eq_false hc27], by simp only [gE, ↓gT, ↓reduceIte, reduceCtorEq, reduceAdd, reduceEqDiff, reduceLeDiff, reduceLT, hwT, selS, erT, scT, esT, eq_true hc17, eq_true hg18, eq_true hg20, eq_true hg22, eq_true hc25, eq_true (bx_nn h_c26), m_c26, v_c26, eq_false hc27], by simp only [gE, ↓gT, ↓reduceIte, reduceCtorEq, reduceAdd, reduceEqDiff, reduceLeDiff, reduceLT, hwT, selS, erT, scT, esT, eq_true hc17, eq_true hg18, eq_true hg20, eq_true hg22, eq_true hc25, eq_true (bx_nn h_c26), m_c26, v_c26, eq_false hc27]⟩ (ih_impl_Lex_L0 (p0, t4_L0, t5_L0, t6_L0, (IntKind.i64.wrap (t7_L0 + r24))) out h Q hx hr)
    · rw [if_neg hc25] at h
      refine SemF.cond rfl ?_
      simp only [gE, ↓gT, ↓reduceIte, reduceCtorEq, reduceAdd, reduceEqDiff, reduceLeDiff, reduceLT, eq_true hc17, eq_true hg18, eq_true hg20, eq_true hg22, eq_false hc25]
      refine SemF.skip rfl ?_
      simp only [gE, ↓gT, ↓reduceIte, reduceCtorEq, reduceAdd, reduceEqDiff, reduceLeDiff, reduceLT, eq_true hc17, eq_true hg18, eq_true hg20, eq_true hg22, eq_false hc25]
      refine SemF.seq rfl ?_
      refine SemF.reg true rfl ?_
      try simp only [gE, ↓gT, ↓reduceIte, reduceCtorEq, reduceAdd, reduceEqDiff, reduceLeDiff, reduceLT, eq_true hc17, eq_true hg18, eq_true hg20, eq_true hg22, eq_false hc25]; (repeat intro (_ : _ ≤ lim))
      obtain ⟨r28, h_r28, h⟩ := bs h
      refine HCp.callE (K.impl_nextTok (p0.extract t7_L0.toNat ((p0.size : Nat) : Int).toNat) r28 h_r28) (by simp only [gE, ↓gT, ↓reduceIte, reduceCtorEq, reduceAdd, reduceEqDiff, reduceLeDiff, reduceLT, eq_true hc17, eq_true hg18, eq_true hg20, eq_true hg22, eq_false hc25]) (by simp only [scT, esT, and_self, true_and, and_true]) (by simp only [scT, esT, and_self, true_and, and_true]) ?_
      try simp only [gE, ↓gT, ↓reduceIte, reduceCtorEq, reduceAdd, reduceEqDiff, reduceLeDiff, reduceLT, eq_true hc17, eq_true hg18, eq_true hg20, eq_true hg22, eq_false hc25]; (repeat intro (_ : _ ≤ lim))
      refine SemF.seq rfl ?_
      refine SemF.seq rfl ?_
      refine SemF.reg true rfl ?_
      try simp only [gE, ↓gT, ↓reduceIte, reduceCtorEq, reduceAdd, reduceEqDiff, reduceLeDiff, reduceLT, eq_true hc17, eq_true hg18, eq_true hg20, eq_true hg22, eq_false hc25]; (repeat intro (_ : _ ≤ lim))
      by_cases hc29 : r28.2 = true
      · rw [if_pos hc29] at h
        refine SemF.cond rfl ?_
        simp only [gE, ↓gT, ↓reduceIte, reduceCtorEq, reduceAdd, reduceEqDiff, reduceLeDiff, reduceLT, eq_true hc17, eq_true hg18, eq_true hg20, eq_true hg22, eq_false hc25, hc29]
        refine SemF.skip rfl ?_
        simp only [gE, ↓gT, ↓reduceIte, reduceCtorEq, reduceAdd, reduceEqDiff, reduceLeDiff, reduceLT, eq_true hc17, eq_true hg18, eq_true hg20, eq_true hg22, eq_false hc25, hc29]
        refine SemF.seq rfl ?_
        refine SemF.reg true rfl ?_
        try simp only [gE, ↓gT, ↓reduceIte, reduceCtorEq, reduceAdd, reduceEqDiff, reduceLeDiff, reduceLT, eq_true hc17, eq_true hg18, eq_true hg20, eq_true hg22, eq_false hc25, hc29]; (repeat intro (_ : _ ≤ lim))
        refine SemF.seq rfl ?_
        refine SemF.reg true rfl ?_
        try simp only [gE, ↓gT, ↓reduceIte, reduceCtorEq, reduceAdd, reduceEqDiff, reduceLeDiff, reduceLT, eq_true hc17, eq_true hg18, eq_true hg20, eq_true hg22, eq_false hc25, hc29]; (repeat intro (_ : _ ≤ lim))
        obtain ⟨u31, h_u31, h⟩ := bs h
        have hg30 := gd_some h_u31
        try simp only [gE, ↓gT, ↓reduceIte, reduceCtorEq, reduceAdd, reduceEqDiff, reduceLeDiff, reduceLT, eq_true hc17, eq_true hg18, eq_true hg20, eq_true hg22, eq_false hc25, hc29, eq_true hg30]; (repeat intro (_ : _ ≤ lim))
        refine SemF.reg true rfl ?_
        try simp only [gE, ↓gT, ↓reduceIte, reduceCtorEq, reduceAdd, reduceEqDiff, reduceLeDiff, reduceLT, eq_true hc17, eq_true hg18, eq_true hg20, eq_true hg22, eq_false hc25, hc29, eq_true hg30]; (repeat intro (_ : _ ≤ lim))
        (repeat intro (_ : _ ≤ lim))
        refine SemL.weak (sel := [0]) ⟨by simp only [gE, ↓gT, ↓reduceIte, reduceCtorEq, reduceAdd, reduceEqDiff, reduceLeDiff, reduceLT, hwT, selS, erT, eq_true hc17, eq_true hg18, eq_true hg20, eq_true hg22, eq_false hc25, hc29, eq_true hg30], by decide, by decide, by simp only [gE, ↓gT, ↓reduceIte, reduceCtorEq, reduceAdd, reduceEqDiff, reduceLeDiff, reduceLT, hwT, selS, erT, subR, eq_true hc17, eq_true hg18, eq_true hg20, eq_true hg22, eq_false hc25, hc29, eq_true hg30], by simp only [gE, ↓gT, ↓reduceIte, reduceCtorEq, reduceAdd, reduceEqDiff, reduceLeDiff, reduceLT, hwT, selS, erT, scT, esT, eq_true hc17, eq_true hg18, eq_true hg20, eq_true hg22, eq_false hc25, hc29, eq_true hg30], by simp only [gE, ↓gT, ↓reduceIte, reduceCtorEq, reduceAdd, reduceEqDiff, reduceLeDiff, reduceLT, hwT, selS, erT, scT, esT, eq_true hc17, eq_true hg18, eq_true hg20, eq_true hg22, eq_false hc25, hc29, eq_true hg30]⟩ (ih_impl_Lex_L0 (p0, (t4_L0 ++ [(Tok.mk r28.1.K r28.1.S t5_L0 (IntKind.i64.wrap ((IntKind.i64.wrap (t7_L0 - t6_L0)) + 1)))]), t5_L0, t6_L0, (IntKind.i64.wrap (t7_L0 + ((r28.1.S.size : Nat) : Int)))) out h Q hx hr)
      · rw [if_neg hc29] at h
        replace hc29 := eq_false_of_ne_true hc29
        refine SemF.cond rfl ?_
        simp only [gE, ↓gT, ↓reduceIte, reduceCtorEq, reduceAdd, reduceEqDiff, reduceLeDiff, reduceLT, eq_true hc17, eq_true hg18, eq_true hg20, eq_true hg22, eq_false hc25, hc29]
        refine SemF.seq rfl ?_
        refine SemF.reg true rfl ?_
        try simp only [gE, ↓gT, ↓reduceIte, reduceCtorEq, reduceAdd, reduceEqDiff, reduceLeDiff, reduceLT, eq_true hc17, eq_true hg18, eq_true hg20, eq_true hg22, eq_false hc25, hc29]; (repeat intro (_ : _ ≤ lim))
        refine SemF.ret rfl ?_
        try simp only [gE, ↓gT, ↓reduceIte, reduceCtorEq, reduceAdd, reduceEqDiff, reduceLeDiff, reduceLT, eq_true hc17, eq_true hg18, eq_true hg20, eq_true hg22, eq_false hc25, hc29]; (repeat intro (_ : _ ≤ lim))
        obtain rfl := Option.some.inj h
        refine hr _ rfl _ _ ?_
        simp only [gE, ↓gT, ↓reduceIte, reduceCtorEq, reduceAdd, reduceEqDiff, reduceLeDiff, reduceLT, RetM_def, eq_true hc17, eq_true hg18, eq_true hg20, eq_true hg22, eq_false hc25, hc29]
        exact ⟨[2], by simp only [gE, ↓gT, ↓reduceIte, reduceCtorEq, reduceAdd, reduceEqDiff, reduceLeDiff, reduceLT, hwT, selS, erT, eq_true hc17, eq_true hg18, eq_true hg20, eq_true hg22, eq_false hc25, hc29], by simp only [gE, ↓gT, ↓reduceIte, reduceCtorEq, reduceAdd, reduceEqDiff, reduceLeDiff, reduceLT, hwT, selS, erT, eq_true hc17, eq_true hg18, eq_true hg20, eq_true hg22, eq_false hc25, hc29], by decide, by decide, by simp only [gE, ↓gT, ↓reduceIte, reduceCtorEq, reduceAdd, reduceEqDiff, reduceLeDiff, reduceLT, hwT, selS, erT, scT, esT], by simp only [gE, ↓gT, ↓reduceIte, reduceCtorEq, reduceAdd, reduceEqDiff, reduceLeDiff, reduceLT, hwT, selS, erT, scT, esT]⟩
  · rw [if_neg hc17] at h
    refine SemF.cond rfl ?_
    simp only [gE, ↓gT, ↓reduceIte, reduceCtorEq, reduceAdd, reduceEqDiff, reduceLeDiff, reduceLT, eq_false hc17]
    refine SemF.exit rfl ?_
    simp only [gE, ↓gT, ↓reduceIte, reduceCtorEq, reduceAdd, reduceEqDiff, reduceLeDiff, reduceLT, eq_false hc17]
    obtain rfl := Option.some.inj h
    refine hx _ rfl _ _ [0] ⟨by simp only [gE, ↓gT, ↓reduceIte, reduceCtorEq, reduceAdd, reduceEqDiff, reduceLeDiff, reduceLT, hwT, selS, erT, eq_false hc17], by decide, by decide, by simp only [gE, ↓gT, ↓reduceIte, reduceCtorEq, reduceAdd, reduceEqDiff, reduceLeDiff, reduceLT, hwT, selS, erT, subR, eq_false hc17], by simp only [gE, ↓gT, ↓reduceIte, reduceCtorEq, reduceAdd, reduceEqDiff, reduceLeDiff, reduceLT, hwT, selS, erT, scT, esT, eq_false hc17], by simp only [gE, ↓gT, ↓reduceIte, reduceCtorEq, reduceAdd, reduceEqDiff, reduceLeDiff, reduceLT, hwT, selS, erT, scT, esT, eq_false hc17]⟩
theorem impl_Lex : ∀ (x : ByteArray) (r : ((List Tok) × Bool)), M.impl_Lex x = some r → HC P F.impl_Lex [(.str x)] [] (fun r_ s_ => r_ = (HV.tup [(HV.own 0 r.1.length), (HV.bool r.2)]) ∧ s_ = [(.arr 4 (List.map Tok.enc r.1) true)]) := by
  intro x r h
  revert h; revert x; intro p0 h
  unfold M.impl_Lex at h
  try dsimp only at h
  refine HC.mkM [some 4, none] S.impl_Lex (by simp [H.impl_Lex]) ?_
  simp only [gE, ↓gT, ↓reduceIte, reduceCtorEq, reduceAdd, reduceEqDiff, reduceLeDiff, reduceLT, H.impl_Lex]
  refine SemF.seq rfl ?_
  refine SemF.reg true rfl ?_
  try simp only [gE, ↓gT, ↓reduceIte, reduceCtorEq, reduceAdd, reduceEqDiff, reduceLeDiff, reduceLT]; (repeat intro (_ : _ ≤ lim))
  refine SemF.seq rfl ?_
  refine SemF.seq rfl ?_
  refine SemF.reg true rfl ?_
  try simp only [gE, ↓gT, ↓reduceIte, reduceCtorEq, reduceAdd, reduceEqDiff, reduceLeDiff, reduceLT]; (repeat intro (_ : _ ≤ lim))
  (repeat intro (_ : _ ≤ lim))
  by_cases hc1 : 1500 < ((p0.size : Nat) : Int)
  · rw [if_pos hc1] at h
    refine SemF.cond rfl ?_
    simp only [gE, ↓gT, ↓reduceIte, reduceCtorEq, reduceAdd, reduceEqDiff, reduceLeDiff, reduceLT, eq_true hc1]
    refine SemF.seq rfl ?_
    refine SemF.reg true rfl ?_
    try simp only [gE, ↓gT, ↓reduceIte, reduceCtorEq, reduceAdd, reduceEqDiff, reduceLeDiff, reduceLT, eq_true hc1]; (repeat intro (_ : _ ≤ lim))
    refine SemF.ret rfl ?_
    try simp only [gE, ↓gT, ↓reduceIte, reduceCtorEq, reduceAdd, reduceEqDiff, reduceLeDiff, reduceLT, eq_true hc1]; (repeat intro (_ : _ ≤ lim))
    obtain rfl := Option.some.inj h
    simp only [gE, ↓gT, ↓reduceIte, reduceCtorEq, reduceAdd, reduceEqDiff, reduceLeDiff, reduceLT, RetM_def, eq_true hc1]
    exact ⟨[0], by simp only [gE, ↓gT, ↓reduceIte, reduceCtorEq, reduceAdd, reduceEqDiff, reduceLeDiff, reduceLT, hwT, selS, erT, eq_true hc1], by simp only [gE, ↓gT, ↓reduceIte, reduceCtorEq, reduceAdd, reduceEqDiff, reduceLeDiff, reduceLT, hwT, selS, erT, eq_true hc1], by decide, by decide, by simp only [gE, ↓gT, ↓reduceIte, reduceCtorEq, reduceAdd, reduceEqDiff, reduceLeDiff, reduceLT, hwT, selS, erT, scT, esT], by simp only [gE, ↓gT, ↓reduceIte, reduceCtorEq, reduceAdd, reduceEqDiff, reduceLeDiff, reduceLT, hwT, selS, erT, scT, esT]⟩
  · rw [if_neg hc1] at h
    refine SemF.cond rfl ?_
    simp only [gE, ↓gT, ↓reduceIte, reduceCtorEq, reduceAdd, reduceEqDiff, reduceLeDiff, reduceLT, eq_false hc1]
    refine SemF.skip rfl ?_
    simp only [gE, ↓gT, ↓reduceIte, reduceCtorEq, reduceAdd, reduceEqDiff, reduceLeDiff, reduceLT, eq_false hc1]
    refine SemF.seq rfl ?_
    refine SemF.reg true rfl ?_
    try simp only [gE, ↓gT, ↓reduceIte, reduceCtorEq, reduceAdd, reduceEqDiff, reduceLeDiff, reduceLT, eq_false hc1]; (repeat intro (_ : _ ≤ lim))
    refine SemF.seq rfl ?_
    refine SemF.reg true rfl ?_
    try simp only [gE, ↓gT, ↓reduceIte, reduceCtorEq, reduceAdd, reduceEqDiff, reduceLeDiff, reduceLT, eq_false hc1]; (repeat intro (_ : _ ≤ lim))
    refine SemF.seq rfl ?_
    refine SemF.block rfl ?_
    obtain ⟨s32, h_s32, h⟩ := bs h
    rcases s32 with r33 | v34
    · dsimp only at h
      refine SemF.loop rfl ?_
      refine SemL.weak (sel := [0]) ⟨by simp only [gE, ↓gT, ↓reduceIte, reduceCtorEq, reduceAdd, reduceEqDiff, reduceLeDiff, reduceLT, hwT, selS, erT, eq_false hc1], by decide, by decide, by simp only [gE, ↓gT, ↓reduceIte, reduceCtorEq, reduceAdd, reduceEqDiff, reduceLeDiff, reduceLT, hwT, selS, erT, subR, eq_false hc1], by simp only [gE, ↓gT, ↓reduceIte, reduceCtorEq, reduceAdd, reduceEqDiff, reduceLeDiff, reduceLT, hwT, selS, erT, scT, esT, eq_false hc1], by simp only [gE, ↓gT, ↓reduceIte, reduceCtorEq, reduceAdd, reduceEqDiff, reduceLeDiff, reduceLT, hwT, selS, erT, scT, esT, eq_false hc1]⟩ (K.impl_Lex_L0 (p0, [], 1, 0, 0) (.inl r33) h_s32 _ ?_ ?_)
      · intro v hv; cases hv
      · intro r' hr' env st hy
        cases hr'
        simp only [gE, ↓gT, ↓reduceIte, reduceCtorEq, reduceAdd, reduceEqDiff, reduceLeDiff, reduceLT]
        obtain rfl := Option.some.inj h
        exact hy
    · dsimp only at h
      refine SemF.loop rfl ?_
      refine SemL.weak (sel := [0]) ⟨by simp only [gE, ↓gT, ↓reduceIte, reduceCtorEq, reduceAdd, reduceEqDiff, reduceLeDiff, reduceLT, hwT, selS, erT, eq_false hc1], by decide, by decide, by simp only [gE, ↓gT, ↓reduceIte, reduceCtorEq, reduceAdd, reduceEqDiff, reduceLeDiff, reduceLT, hwT, selS, erT, subR, eq_false hc1], by simp only [gE, ↓gT, ↓reduceIte, reduceCtorEq, reduceAdd, reduceEqDiff, reduceLeDiff, reduceLT, hwT, selS, erT, scT, esT, eq_false hc1], by simp only [gE, ↓gT, ↓reduceIte, reduceCtorEq, reduceAdd, reduceEqDiff, reduceLeDiff, reduceLT, hwT, selS, erT, scT, esT, eq_false hc1]⟩ (K.impl_Lex_L0 (p0, [], 1, 0, 0) (.inr v34) h_s32 _ ?_ ?_)
      rotate_left
      · intro r' hr'; cases hr'
      intro v hv env st sel hw
      cases hv
      simp only [gE, ↓gT, ↓reduceIte, reduceCtorEq, reduceAdd, reduceEqDiff, reduceLeDiff, reduceLT]
      first | refine SemF.weak hw ?_ | refine SemL.weak hw ?_
      refine SemF.seq rfl ?_
      refine SemF.reg true rfl ?_
      try simp only [gE, ↓gT, ↓reduceIte, reduceCtorEq, reduceAdd, reduceEqDiff, reduceLeDiff, reduceLT, eq_false hc1]; (repeat intro (_ : _ ≤ lim))
      obtain ⟨u36, h_u36, h⟩ := bs h
      have hg35 := gd_some h_u36
      try simp only [gE, ↓gT, ↓reduceIte, reduceCtorEq, reduceAdd, reduceEqDiff, reduceLeDiff, reduceLT, eq_false hc1, eq_true hg35]; (repeat intro (_ : _ ≤ lim))
      refine SemF.seq rfl ?_
      refine SemF.seq rfl ?_
      refine SemF.reg true rfl ?_
      try simp only [gE, ↓gT, ↓reduceIte, reduceCtorEq, reduceAdd, reduceEqDiff, reduceLeDiff, reduceLT, eq_false hc1, eq_true hg35]; (repeat intro (_ : _ ≤ lim))
      (repeat intro (_ : _ ≤ lim))
      by_cases hc37 : 400 < (((v34.1.length + 1) : Nat) : Int)
      · rw [if_pos hc37] at h
        refine SemF.cond rfl ?_
        simp only [gE, ↓gT, ↓reduceIte, reduceCtorEq, reduceAdd, reduceEqDiff, reduceLeDiff, reduceLT, eq_false hc1, eq_true hg35, eq_true hc37]
        refine SemF.seq rfl ?_
        refine SemF.reg true rfl ?_
        try simp only [gE, ↓gT, ↓reduceIte, reduceCtorEq, reduceAdd, reduceEqDiff, reduceLeDiff, reduceLT, eq_false hc1, eq_true hg35, eq_true hc37]; (repeat intro (_ : _ ≤ lim))
        refine SemF.ret rfl ?_
        try simp only [gE, ↓gT, ↓reduceIte, reduceCtorEq, reduceAdd, reduceEqDiff, reduceLeDiff, reduceLT, eq_false hc1, eq_true hg35, eq_true hc37]; (repeat intro (_ : _ ≤ lim))
        obtain rfl := Option.some.inj h
        simp only [gE, ↓gT, ↓reduceIte, reduceCtorEq, reduceAdd, reduceEqDiff, reduceLeDiff, reduceLT, RetM_def, eq_false hc1, eq_true hg35, eq_true hc37]
        exact ⟨[2], by simp only [gE, ↓gT, ↓reduceIte, reduceCtorEq, reduceAdd, reduceEqDiff, reduceLeDiff, reduceLT, hwT, selS, erT, eq_false hc1, eq_true hg35, eq_true hc37], by simp only [gE, ↓gT, ↓reduceIte, reduceCtorEq, reduceAdd, reduceEqDiff, reduceLeDiff, reduceLT, hwT, selS, erT, eq_false hc1, eq_true hg35, eq_true hc37], by decide, by decide, by simp only [gE, ↓gT, ↓reduceIte, reduceCtorEq, reduceAdd, reduceEqDiff, reduceLeDiff, reduceLT, hwT, selS, erT, scT, esT], by simp only [gE, ↓gT, ↓reduceIte, reduceCtorEq, reduceAdd, reduceEqDiff, reduceLeDiff, reduceLT, hwT, selS, erT, scT, esT]⟩
      · rw [if_neg hc37] at h
        refine SemF.cond rfl ?_
        simp only [gE, ↓gT, ↓reduceIte, reduceCtorEq, reduceAdd, reduceEqDiff, reduceLeDiff, reduceLT, eq_false hc1, eq_true hg35, eq_false hc37]
        refine SemF.skip rfl ?_
        simp only [gE, ↓gT, ↓reduceIte, reduceCtorEq, reduceAdd, reduceEqDiff, reduceLeDiff, reduceLT, eq_false hc1, eq_true hg35, eq_false hc37]
        refine SemF.seq rfl ?_
        refine SemF.reg true rfl ?_
        try simp only [gE, ↓gT, ↓reduceIte, reduceCtorEq, reduceAdd, reduceEqDiff, reduceLeDiff, reduceLT, eq_false hc1, eq_true hg35, eq_false hc37]; (repeat intro (_ : _ ≤ lim))
        refine SemF.ret rfl ?_
        try simp only [gE, ↓gT, ↓reduceIte, reduceCtorEq, reduceAdd, reduceEqDiff, reduceLeDiff, reduceLT, eq_false hc1, eq_true hg35, eq_false hc37]; (repeat intro (_ : _ ≤ lim))
        obtain rfl := Option.some.inj h
        simp only [gE, ↓gT, ↓reduceIte, reduceCtorEq, reduceAdd, reduceEqDiff, reduceLeDiff, reduceLT, RetM_def, eq_false hc1, eq_true hg35, eq_false hc37]
        exact ⟨[0], by simp only [gE, ↓gT, ↓reduceIte, reduceCtorEq, reduceAdd, reduceEqDiff, reduceLeDiff, reduceLT, hwT, selS, erT, eq_false hc1, eq_true hg35, eq_false hc37], by simp only [gE, ↓gT, ↓reduceIte, reduceCtorEq, reduceAdd, reduceEqDiff, reduceLeDiff, reduceLT, hwT, selS, erT, eq_false hc1, eq_true hg35, eq_false hc37], by decide, by decide, by simp only [gE, ↓gT, ↓reduceIte, reduceCtorEq, reduceAdd, reduceEqDiff, reduceLeDiff, reduceLT, hwT, selS, erT, scT, esT], by simp only [gE, ↓gT, ↓reduceIte, reduceCtorEq, reduceAdd, reduceEqDiff, reduceLeDiff, reduceLT, hwT, selS, erT, scT, esT]⟩
theorem spec_l1In : ∀ (x : (Int × Int × Int)) (r : Bool), M.spec_l1In x = some r → HCp P F.spec_l1In [(.int .i64 x.1), (.int .i64 x.2.1), (.int .i64 x.2.2)] (HV.bool r) := by
  intro x r h
  obtain ⟨p0, p1, p2⟩ := x
  unfold M.spec_l1In at h
  try dsimp only at h
  refine HCp.mkF S.spec_l1In (by simp [H.spec_l1In]) (by simp only [scT, esT, and_self, true_and, and_true]) ?_
  simp only [gE, ↓gT, ↓reduceIte, reduceCtorEq, reduceAdd, reduceEqDiff, reduceLeDiff, reduceLT, H.spec_l1In]
  refine SemF.seq rfl ?_
  refine SemF.reg true rfl ?_
  try simp only [gE, ↓gT, ↓reduceIte, reduceCtorEq, reduceAdd, reduceEqDiff, reduceLeDiff, reduceLT]; (repeat intro (_ : _ ≤ lim))
  refine SemF.seq rfl ?_
  refine SemF.reg true rfl ?_
  try simp only [gE, ↓gT, ↓reduceIte, reduceCtorEq, reduceAdd, reduceEqDiff, reduceLeDiff, reduceLT]; (repeat intro (_ : _ ≤ lim))
  by_cases hc1 : p1 ≤ p0
  · rw [if_pos hc1] at h
    try simp only [gE, ↓gT, ↓reduceIte, reduceCtorEq, reduceAdd, reduceEqDiff, reduceLeDiff, reduceLT, eq_true hc1]; (repeat intro (_ : _ ≤ lim))
    refine SemF.ret rfl ?_
    try simp only [gE, ↓gT, ↓reduceIte, reduceCtorEq, reduceAdd, reduceEqDiff, reduceLeDiff, reduceLT, eq_true hc1]; (repeat intro (_ : _ ≤ lim))
    obtain rfl := Option.some.inj h
    simp only [gE, ↓gT, ↓reduceIte, reduceCtorEq, reduceAdd, reduceEqDiff, reduceLeDiff, reduceLT, RetP_def, eq_true hc1]
  · rw [if_neg hc1] at h
    try simp only [gE, ↓gT, ↓reduceIte, reduceCtorEq, reduceAdd, reduceEqDiff, reduceLeDiff, reduceLT, eq_false hc1]; (repeat intro (_ : _ ≤ lim))
    refine SemF.ret rfl ?_
    try simp only [gE, ↓gT, ↓reduceIte, reduceCtorEq, reduceAdd, reduceEqDiff, reduceLeDiff, reduceLT, eq_false hc1]; (repeat intro (_ : _ ≤ lim))
    obtain rfl := Option.some.inj h
    simp only [gE, ↓gT, ↓reduceIte, reduceCtorEq, reduceAdd, reduceEqDiff, reduceLeDiff, reduceLT, RetP_def, eq_false hc1]
theorem spec_l1Small : ∀ (x : Int) (r : Bool), M.spec_l1Small x = some r → HCp P F.spec_l1Small [(.int .u8 x)] (HV.bool r) := by
  intro x r h
  revert h; revert x; intro p0 h
  unfold M.spec_l1Small at h
  try dsimp only at h
  refine HCp.mkF S.spec_l1Small (by simp [H.spec_l1Small]) (by simp only [scT, esT, and_self, true_and, and_true]) ?_
  simp only [gE, ↓gT, ↓reduceIte, reduceCtorEq, reduceAdd, reduceEqDiff, reduceLeDiff, reduceLT, H.spec_l1Small]
  refine SemF.seq rfl ?_
  refine SemF.reg true rfl ?_
  try simp only [gE, ↓gT, ↓reduceIte, reduceCtorEq, reduceAdd, reduceEqDiff, reduceLeDiff, reduceLT]; (repeat intro (_ : _ ≤ lim))
  refine SemF.seq rfl ?_
  refine SemF.reg true rfl ?_
  try simp only [gE, ↓gT, ↓reduceIte, reduceCtorEq, reduceAdd, reduceEqDiff, reduceLeDiff, reduceLT]; (repeat intro (_ : _ ≤ lim))
  obtain ⟨r1, h_r1, h⟩ := bs h
  refine HCp.callE (K.spec_l1In ((IntKind.i64.wrap p0), 97, 122) r1 h_r1) (by simp only [gE, ↓gT, ↓reduceIte, reduceCtorEq, reduceAdd, reduceEqDiff, reduceLeDiff, reduceLT]) (by simp only [scT, esT, and_self, true_and, and_true]) (by simp only [scT, esT, and_self, true_and, and_true]) ?_
  try simp only [gE, ↓gT, ↓reduceIte, reduceCtorEq, reduceAdd, reduceEqDiff, reduceLeDiff, reduceLT]; (repeat intro (_ : _ ≤ lim))
  refine SemF.ret rfl ?_
  try simp only [gE, ↓gT, ↓reduceIte, reduceCtorEq, reduceAdd, reduceEqDiff, reduceLeDiff, reduceLT]; (repeat intro (_ : _ ≤ lim))
  obtain rfl := Option.some.inj h
  simp only [gE, ↓gT, ↓reduceIte, reduceCtorEq, reduceAdd, reduceEqDiff, reduceLeDiff, reduceLT, RetP_def]
theorem spec_l1Digit : ∀ (x : Int) (r : Bool), M.spec_l1Digit x = some r → HCp P F.spec_l1Digit [(.int .u8 x)] (HV.bool r) := by
  intro x r h
  revert h; revert x; intro p0 h
  unfold M.spec_l1Digit at h
  try dsimp only at h
  refine HCp.mkF S.spec_l1Digit (by simp [H.spec_l1Digit]) (by simp only [scT, esT, and_self, true_and, and_true]) ?_
  simp only [gE, ↓gT, ↓reduceIte, reduceCtorEq, reduceAdd, reduceEqDiff, reduceLeDiff, reduceLT, H.spec_l1Digit]
  refine SemF.seq rfl ?_
  refine SemF.reg true rfl ?_
  try simp only [gE, ↓gT, ↓reduceIte, reduceCtorEq, reduceAdd, reduceEqDiff, reduceLeDiff, reduceLT]; (repeat intro (_ : _ ≤ lim))
  refine SemF.seq rfl ?_
  refine SemF.reg true rfl ?_
  try simp only [gE, ↓gT, ↓reduceIte, reduceCtorEq, reduceAdd, reduceEqDiff, reduceLeDiff, reduceLT]; (repeat intro (_ : _ ≤ lim))
  obtain ⟨r1, h_r1, h⟩ := bs h
  refine HCp.callE (K.spec_l1In ((IntKind.i64.wrap p0), 48, 57) r1 h_r1) (by simp only [gE, ↓gT, ↓reduceIte, reduceCtorEq, reduceAdd, reduceEqDiff, reduceLeDiff, reduceLT]) (by simp only [scT, esT, and_self, true_and, and_true]) (by simp only [scT, esT, and_self, true_and, and_true]) ?_
  try simp only [gE, ↓gT, ↓reduceIte, reduceCtorEq, reduceAdd, reduceEqDiff, reduceLeDiff, reduceLT]; (repeat intro (_ : _ ≤ lim))
  refine SemF.ret rfl ?_
  try simp only [gE, ↓gT, ↓reduceIte, reduceCtorEq, reduceAdd, reduceEqDiff, reduceLeDiff, reduceLT]; (repeat intro (_ : _ ≤ lim))
  obtain rfl := Option.some.inj h
  simp only [gE, ↓gT, ↓reduceIte, reduceCtorEq, reduceAdd, reduceEqDiff, reduceLeDiff, reduceLT, RetP_def]
theorem spec_l1Large : ∀ (x : Int) (r : Bool), M.spec_l1Large x = some r → HCp P F.spec_l1Large [(.int .u8 x)] (HV.bool r) := by
  intro x r h
  revert h; revert x; intro p0 h
  unfold M.spec_l1Large at h
  try dsimp only at h
  refine HCp.mkF S.spec_l1Large (by simp [H.spec_l1Large]) (by simp only [scT, esT, and_self, true_and, and_true]) ?_
  simp only [gE, ↓gT, ↓reduceIte, reduceCtorEq, reduceAdd, reduceEqDiff, reduceLeDiff, reduceLT, H.spec_l1Large]
  refine SemF.seq rfl ?_
  refine SemF.reg true rfl ?_
  try simp only [gE, ↓gT, ↓reduceIte, reduceCtorEq, reduceAdd, reduceEqDiff, reduceLeDiff, reduceLT]; (repeat intro (_ : _ ≤ lim))
  refine SemF.seq rfl ?_
  refine SemF.reg true rfl ?_
  try simp only [gE, ↓gT, ↓reduceIte, reduceCtorEq, reduceAdd, reduceEqDiff, reduceLeDiff, reduceLT]; (repeat intro (_ : _ ≤ lim))
  obtain ⟨r1, h_r1, h⟩ := bs h
  refine HCp.callE (K.spec_l1In ((IntKind.i64.wrap p0), 65, 90) r1 h_r1) (by simp only [gE, ↓gT, ↓reduceIte, reduceCtorEq, reduceAdd, reduceEqDiff, reduceLeDiff, reduceLT]) (by simp only [scT, esT, and_self, true_and, and_true]) (by simp only [scT, esT, and_self, true_and, and_true]) ?_
  try simp only [gE, ↓gT, ↓reduceIte, reduceCtorEq, reduceAdd, reduceEqDiff, reduceLeDiff, reduceLT]; (repeat intro (_ : _ ≤ lim))
  refine SemF.ret rfl ?_
  try simp only [gE, ↓gT, ↓reduceIte, reduceCtorEq, reduceAdd, reduceEqDiff, reduceLeDiff, reduceLT]; (repeat intro (_ : _ ≤ lim))
  obtain rfl := Option.some.inj h
  simp only [gE, ↓gT, ↓reduceIte, reduceCtorEq, reduceAdd, reduceEqDiff, reduceLeDiff, reduceLT, RetP_def]
theorem spec_l1Letter : ∀ (x : Int) (r : Bool), M.spec_l1Letter x = some r → HCp P F.spec_l1Letter [(.int .u8 x)] (HV.bool r) := by
  intro x r h
  revert h; revert x; intro p0 h
  unfold M.spec_l1Letter at h
  try dsimp only at h
  refine HCp.mkF S.spec_l1Letter (by simp [H.spec_l1Letter]) (by simp only [scT, esT, and_self, true_and, and_true]) ?_
  simp only [gE, ↓gT, ↓reduceIte, reduceCtorEq, reduceAdd, reduceEqDiff, reduceLeDiff, reduceLT, H.spec_l1Letter]
  refine SemF.seq rfl ?_
  refine SemF.reg true rfl ?_
  try simp only [gE, ↓gT, ↓reduceIte, reduceCtorEq, reduceAdd, reduceEqDiff, reduceLeDiff, reduceLT]; (repeat intro (_ : _ ≤ lim))
  refine SemF.seq rfl ?_
  refine SemF.reg true rfl ?_
  try simp only [gE, ↓gT, ↓reduceIte, reduceCtorEq, reduceAdd, reduceEqDiff, reduceLeDiff, reduceLT]; (repeat intro (_ : _ ≤ lim))
  obtain ⟨r1, h_r1, h⟩ := bs h
  refine HCp.callE (K.spec_l1Small p0 r1 h_r1) (by simp only [gE, ↓gT, ↓reduceIte, reduceCtorEq, reduceAdd, reduceEqDiff, reduceLeDiff, reduceLT]) (by simp only [scT, esT, and_self, true_and, and_true]) (by simp only [scT, esT, and_self, true_and, and_true]) ?_
  try simp only [gE, ↓gT, ↓reduceIte, reduceCtorEq, reduceAdd, reduceEqDiff, reduceLeDiff, reduceLT]; (repeat intro (_ : _ ≤ lim))
  by_cases hc2 : r1 = true
  · rw [if_pos hc2] at h
    try simp only [gE, ↓gT, ↓reduceIte, reduceCtorEq, reduceAdd, reduceEqDiff, reduceLeDiff, reduceLT, hc2]; (repeat intro (_ : _ ≤ lim))
    refine SemF.ret rfl ?_
    try simp only [gE, ↓gT, ↓reduceIte, reduceCtorEq, reduceAdd, reduceEqDiff, reduceLeDiff, reduceLT, hc2]; (repeat intro (_ : _ ≤ lim))
    obtain rfl := Option.some.inj h
    simp only [gE, ↓gT, ↓reduceIte, reduceCtorEq, reduceAdd, reduceEqDiff, reduceLeDiff, reduceLT, RetP_def, hc2]
  · rw [if_neg hc2] at h
    replace hc2 := eq_false_of_ne_true hc2
    try simp only [gE, ↓gT, ↓reduceIte, reduceCtorEq, reduceAdd, reduceEqDiff, reduceLeDiff, reduceLT, hc2]; (repeat intro (_ : _ ≤ lim))
    obtain ⟨r3, h_r3, h⟩ := bs h
    refine HCp.callE (K.spec_l1Large p0 r3 h_r3) (by simp only [gE, ↓gT, ↓reduceIte, reduceCtorEq, reduceAdd, reduceEqDiff, reduceLeDiff, reduceLT, hc2]) (by simp only [scT, esT, and_self, true_and, and_true]) (by simp only [scT, esT, and_self, true_and, and_true]) ?_
    try simp only [gE, ↓gT, ↓reduceIte, reduceCtorEq, reduceAdd, reduceEqDiff, reduceLeDiff, reduceLT, hc2]; (repeat intro (_ : _ ≤ lim))
    by_cases hc4 : r3 = true
    · rw [if_pos hc4] at h
      try simp only [gE, ↓gT, ↓reduceIte, reduceCtorEq, reduceAdd, reduceEqDiff, reduceLeDiff, reduceLT, hc2, hc4]; (repeat intro (_ : _ ≤ lim))
      refine SemF.ret rfl ?_
      try simp only [gE, ↓gT, ↓reduceIte, reduceCtorEq, reduceAdd, reduceEqDiff, reduceLeDiff, reduceLT, hc2, hc4]; (repeat intro (_ : _ ≤ lim))
      obtain rfl := Option.some.inj h
      simp only [gE, ↓gT, ↓reduceIte, reduceCtorEq, reduceAdd, reduceEqDiff, reduceLeDiff, reduceLT, RetP_def, hc2, hc4]
    · rw [if_neg hc4] at h
      replace hc4 := eq_false_of_ne_true hc4
      try simp only [gE, ↓gT, ↓reduceIte, reduceCtorEq, reduceAdd, reduceEqDiff, reduceLeDiff, reduceLT, hc2, hc4]; (repeat intro (_ : _ ≤ lim))
      obtain ⟨r5, h_r5, h⟩ := bs h
      refine HCp.callE (K.spec_l1Digit p0 r5 h_r5) (by simp only [gE, ↓gT, ↓reduceIte, reduceCtorEq, reduceAdd, reduceEqDiff, reduceLeDiff, reduceLT, hc2, hc4]) (by simp only [scT, esT, and_self, true_and, and_true]) (by simp only [scT, esT, and_self, true_and, and_true]) ?_
      try simp only [gE, ↓gT, ↓reduceIte, reduceCtorEq, reduceAdd, reduceEqDiff, reduceLeDiff, reduceLT, hc2, hc4]; (repeat intro (_ : _ ≤ lim))
      refine SemF.ret rfl ?_
      try simp only [gE, ↓gT, ↓reduceIte, reduceCtorEq, reduceAdd, reduceEqDiff, reduceLeDiff, reduceLT, hc2, hc4]; (repeat intro (_ : _ ≤ lim))
      obtain rfl := Option.some.inj h
      simp only [gE, ↓gT, ↓reduceIte, reduceCtorEq, reduceAdd, reduceEqDiff, reduceLeDiff, reduceLT, RetP_def, hc2, hc4]
theorem spec_l1NumOk_L0 : ∀ (x : (ByteArray × Int)) (out : (Sum Bool Unit)), M.spec_l1NumOk_L0 x = some out → ∀ Q : HExit → Env → St → Prop, (∀ v, out = .inr v → ∀ env st sel, Weak 0 sel [(0, (.str x.1))] [] env st → Q (.exit 0) env st) → (∀ r, out = .inl r → ∀ env st, RetP [(2, none)] (HV.bool r) env st → Q .ret env st) → SemL P H.spec_l1NumOk.ntmps 0 H.spec_l1NumOk_l4 [(0, (.str x.1)), (3, (.int .i64 x.2))] [] Q := by
  refine M.spec_l1NumOk_L0.partial_correctness (motive := fun x out => ∀ Q : HExit → Env → St → Prop, (∀ v, out = .inr v → ∀ env st sel, Weak 0 sel [(0, (.str x.1))] [] env st → Q (.exit 0) env st) → (∀ r, out = .inl r → ∀ env st, RetP [(2, none)] (HV.bool r) env st → Q .ret env st) → SemL P H.spec_l1NumOk.ntmps 0 H.spec_l1NumOk_l4 [(0, (.str x.1)), (3, (.int .i64 x.2))] [] Q) ?_
  intro f_spec_l1NumOk_L0 ih_spec_l1NumOk_L0 x out h
  obtain ⟨p0, t3_L0⟩ := x
  try dsimp only at h
  intro Q hx hr
  refine SemL.round ?_
  try dsimp only at hx
  refine SemF.seq rfl ?_
  refine SemF.seq rfl ?_
  refine SemF.reg true rfl ?_
  try simp only [gE, ↓gT, ↓reduceIte, reduceCtorEq, reduceAdd, reduceEqDiff, reduceLeDiff, reduceLT]; (repeat intro (_ : _ ≤ lim))
  (repeat intro (_ : _ ≤ lim))
  by_cases hc5 : t3_L0 < ((p0.size : Nat) : Int)
  · rw [if_pos hc5] at h
    refine SemF.cond rfl ?_
    simp only [gE, ↓gT, ↓reduceIte, reduceCtorEq, reduceAdd, reduceEqDiff, reduceLeDiff, reduceLT, eq_true hc5]
    refine SemF.skip rfl ?_
    simp only [gE, ↓gT, ↓reduceIte, reduceCtorEq, reduceAdd, reduceEqDiff, reduceLeDiff, reduceLT, eq_true hc5]
    refine SemF.seq rfl ?_
    refine SemF.block rfl ?_
    refine SemF.seq rfl ?_
    refine SemF.reg true rfl ?_
    try simp only [gE, ↓gT, ↓reduceIte, reduceCtorEq, reduceAdd, reduceEqDiff, reduceLeDiff, reduceLT, eq_true hc5]; (repeat intro (_ : _ ≤ lim))
    obtain ⟨c6, h_c6, h⟩ := bs h
    obtain ⟨c_c6, m_c6, v_c6⟩ := bx_get h_c6
    try simp only [gE, ↓gT, ↓reduceIte, reduceCtorEq, reduceAdd, reduceEqDiff, reduceLeDiff, reduceLT, eq_true hc5, eq_true (bx_nn h_c6), m_c6, v_c6]; (repeat intro (_ : _ ≤ lim))
    obtain ⟨r7, h_r7, h⟩ := bs h
    refine HCp.callE (K.spec_l1Digit c6 r7 h_r7) (by simp only [gE, ↓gT, ↓reduceIte, reduceCtorEq, reduceAdd, reduceEqDiff, reduceLeDiff, reduceLT, eq_true hc5, eq_true (bx_nn h_c6), m_c6, v_c6]) (by simp only [scT, esT, and_self, true_and, and_true]) (by simp only [scT, esT, and_self, true_and, and_true]) ?_
    try simp only [gE, ↓gT, ↓reduceIte, reduceCtorEq, reduceAdd, reduceEqDiff, reduceLeDiff, reduceLT, eq_true hc5, eq_true (bx_nn h_c6), m_c6, v_c6]; (repeat intro (_ : _ ≤ lim))
    by_cases hc8 : r7 = true
    · rw [if_pos hc8] at h
      refine SemF.cond rfl ?_
      simp only [gE, ↓gT, ↓reduceIte, reduceCtorEq, reduceAdd, reduceEqDiff, reduceLeDiff, reduceLT, eq_true hc5, eq_true (bx_nn h_c6), m_c6, v_c6, hc8]
      refine SemF.skip rfl ?_
      simp only [gE, ↓gT, ↓reduceIte, reduceCtorEq, reduceAdd, reduceEqDiff, reduceLeDiff, reduceLT, eq_true hc5, eq_true (bx_nn h_c6), m_c6, v_c6, hc8]
      refine SemF.reg true rfl ?_
      try simp only [gE, ↓gT, ↓reduceIte, reduceCtorEq, reduceAdd, reduceEqDiff, reduceLeDiff, reduceLT, eq_true hc5, eq_true (bx_nn h_c6), m_c6, v_c6, hc8]; (repeat intro (_ : _ ≤ lim))
      refine SemL.weak (sel := []) ⟨by simp only [gE, ↓gT, ↓reduceIte, reduceCtorEq, reduceAdd, reduceEqDiff, reduceLeDiff, reduceLT, hwT, selS, erT, eq_true hc5, eq_true (bx_nn h_c6), m_c6, v_c6, hc8], by decide, by decide, by simp only [gE, ↓gT, ↓reduceIte, reduceCtorEq, reduceAdd, reduceEqDiff, reduceLeDiff, reduceLT, hwT, selS, erT, subR, eq_true hc5, eq_true (bx_nn h_c6), m_c6, v_c6, hc8], by simp only [gE, ↓gT, ↓reduceIte, reduceCtorEq, reduceAdd, reduceEqDiff, reduceLeDiff, reduceLT, hwT, selS, erT, scT, esT, eq_true hc5, eq_true (bx_nn h_c6), m_c6, v_c6, hc8], by simp only [gE, ↓gT, ↓reduceIte, reduceCtorEq, reduceAdd, reduceEqDiff, reduceLeDiff, reduceLT, hwT, selS, erT, scT, esT, eq_true hc5, eq_true (bx_nn h_c6), m_c6, v_c6, hc8]⟩ (ih_spec_l1NumOk_L0 (p0, (IntKind.i64.wrap (t3_L0 + 1))) out h Q hx hr)
    · rw [if_neg hc8] at h
      replace hc8 := eq_false_of_ne_true hc8
      refine SemF.cond rfl ?_
      simp only [gE, ↓gT, ↓reduceIte, reduceCtorEq, reduceAdd, reduceEqDiff, reduceLeDiff, reduceLT, eq_true hc5, eq_true (bx_nn h_c6), m_c6, v_c6, hc8]
      refine SemF.seq rfl ?_
      refine SemF.reg true rfl ?_
      try simp only [gE, ↓gT, ↓reduceIte, reduceCtorEq, reduceAdd, reduceEqDiff, reduceLeDiff, reduceLT, eq_true hc5, eq_true (bx_nn h_c6), m_c6, v_c6, hc8]; (repeat intro (_ : _ ≤ lim))
      refine SemF.ret rfl ?_
      try simp only [gE, ↓gT, ↓reduceIte, reduceCtorEq, reduceAdd, reduceEqDiff, reduceLeDiff, reduceLT, eq_true hc5, eq_true (bx_nn h_c6), m_c6, v_c6, hc8]; (repeat intro (_ : _ ≤ lim))
      obtain rfl := Option.some.inj h
      refine hr _ rfl _ _ ?_
      simp only [gE, ↓gT, ↓reduceIte, reduceCtorEq, reduceAdd, reduceEqDiff, reduceLeDiff, reduceLT, RetP_def, eq_true hc5, eq_true (bx_nn h_c6), m_c6, v_c6, hc8]
  · rw [if_neg hc5] at h
    refine SemF.cond rfl ?_
    simp only [gE, ↓gT, ↓reduceIte, reduceCtorEq, reduceAdd, reduceEqDiff, reduceLeDiff, reduceLT, eq_false hc5]
    refine SemF.exit rfl ?_
    simp only [gE, ↓gT, ↓reduceIte, reduceCtorEq, reduceAdd, reduceEqDiff, reduceLeDiff, reduceLT, eq_false hc5]
    obtain rfl := Option.some.inj h
    refine hx _ rfl _ _ [] ⟨by simp only [gE, ↓gT, ↓reduceIte, reduceCtorEq, reduceAdd, reduceEqDiff, reduceLeDiff, reduceLT, hwT, selS, erT, eq_false hc5], by decide, by decide, by simp only [gE, ↓gT, ↓reduceIte, reduceCtorEq, reduceAdd, reduceEqDiff, reduceLeDiff, reduceLT, hwT, selS, erT, subR, eq_false hc5], by simp only [gE, ↓gT, ↓reduceIte, reduceCtorEq, reduceAdd, reduceEqDiff, reduceLeDiff, reduceLT, hwT, selS, erT, scT, esT, eq_false hc5], by simp only [gE, ↓gT, ↓reduceIte, reduceCtorEq, reduceAdd, reduceEqDiff, reduceLeDiff, reduceLT, hwT, selS, erT, scT, esT, eq_false hc5]⟩
end K
end W
