import Derived.Test.YtnhdobhfebiggaaDoorUPrf0
namespace W
set_option linter.unusedSimpArgs false
set_option linter.unusedVariables false
open Go HL S
open Nat (reduceAdd reduceEqDiff reduceLeDiff reduceSub reduceMul reduceLT)
set_option linter.unusedVariables false
set_option maxRecDepth 100000
set_option maxHeartbeats 4000000
namespace K
theorem impl_resText_L0_step (f_impl_resText : (Res × Int) → Option (ByteArray × Bool)) (f_impl_resText_L0 : (Int × Res × ByteArray × Int) → Option (Sum (ByteArray × Bool) ByteArray)) (ih_impl_resText : ∀ (x : (Res × Int)) (r : (ByteArray × Bool)), f_impl_resText x = some r → HCp P F.impl_resText [(Res.enc x.1), (.int .i64 x.2)] (HV.tup [(HV.str r.1), (HV.bool r.2)])) (ih_impl_resText_L0 : ∀ (x : (Int × Res × ByteArray × Int)) (out : (Sum (ByteArray × Bool) ByteArray)), f_impl_resText_L0 x = some out → ∀ Q : HExit → Env → St → Prop, (∀ v, out = .inr v → ∀ env st sel, Weak 0 sel [(6, (.str v))] [] env st → Q (.exit 1) env st) → (∀ r, out = .inl r → ∀ env st, RetP [(4, none), (5, none)] (HV.tup [(HV.str r.1), (HV.bool r.2)]) env st → Q .ret env st) → SemL P H.impl_resText.ntmps 0 H.impl_resText_l28 [(1, (.int .i64 x.1)), (6, (.str x.2.2.1)), (38, (.sl (List.map Res.enc x.2.1.L))), (39, (.int .i64 ((x.2.1.L.length : Nat) : Int))), (40, (.int .i64 x.2.2.2))] [] Q) (x : (Int × Res × ByteArray × Int)) (out : (Sum (ByteArray × Bool) ByteArray)) (h : (if x.2.2.2 < ((x.2.1.L.length : Nat) : Int) then (ix x.2.1.L x.2.2.2 >>= fun e39 =>
    (f_impl_resText (e39, (IntKind.i64.wrap (x.1 + 1))) >>= fun r40 =>
    (if r40.2 = true then (if 0 < ((e39.L.length : Nat) : Int) then (gd ((⟨⟨[40]⟩⟩ : ByteArray).size + r40.1.size ≤ lim) >>= fun u44 =>
    (gd (((⟨⟨[40]⟩⟩ : ByteArray) ++ r40.1).size + (⟨⟨[41]⟩⟩ : ByteArray).size ≤ lim) >>= fun u46 =>
    (gd ((⟨⟨[32]⟩⟩ : ByteArray).size + (((⟨⟨[40]⟩⟩ : ByteArray) ++ r40.1) ++ (⟨⟨[41]⟩⟩ : ByteArray)).size ≤ lim) >>= fun u48 =>
    (gd (x.2.2.1.size + ((⟨⟨[32]⟩⟩ : ByteArray) ++ (((⟨⟨[40]⟩⟩ : ByteArray) ++ r40.1) ++ (⟨⟨[41]⟩⟩ : ByteArray))).size ≤ lim) >>= fun u50 =>
    f_impl_resText_L0 (x.1, x.2.1, (x.2.2.1 ++ ((⟨⟨[32]⟩⟩ : ByteArray) ++ (((⟨⟨[40]⟩⟩ : ByteArray) ++ r40.1) ++ (⟨⟨[41]⟩⟩ : ByteArray)))), (IntKind.i64.wrap (x.2.2.2 + 1))))))) else
    (M.strings_HasPrefix (r40.1, (⟨⟨[45]⟩⟩ : ByteArray)) >>= fun r51 =>
    (if r51 = true then (gd ((⟨⟨[40]⟩⟩ : ByteArray).size + r40.1.size ≤ lim) >>= fun u54 =>
    (gd (((⟨⟨[40]⟩⟩ : ByteArray) ++ r40.1).size + (⟨⟨[41]⟩⟩ : ByteArray).size ≤ lim) >>= fun u56 =>
    (gd ((⟨⟨[32]⟩⟩ : ByteArray).size + (((⟨⟨[40]⟩⟩ : ByteArray) ++ r40.1) ++ (⟨⟨[41]⟩⟩ : ByteArray)).size ≤ lim) >>= fun u58 =>
    (gd (x.2.2.1.size + ((⟨⟨[32]⟩⟩ : ByteArray) ++ (((⟨⟨[40]⟩⟩ : ByteArray) ++ r40.1) ++ (⟨⟨[41]⟩⟩ : ByteArray))).size ≤ lim) >>= fun u60 =>
    f_impl_resText_L0 (x.1, x.2.1, (x.2.2.1 ++ ((⟨⟨[32]⟩⟩ : ByteArray) ++ (((⟨⟨[40]⟩⟩ : ByteArray) ++ r40.1) ++ (⟨⟨[41]⟩⟩ : ByteArray)))), (IntKind.i64.wrap (x.2.2.2 + 1))))))) else
    (gd ((⟨⟨[32]⟩⟩ : ByteArray).size + r40.1.size ≤ lim) >>= fun u62 =>
    (gd (x.2.2.1.size + ((⟨⟨[32]⟩⟩ : ByteArray) ++ r40.1).size ≤ lim) >>= fun u64 =>
    f_impl_resText_L0 (x.1, x.2.1, (x.2.2.1 ++ ((⟨⟨[32]⟩⟩ : ByteArray) ++ r40.1)), (IntKind.i64.wrap (x.2.2.2 + 1)))))))) else
    some (.inl ((⟨⟨[]⟩⟩ : ByteArray), false))))) else
    some (.inr x.2.2.1)) = some out) : ∀ Q : HExit → Env → St → Prop, (∀ v, out = .inr v → ∀ env st sel, Weak 0 sel [(6, (.str v))] [] env st → Q (.exit 1) env st) → (∀ r, out = .inl r → ∀ env st, RetP [(4, none), (5, none)] (HV.tup [(HV.str r.1), (HV.bool r.2)]) env st → Q .ret env st) → SemL P H.impl_resText.ntmps 0 H.impl_resText_l28 [(1, (.int .i64 x.1)), (6, (.str x.2.2.1)), (38, (.sl (List.map Res.enc x.2.1.L))), (39, (.int .i64 ((x.2.1.L.length : Nat) : Int))), (40, (.int .i64 x.2.2.2))] [] Q := by
  obtain ⟨p1, p0, t6_L0, t40_L0⟩ := x
  try dsimp only at h
  intro Q hx hr
  refine SemL.round ?_
  try dsimp only at hx
  refine SemF.seq rfl ?_
  refine SemF.reg true rfl ?_
  try simp only [gE, ↓gT, ↓reduceIte, reduceCtorEq, reduceAdd, reduceEqDiff, reduceLeDiff, reduceLT]; (repeat intro (_ : _ ≤ lim))
  refine SemF.seq rfl ?_
  by_cases hc38 : t40_L0 < ((p0.L.length : Nat) : Int)
  · rw [if_pos hc38] at h
    refine SemF.cond rfl ?_
    simp only [gE, ↓gT, ↓reduceIte, reduceCtorEq, reduceAdd, reduceEqDiff, reduceLeDiff, reduceLT, eq_true hc38]
    refine SemF.skip rfl ?_
    simp only [gE, ↓gT, ↓reduceIte, reduceCtorEq, reduceAdd, reduceEqDiff, reduceLeDiff, reduceLT, eq_true hc38]
    refine SemF.seq rfl ?_
    refine SemF.block rfl ?_
    refine SemF.seq rfl ?_
    refine SemF.reg true rfl ?_
    try simp only [gE, ↓gT, ↓reduceIte, reduceCtorEq, reduceAdd, reduceEqDiff, reduceLeDiff, reduceLT, eq_true hc38]; (repeat intro (_ : _ ≤ lim))
    obtain ⟨e39, h_e39, h⟩ := bs h
    have m_e39 := ixm (f := Res.enc) (ix_get h_e39)
    try simp only [gE, ↓gT, ↓reduceIte, reduceCtorEq, reduceAdd, reduceEqDiff, reduceLeDiff, reduceLT, eq_true hc38, eq_true (ix_nn h_e39), m_e39]; (repeat intro (_ : _ ≤ lim))
    refine SemF.seq rfl ?_
    refine SemF.reg true rfl ?_
    try simp only [gE, ↓gT, ↓reduceIte, reduceCtorEq, reduceAdd, reduceEqDiff, reduceLeDiff, reduceLT, eq_true hc38, eq_true (ix_nn h_e39), m_e39]; (repeat intro (_ : _ ≤ lim))
    obtain ⟨r40, h_r40, h⟩ := bs h
    refine HCp.callE (ih_impl_resText (e39, (IntKind.i64.wrap (p1 + 1))) r40 h_r40) (by simp only [gE, ↓gT, ↓reduceIte, reduceCtorEq, reduceAdd, reduceEqDiff, reduceLeDiff, reduceLT, eq_true hc38, eq_true (ix_nn h_e39), m_e39]) (by simp only [scT, esT, and_self, true_and, and_true]) (by simp only [scT, esT, and_self, true_and, and_true]) ?_
    try simp only [gE, ↓gT, ↓reduceIte, reduceCtorEq, reduceAdd, reduceEqDiff, reduceLeDiff, reduceLT, eq_true hc38, eq_true (ix_nn h_e39), m_e39]; (repeat intro (_ : _ ≤ lim))
    refine SemF.seq rfl ?_
    refine SemF.seq rfl ?_
    refine SemF.reg true rfl ?_
    try simp only [gE, ↓gT, ↓reduceIte, reduceCtorEq, reduceAdd, reduceEqDiff, reduceLeDiff, reduceLT, eq_true hc38, eq_true (ix_nn h_e39), m_e39]; (repeat intro (_ : _ ≤ lim))
    by_cases hc41 : r40.2 = true
    · rw [if_pos hc41] at h
      refine SemF.cond rfl ?_
      simp only [gE, ↓gT, ↓reduceIte, reduceCtorEq, reduceAdd, reduceEqDiff, reduceLeDiff, reduceLT, eq_true hc38, eq_true (ix_nn h_e39), m_e39, hc41]
      refine SemF.skip rfl ?_
      simp only [gE, ↓gT, ↓reduceIte, reduceCtorEq, reduceAdd, reduceEqDiff, reduceLeDiff, reduceLT, eq_true hc38, eq_true (ix_nn h_e39), m_e39, hc41]
      refine SemF.seq rfl ?_
      refine SemF.seq rfl ?_
      refine SemF.reg true rfl ?_
      try simp only [gE, ↓gT, ↓reduceIte, reduceCtorEq, reduceAdd, reduceEqDiff, reduceLeDiff, reduceLT, eq_true hc38, eq_true (ix_nn h_e39), m_e39, hc41]; (repeat intro (_ : _ ≤ lim))
      (repeat intro (_ : _ ≤ lim))
      by_cases hc42 : 0 < ((e39.L.length : Nat) : Int)
      · rw [if_pos hc42] at h
        try simp only [gE, ↓gT, ↓reduceIte, reduceCtorEq, reduceAdd, reduceEqDiff, reduceLeDiff, reduceLT, eq_true hc38, eq_true (ix_nn h_e39), m_e39, hc41, eq_true hc42]; (repeat intro (_ : _ ≤ lim))
        refine SemF.cond rfl ?_
        simp only [gE, ↓gT, ↓reduceIte, reduceCtorEq, reduceAdd, reduceEqDiff, reduceLeDiff, reduceLT, eq_true hc38, eq_true (ix_nn h_e39), m_e39, hc41, eq_true hc42]
        refine SemF.reg true rfl ?_
        try simp only [gE, ↓gT, ↓reduceIte, reduceCtorEq, reduceAdd, reduceEqDiff, reduceLeDiff, reduceLT, eq_true hc38, eq_true (ix_nn h_e39), m_e39, hc41, eq_true hc42]; (repeat intro (_ : _ ≤ lim))
        obtain ⟨u44, h_u44, h⟩ := bs h
        have hg43 := gd_some h_u44
        try simp only [gE, ↓gT, ↓reduceIte, reduceCtorEq, reduceAdd, reduceEqDiff, reduceLeDiff, reduceLT, eq_true hc38, eq_true (ix_nn h_e39), m_e39, hc41, eq_true hc42, eq_true hg43]; (repeat intro (_ : _ ≤ lim))
        obtain ⟨u46, h_u46, h⟩ := bs h
        have hg45 := gd_some h_u46
        try simp only [gE, ↓gT, ↓reduceIte, reduceCtorEq, reduceAdd, reduceEqDiff, reduceLeDiff, reduceLT, eq_true hc38, eq_true (ix_nn h_e39), m_e39, hc41, eq_true hc42, eq_true hg43, eq_true hg45]; (repeat intro (_ : _ ≤ lim))
        refine SemF.reg true rfl ?_
        try simp only [gE, ↓gT, ↓reduceIte, reduceCtorEq, reduceAdd, reduceEqDiff, reduceLeDiff, reduceLT, eq_true hc38, eq_true (ix_nn h_e39), m_e39, hc41, eq_true hc42, eq_true hg43, eq_true hg45]; (repeat intro (_ : _ ≤ lim))
        obtain ⟨u48, h_u48, h⟩ := bs h
        have hg47 := gd_some h_u48
        try simp only [gE, ↓gT, ↓reduceIte, reduceCtorEq, reduceAdd, reduceEqDiff, reduceLeDiff, reduceLT, eq_true hc38, eq_true (ix_nn h_e39), m_e39, hc41, eq_true hc42, eq_true hg43, eq_true hg45, eq_true hg47]; (repeat intro (_ : _ ≤ lim))
        obtain ⟨u50, h_u50, h⟩ := bs h
        have hg49 := gd_some h_u50
        try simp only [gE, ↓gT, ↓reduceIte, reduceCtorEq, reduceAdd, reduceEqDiff, reduceLeDiff, reduceLT, eq_true hc38, eq_true (ix_nn h_e39), m_e39, hc41, eq_true hc42, eq_true hg43, eq_true hg45, eq_true hg47, eq_true hg49]; (repeat intro (_ : _ ≤ lim))
        refine SemF.reg true rfl ?_
        try simp only [gE, ↓gT, ↓reduceIte, reduceCtorEq, reduceAdd, reduceEqDiff, reduceLeDiff, reduceLT, eq_true hc38, eq_true (ix_nn h_e39), m_e39, hc41, eq_true hc42, eq_true hg43, eq_true hg45, eq_true hg47, eq_true hg49]; (repeat intro (_ : _ ≤ lim))
        refine SemL.weak (sel := []) ⟨by simp only [gE, ↓gT, ↓reduceIte, reduceCtorEq, reduceAdd, reduceEqDiff, reduceLeDiff, reduceLT, hwT, selS, erT, eq_true hc38, eq_true (ix_nn h_e39), m_e39, hc41, eq_true hc42, eq_true hg43, eq_true hg45, eq_true hg47, eq_true hg49], by decide, by decide, by simp only [gE, ↓gT, ↓reduceIte, reduceCtorEq, reduceAdd, reduceEqDiff, reduceLeDiff, reduceLT, hwT, selS, erT, subR, eq_true hc38, eq_true (ix_nn h_e39), m_e39, hc41, eq_true hc42, eq_true hg43, eq_true hg45, eq_true hg47, eq_true hg49], by simp only [gE, ↓gT, ↓reduceIte, reduceCtorEq, reduceAdd, reduceEqDiff, reduceLeDiff, reduceLT, hwT, selS, erT, scT, esT, eq_true hc38, eq_true (ix_nn h_e39), m_e39, hc41, eq_true hc42, eq_true hg43, eq_true hg45, eq_true hg47, eq_true hg49], by simp only [gE, ↓gT, ↓reduceIte, reduceCtorEq, reduceAdd, reduceEqDiff, reduceLeDiff, reduceLT, hwT, selS, erT, scT, esT, eq_true hc38, eq_true (ix_nn h_e39), m_e39, hc41, eq_true hc42, eq_true hg43, eq_true hg45, eq_true hg47, eq_true hg49]⟩ (ih_impl_resText_L0 (p1, p0, (t6_L0 ++ ((⟨⟨[32]⟩⟩ : ByteArray) ++ (((⟨⟨[40]⟩⟩ : ByteArray) ++ r40.1) ++ (⟨⟨[41]⟩⟩ : ByteArray)))), (IntKind.i64.wrap (t40_L0 + 1))) out h Q hx hr)
      · rw [if_neg hc42] at h
        try simp only [gE, ↓gT, ↓reduceIte, reduceCtorEq, reduceAdd, reduceEqDiff, reduceLeDiff, reduceLT, eq_true hc38, eq_true (ix_nn h_e39), m_e39, hc41, eq_false hc42]; (repeat intro (_ : _ ≤ lim))
        obtain ⟨r51, h_r51, h⟩ := bs h
        refine HCp.callE (K.strings_HasPrefix (r40.1, (⟨⟨[45]⟩⟩ : ByteArray)) r51 h_r51) (by simp only [gE, ↓gT, ↓reduceIte, reduceCtorEq, reduceAdd, reduceEqDiff, reduceLeDiff, reduceLT, eq_true hc38, eq_true (ix_nn h_e39), m_e39, hc41, eq_false hc42]) (by simp only [scT, esT, and_self, true_and, and_true]) (by simp only [scT, esT, and_self, true_and, and_true]) ?_
        try simp only [gE, ↓gT, ↓reduceIte, reduceCtorEq, reduceAdd, reduceEqDiff, reduceLeDiff, reduceLT, eq_true hc38, eq_true (ix_nn h_e39), m_e39, hc41, eq_false hc42]; (repeat intro (_ : _ ≤ lim))
        by_cases hc52 : r51 = true
        · rw [if_pos hc52] at h
          refine SemF.cond rfl ?_
          simp only [gE, ↓gT, ↓reduceIte, reduceCtorEq, reduceAdd, reduceEqDiff, reduceLeDiff, reduceLT, eq_true hc38, eq_true (ix_nn h_e39), m_e39, hc41, eq_false hc42, hc52]
          refine SemF.reg true rfl ?_
          try simp only [gE, ↓gT, ↓reduceIte, reduceCtorEq, reduceAdd, reduceEqDiff, reduceLeDiff, reduceLT, eq_true hc38, eq_true (ix_nn h_e39), m_e39, hc41, eq_false hc42, hc52]; (repeat intro (_ : _ ≤ lim))
          obtain ⟨u54, h_u54, h⟩ := bs h
          have hg53 := gd_some h_u54
          try simp only [gE, ↓gT, ↓reduceIte, reduceCtorEq, reduceAdd, reduceEqDiff, reduceLeDiff, reduceLT, eq_true hc38, eq_true (ix_nn h_e39), m_e39, hc41, eq_false hc42, hc52, eq_true hg53]; (repeat intro (_ : _ ≤ lim))
          obtain ⟨u56, h_u56, h⟩ := bs h
          have hg55 := gd_some h_u56
          try simp only [gE, ↓gT, ↓reduceIte, reduceCtorEq, reduceAdd, reduceEqDiff, reduceLeDiff, reduceLT, eq_true hc38, eq_true (ix_nn h_e39), m_e39, hc41, eq_false hc42, hc52, eq_true hg53, eq_true hg55]; (repeat intro (_ : _ ≤ lim))
          refine SemF.reg true rfl ?_
          try simp only [gE, ↓gT, ↓reduceIte, reduceCtorEq, reduceAdd, reduceEqDiff, reduceLeDiff, reduceLT, eq_true hc38, eq_true (ix_nn h_e39), m_e39, hc41, eq_false hc42, hc52, eq_true hg53, eq_true hg55]; (repeat intro (_ : _ ≤ lim))
          obtain ⟨u58, h_u58, h⟩ := bs h
          have hg57 := gd_some h_u58
          try simp only [gE, ↓gT, ↓reduceIte, reduceCtorEq, reduceAdd, reduceEqDiff, reduceLeDiff, reduceLT, eq_true hc38, eq_true (ix_nn h_e39), m_e39, hc41, eq_false hc42, hc52, eq_true hg53, eq_true hg55, eq_true hg57]; (repeat intro (_ : _ ≤ lim))
          obtain ⟨u60, h_u60, h⟩ := bs h
          have hg59 := gd_some h_u60
          try simp only [gE, ↓gT, ↓reduceIte, reduceCtorEq, reduceAdd, reduceEqDiff, reduceLeDiff, reduceLT, eq_true hc38, eq_true (ix_nn h_e39), m_e39, hc41, eq_false hc42, hc52, eq_true hg53, eq_true hg55, eq_true hg57, eq_true hg59]; (repeat intro (_ : _ ≤ lim))
          refine SemF.reg true rfl ?_
          try simp only [gE, ↓gT, ↓reduceIte, reduceCtorEq, reduceAdd, reduceEqDiff, reduceLeDiff, reduceLT, eq_true hc38, eq_true (ix_nn h_e39), m_e39, hc41, eq_false hc42, hc52, eq_true hg53, eq_true hg55, eq_true hg57, eq_true hg59]; (repeat intro (_ : _ ≤ lim))
          refine SemL.weak (sel := []) ⟨by simp only [gE, ↓gT, ↓reduceIte, reduceCtorEq, reduceAdd, reduceEqDiff, reduceLeDiff, reduceLT, hwT, selS, erT, eq_true hc38, eq_true (ix_nn h_e39), m_e39, hc41, eq_false hc42, hc52, eq_true hg53, eq_true hg55, eq_true hg57, eq_true hg59], by decide, by decide, by simp only [gE, ↓gT, ↓reduceIte, reduceCtorEq, reduceAdd, reduceEqDiff, reduceLeDiff, reduceLT, hwT, selS, erT, subR, eq_true hc38, eq_true (ix_nn h_e39), m_e39, hc41, eq_false hc42, hc52, eq_true hg53, eq_true hg55, eq_true hg57, eq_true hg59], by simp only [gE, ↓gT, ↓reduceIte, reduceCtorEq, reduceAdd, reduceEqDiff, reduceLeDiff, reduceLT, hwT, selS, erT, scT, esT, eq_true hc38, eq_true (ix_nn h_e39), m_e39, hc41, eq_false hc42, hc52, eq_true hg53, eq_true hg55, eq_true hg57, eq_true hg59], by simp only [gE, ↓gT, ↓reduceIte, reduceCtorEq, reduceAdd, reduceEqDiff, reduceLeDiff, reduceLT, hwT, selS, erT, scT, esT, eq_true hc38, eq_true (ix_nn h_e39), m_e39, hc41, eq_false hc42, hc52, eq_true hg53, eq_true hg55, eq_true hg57, eq_true hg59]⟩ (ih_impl_resText_L0 (p1, p0, (t6_L0 ++ ((⟨⟨[32]⟩⟩ : ByteArray) ++ (((⟨⟨[40]⟩⟩ : ByteArray) ++ r40.1) ++ (⟨⟨[41]⟩⟩ : ByteArray)))), (IntKind.i64.wrap (t40_L0 + 1))) out h Q hx hr)
        · rw [if_neg hc52] at h
          replace hc52 := eq_false_of_ne_true hc52
          refine SemF.cond rfl ?_
          simp only [gE, ↓gT, ↓reduceIte, reduceCtorEq, reduceAdd, reduceEqDiff, reduceLeDiff, reduceLT, eq_true hc38, eq_true (ix_nn h_e39), m_e39, hc41, eq_false hc42, hc52]
          refine SemF.skip rfl ?_
          simp only [gE, ↓gT, ↓reduceIte, reduceCtorEq, reduceAdd, reduceEqDiff, reduceLeDiff, reduceLT, eq_true hc38, eq_true (ix_nn h_e39), m_e39, hc41, eq_false hc42, hc52]
          refine SemF.reg true rfl ?_
          try simp only [gE, ↓gT, ↓reduceIte, reduceCtorEq, reduceAdd, reduceEqDiff, reduceLeDiff, reduceLT, eq_true hc38, eq_true (ix_nn h_e39), m_e39, hc41, eq_false hc42, hc52]; (repeat intro (_ : _ ≤ lim))
          obtain ⟨u62, h_u62, h⟩ := bs h
          have hg61 := gd_some h_u62
          try simp only [gE, ↓gT, ↓reduceIte, reduceCtorEq, reduceAdd, reduceEqDiff, reduceLeDiff, reduceLT, eq_true hc38, eq_true (ix_nn h_e39), m_e39, hc41, eq_false hc42, hc52, eq_true hg61]; (repeat intro (_ : _ ≤ lim))
          obtain ⟨u64, h_u64, h⟩ := bs h
          have hg63 := gd_some h_u64
          try simp only [gE, ↓gT, ↓reduceIte, reduceCtorEq, reduceAdd, reduceEqDiff, reduceLeDiff, reduceLT, eq_true hc38, eq_true (ix_nn h_e39), m_e39, hc41, eq_false hc42, hc52, eq_true hg61, eq_true hg63]; (repeat intro (_ : _ ≤ lim))
          refine SemF.reg true rfl ?_
          try simp only [gE, ↓gT, ↓reduceIte, reduceCtorEq, reduceAdd, reduceEqDiff, reduceLeDiff, reduceLT, eq_true hc38, eq_true (ix_nn h_e39), m_e39, hc41, eq_false hc42, hc52, eq_true hg61, eq_true hg63]; (repeat intro (_ : _ ≤ lim))
          refine SemL.weak (sel := []) ⟨by simp only [gE, ↓gT, ↓reduceIte, reduceCtorEq, reduceAdd, reduceEqDiff, reduceLeDiff, reduceLT, hwT, selS, erT, eq_true hc38, eq_true (ix_nn h_e39), m_e39, hc41, eq_false hc42, hc52, eq_true hg61, eq_true hg63], by decide, by decide, by simp only [gE, ↓gT, ↓reduceIte, reduceCtorEq, reduceAdd, reduceEqDiff, reduceLeDiff, reduceLT, hwT, selS, erT, subR, eq_true hc38, eq_true (ix_nn h_e39), m_e39, hc41, eq_false hc42, hc52, eq_true hg61, eq_true hg63], by simp only [gE, ↓gT, ↓reduceIte, reduceCtorEq, reduceAdd, reduceEqDiff, reduceLeDiff, reduceLT, hwT, selS, erT, scT, esT, eq_true hc38, eq_true (ix_nn h_e39), m_e39, hc41, eq_false hc42, hc52, eq_true hg61, eq_true hg63], by simp only [gE, ↓gT, ↓reduceIte, reduceCtorEq, reduceAdd, reduceEqDiff, reduceLeDiff, reduceLT, hwT, selS, erT, scT, esT, eq_true hc38, eq_true (ix_nn h_e39), m_e39, hc41, eq_false hc42, hc52, eq_true hg61, eq_true hg63]⟩ (ih_impl_resText_L0 (p1, p0, (t6_L0 ++ ((⟨⟨[32]⟩⟩ : ByteArray) ++ r40.1)), (IntKind.i64.wrap (t40_L0 + 1))) out h Q hx hr)
    · rw [if_neg hc41] at h
      replace hc41 := eq_false_of_ne_true hc41
      refine SemF.cond rfl ?_
      simp only [gE, ↓gT, ↓reduceIte, reduceCtorEq, reduceAdd, reduceEqDiff, reduceLeDiff, reduceLT, eq_true hc38, eq_true (ix_nn h_e39), m_e39, hc41]
      refine SemF.seq rfl ?_
      refine SemF.reg true rfl ?_
      try simp only [gE, ↓gT, ↓reduceIte, reduceCtorEq, reduceAdd, reduceEqDiff, reduceLeDiff, reduceLT, eq_true hc38, eq_true (ix_nn h_e39), m_e39, hc41]; (repeat intro (_ : _ ≤ lim))
      refine SemF.ret rfl ?_
      try simp only [gE, ↓gT, ↓reduceIte, reduceCtorEq, reduceAdd, reduceEqDiff, reduceLeDiff, reduceLT, eq_true hc38, eq_true (ix_nn h_e39), m_e39, hc41]; (repeat intro (_ : _ ≤ lim))
      obtain rfl := Option.some.inj h
      refine hr _ rfl _ _ ?_
      simp only [gE, ↓gT, ↓reduceIte, reduceCtorEq, reduceAdd, reduceEqDiff, reduceLeDiff, reduceLT, RetP_def, eq_true hc38, eq_true (ix_nn h_e39), m_e39, hc41]
  · rw [if_neg hc38] at h
    refine SemF.cond rfl ?_
    simp only [gE, ↓gT, ↓reduceIte, reduceCtorEq, reduceAdd, reduceEqDiff, reduceLeDiff, reduceLT, eq_false hc38]
    refine SemF.exit rfl ?_
    simp only [gE, ↓gT, ↓reduceIte, reduceCtorEq, reduceAdd, reduceEqDiff, reduceLeDiff, reduceLT, eq_false hc38]
    obtain rfl := Option.some.inj h
    refine hx _ rfl _ _ [] ⟨by simp only [gE, ↓gT, ↓reduceIte, reduceCtorEq, reduceAdd, reduceEqDiff, reduceLeDiff, reduceLT, hwT, selS, erT, eq_false hc38], by decide, by decide, by simp only [gE, ↓gT, ↓reduceIte, reduceCtorEq, reduceAdd, reduceEqDiff, reduceLeDiff, reduceLT, hwT, selS, erT, subR, eq_false hc38], by simp only [gE, ↓gT, ↓reduceIte, reduceCtorEq, reduceAdd, reduceEqDiff, reduceLeDiff, reduceLT, hwT, selS, erT, scT, esT, eq_false hc38], by simp only [gE, ↓gT, ↓reduceIte, reduceCtorEq, reduceAdd, reduceEqDiff, reduceLeDiff, reduceLT, hwT, selS, erT, scT, esT, eq_false hc38]⟩
theorem impl_resText_all : (∀ (x : (Res × Int)) (r : (ByteArray × Bool)), M.impl_resText x = some r → HCp P F.impl_resText [(Res.enc x.1), (.int .i64 x.2)] (HV.tup [(HV.str r.1), (HV.bool r.2)])) ∧
  (∀ (x : (Int × Res × ByteArray × Int)) (out : (Sum (ByteArray × Bool) ByteArray)), M.impl_resText_L0 x = some out → ∀ Q : HExit → Env → St → Prop, (∀ v, out = .inr v → ∀ env st sel, Weak 0 sel [(6, (.str v))] [] env st → Q (.exit 1) env st) → (∀ r, out = .inl r → ∀ env st, RetP [(4, none), (5, none)] (HV.tup [(HV.str r.1), (HV.bool r.2)]) env st → Q .ret env st) → SemL P H.impl_resText.ntmps 0 H.impl_resText_l28 [(1, (.int .i64 x.1)), (6, (.str x.2.2.1)), (38, (.sl (List.map Res.enc x.2.1.L))), (39, (.int .i64 ((x.2.1.L.length : Nat) : Int))), (40, (.int .i64 x.2.2.2))] [] Q) := by
  refine M.impl_resText.mutual_partial_correctness (motive_1 := fun x r => HCp P F.impl_resText [(Res.enc x.1), (.int .i64 x.2)] (HV.tup [(HV.str r.1), (HV.bool r.2)])) (motive_2 := fun x out => ∀ Q : HExit → Env → St → Prop, (∀ v, out = .inr v → ∀ env st sel, Weak 0 sel [(6, (.str v))] [] env st → Q (.exit 1) env st) → (∀ r, out = .inl r → ∀ env st, RetP [(4, none), (5, none)] (HV.tup [(HV.str r.1), (HV.bool r.2)]) env st → Q .ret env st) → SemL P H.impl_resText.ntmps 0 H.impl_resText_l28 [(1, (.int .i64 x.1)), (6, (.str x.2.2.1)), (38, (.sl (List.map Res.enc x.2.1.L))), (39, (.int .i64 ((x.2.1.L.length : Nat) : Int))), (40, (.int .i64 x.2.2.2))] [] Q) ?_ ?_
  · exact fun f_impl_resText_L0 ih_impl_resText_L0 x r h => K.impl_resText_step f_impl_resText_L0 ih_impl_resText_L0 x r h
  · exact fun f_impl_resText f_impl_resText_L0 ih_impl_resText ih_impl_resText_L0 x out h => K.impl_resText_L0_step f_impl_resText f_impl_resText_L0 ih_impl_resText ih_impl_resText_L0 x out h
theorem impl_resText : (∀ (x : (Res × Int)) (r : (ByteArray × Bool)), M.impl_resText x = some r → HCp P F.impl_resText [(Res.enc x.1), (.int .i64 x.2)] (HV.tup [(HV.str r.1), (HV.bool r.2)])) := K.impl_resText_all.1
theorem impl_resText_L0 : (∀ (x : (Int × Res × ByteArray × Int)) (out : (Sum (ByteArray × Bool) ByteArray)), M.impl_resText_L0 x = some out → ∀ Q : HExit → Env → St → Prop, (∀ v, out = .inr v → ∀ env st sel, Weak 0 sel [(6, (.str v))] [] env st → Q (.exit 1) env st) → (∀ r, out = .inl r → ∀ env st, RetP [(4, none), (5, none)] (HV.tup [(HV.str r.1), (HV.bool r.2)]) env st → Q .ret env st) → SemL P H.impl_resText.ntmps 0 H.impl_resText_l28 [(1, (.int .i64 x.1)), (6, (.str x.2.2.1)), (38, (.sl (List.map Res.enc x.2.1.L))), (39, (.int .i64 ((x.2.1.L.length : Nat) : Int))), (40, (.int .i64 x.2.2.2))] [] Q) := K.impl_resText_all.2
theorem impl_ResText : ∀ (x : Res) (r : ByteArray), M.impl_ResText x = some r → HCp P F.impl_ResText [(Res.enc x)] (HV.str r) := by
  intro x r h
  revert h; revert x; intro p0 h
  unfold M.impl_ResText at h
  try dsimp only at h
  refine HCp.mkF S.impl_ResText (by simp [H.impl_ResText]) (by simp only [scT, esT, and_self, true_and, and_true]) ?_
  simp only [gE, ↓gT, ↓reduceIte, reduceCtorEq, reduceAdd, reduceEqDiff, reduceLeDiff, reduceLT, H.impl_ResText]
  refine SemF.seq rfl ?_
  refine SemF.reg true rfl ?_
  try simp only [gE, ↓gT, ↓reduceIte, reduceCtorEq, reduceAdd, reduceEqDiff, reduceLeDiff, reduceLT]; (repeat intro (_ : _ ≤ lim))
  refine SemF.seq rfl ?_
  refine SemF.reg true rfl ?_
  try simp only [gE, ↓gT, ↓reduceIte, reduceCtorEq, reduceAdd, reduceEqDiff, reduceLeDiff, reduceLT]; (repeat intro (_ : _ ≤ lim))
  obtain ⟨r1, h_r1, h⟩ := bs h
  refine HCp.callE (K.impl_resText (p0, 1) r1 h_r1) (by simp only [gE, ↓gT, ↓reduceIte, reduceCtorEq, reduceAdd, reduceEqDiff, reduceLeDiff, reduceLT]) (by simp only [scT, esT, and_self, true_and, and_true]) (by simp only [scT, esT, and_self, true_and, and_true]) ?_
  try simp only [gE, ↓gT, ↓reduceIte, reduceCtorEq, reduceAdd, reduceEqDiff, reduceLeDiff, reduceLT]; (repeat intro (_ : _ ≤ lim))
  refine SemF.seq rfl ?_
  refine SemF.seq rfl ?_
  refine SemF.reg true rfl ?_
  try simp only [gE, ↓gT, ↓reduceIte, reduceCtorEq, reduceAdd, reduceEqDiff, reduceLeDiff, reduceLT]; (repeat intro (_ : _ ≤ lim))
  by_cases hc2 : r1.2 = true
  · rw [if_pos hc2] at h
    refine SemF.cond rfl ?_
    simp only [gE, ↓gT, ↓reduceIte, reduceCtorEq, reduceAdd, reduceEqDiff, reduceLeDiff, reduceLT, hc2]
    refine SemF.skip rfl ?_
    simp only [gE, ↓gT, ↓reduceIte, reduceCtorEq, reduceAdd, reduceEqDiff, reduceLeDiff, reduceLT, hc2]
    refine SemF.seq rfl ?_
    refine SemF.reg true rfl ?_
    try simp only [gE, ↓gT, ↓reduceIte, reduceCtorEq, reduceAdd, reduceEqDiff, reduceLeDiff, reduceLT, hc2]; (repeat intro (_ : _ ≤ lim))
    refine SemF.ret rfl ?_
    try simp only [gE, ↓gT, ↓reduceIte, reduceCtorEq, reduceAdd, reduceEqDiff, reduceLeDiff, reduceLT, hc2]; (repeat intro (_ : _ ≤ lim))
    obtain rfl := Option.some.inj h
    simp only [gE, ↓gT, ↓reduceIte, reduceCtorEq, reduceAdd, reduceEqDiff, reduceLeDiff, reduceLT, RetP_def, hc2]
  · rw [if_neg hc2] at h
    replace hc2 := eq_false_of_ne_true hc2
    refine SemF.cond rfl ?_
    simp only [gE, ↓gT, ↓reduceIte, reduceCtorEq, reduceAdd, reduceEqDiff, reduceLeDiff, reduceLT, hc2]
    refine SemF.seq rfl ?_
    refine SemF.reg true rfl ?_
    try simp only [gE, ↓gT, ↓reduceIte, reduceCtorEq, reduceAdd, reduceEqDiff, reduceLeDiff, reduceLT, hc2]; (repeat intro (_ : _ ≤ lim))
    refine SemF.ret rfl ?_
    try simp only [gE, ↓gT, ↓reduceIte, reduceCtorEq, reduceAdd, reduceEqDiff, reduceLeDiff, reduceLT, hc2]; (repeat intro (_ : _ ≤ lim))
    obtain rfl := Option.some.inj h
    simp only [gE, ↓gT, ↓reduceIte, reduceCtorEq, reduceAdd, reduceEqDiff, reduceLeDiff, reduceLT, RetP_def, hc2]
theorem laws_szRes_step (f_laws_szResS : ((List Res) × Int) → Option Int) (ih_laws_szResS : ∀ (x : ((List Res) × Int)) (r : Int), f_laws_szResS x = some r → HCp P F.laws_szResS [(.sl (List.map Res.enc x.1)), (.int .i64 x.2)] (HV.int .i64 r)) (x : (Res × Int)) (r : Int) (h : (if (IntKind.i64.wrap (x.2 - ((x.1.S.size : Nat) : Int))) < 0 then some (-1) else
    (f_laws_szResS (x.1.L, (IntKind.i64.wrap (x.2 - ((x.1.S.size : Nat) : Int)))) >>= fun r2 =>
    (if r2 < 0 then some (-1) else
    some r2))) = some r) : HCp P F.laws_szRes [(Res.enc x.1), (.int .i64 x.2)] (HV.int .i64 r) := by
  obtain ⟨p0, p1⟩ := x
  try dsimp only at h
  refine HCp.mkF S.laws_szRes (by simp [H.laws_szRes]) (by simp only [scT, esT, and_self, true_and, and_true]) ?_
  simp only [gE, ↓gT, ↓reduceIte, reduceCtorEq, reduceAdd, reduceEqDiff, reduceLeDiff, reduceLT, H.laws_szRes]
  refine SemF.seq rfl ?_
  refine SemF.reg true rfl ?_
  try simp only [gE, ↓gT, ↓reduceIte, reduceCtorEq, reduceAdd, reduceEqDiff, reduceLeDiff, reduceLT]; (repeat intro (_ : _ ≤ lim))
  refine SemF.seq rfl ?_
  refine SemF.reg true rfl ?_
  try simp only [gE, ↓gT, ↓reduceIte, reduceCtorEq, reduceAdd, reduceEqDiff, reduceLeDiff, reduceLT]; (repeat intro (_ : _ ≤ lim))
  (repeat intro (_ : _ ≤ lim))
  refine SemF.seq rfl ?_
  refine SemF.seq rfl ?_
  refine SemF.reg true rfl ?_
  try simp only [gE, ↓gT, ↓reduceIte, reduceCtorEq, reduceAdd, reduceEqDiff, reduceLeDiff, reduceLT]; (repeat intro (_ : _ ≤ lim))
  by_cases hc1 : (IntKind.i64.wrap (p1 - ((p0.S.size : Nat) : Int))) < 0
  · rw [if_pos hc1] at h
    refine SemF.cond rfl ?_
    simp only [gE, ↓gT, ↓reduceIte, reduceCtorEq, reduceAdd, reduceEqDiff, reduceLeDiff, reduceLT, eq_true hc1]
    refine SemF.seq rfl ?_
    refine SemF.reg true rfl ?_
    try simp only [gE, ↓gT, ↓reduceIte, reduceCtorEq, reduceAdd, reduceEqDiff, reduceLeDiff, reduceLT, eq_true hc1]; (repeat intro (_ : _ ≤ lim))
    refine SemF.ret rfl ?_
    try simp only [gE, ↓gT, ↓reduceIte, reduceCtorEq, reduceAdd, reduceEqDiff, reduceLeDiff, reduceLT, eq_true hc1]; (repeat intro (_ : _ ≤ lim))
    obtain rfl := Option.some.inj h
    simp only [gE, ↓gT, ↓reduceIte, reduceCtorEq, reduceAdd, reduceEqDiff, reduceLeDiff, reduceLT, RetP_def, eq_true hc1]
  · rw [if_neg hc1] at h
    refine SemF.cond rfl ?_
    simp only [gE, ↓gT, ↓reduceIte, reduceCtorEq, reduceAdd, reduceEqDiff, reduceLeDiff, reduceLT, eq_false hc1]
    refine SemF.skip rfl ?_
    simp only [gE, ↓gT, ↓reduceIte, reduceCtorEq, reduceAdd, reduceEqDiff, reduceLeDiff, reduceLT, eq_false hc1]
    refine SemF.seq rfl ?_
    refine SemF.reg true rfl ?_
    try simp only [gE, ↓gT, ↓reduceIte, reduceCtorEq, reduceAdd, reduceEqDiff, reduceLeDiff, reduceLT, eq_false hc1]; (repeat intro (_ : _ ≤ lim))
    obtain ⟨r2, h_r2, h⟩ := bs h
    refine HCp.callE (ih_laws_szResS (p0.L, (IntKind.i64.wrap (p1 - ((p0.S.size : Nat) : Int)))) r2 h_r2) (by simp only [gE, ↓gT, ↓reduceIte, reduceCtorEq, reduceAdd, reduceEqDiff, reduceLeDiff, reduceLT, eq_false hc1]) (by simp only [scT, esT, and_self, true_and, and_true]) (by simp only [scT, esT, and_self, true_and, and_true]) ?_
    try simp only [gE, ↓gT, ↓reduceIte, reduceCtorEq, reduceAdd, reduceEqDiff, reduceLeDiff, reduceLT, eq_false hc1]; (repeat intro (_ : _ ≤ lim))
    refine SemF.seq rfl ?_
    refine SemF.seq rfl ?_
    refine SemF.reg true rfl ?_
    try simp only [gE, ↓gT, ↓reduceIte, reduceCtorEq, reduceAdd, reduceEqDiff, reduceLeDiff, reduceLT, eq_false hc1]; (repeat intro (_ : _ ≤ lim))
    by_cases hc3 : r2 < 0
    · rw [if_pos hc3] at h
      refine SemF.cond rfl ?_
      simp only [gE, ↓gT, ↓reduceIte, reduceCtorEq, reduceAdd, reduceEqDiff, reduceLeDiff, reduceLT, eq_false hc1, eq_true hc3]
      refine SemF.seq rfl ?_
      refine SemF.reg true rfl ?_
      try simp only [gE, ↓gT, ↓reduceIte, reduceCtorEq, reduceAdd, reduceEqDiff, reduceLeDiff, reduceLT, eq_false hc1, eq_true hc3]; (repeat intro (_ : _ ≤ lim))
      refine SemF.ret rfl ?_
      try simp only [gE, ↓gT, ↓reduceIte, reduceCtorEq, reduceAdd, reduceEqDiff, reduceLeDiff, reduceLT, eq_false hc1, eq_true hc3]; (repeat intro (_ : _ ≤ lim))
      obtain rfl := Option.some.inj h
      simp only [gE, ↓gT, ↓reduceIte, reduceCtorEq, reduceAdd, reduceEqDiff, reduceLeDiff, reduceLT, RetP_def, eq_false hc1, eq_true hc3]
    · rw [if_neg hc3] at h
      refine SemF.cond rfl ?_
      simp only [gE, ↓gT, ↓reduceIte, reduceCtorEq, reduceAdd, reduceEqDiff, reduceLeDiff, reduceLT, eq_false hc1, eq_false hc3]
      refine SemF.skip rfl ?_
      simp only [gE, ↓gT, ↓reduceIte, reduceCtorEq, reduceAdd, reduceEqDiff, reduceLeDiff, reduceLT, eq_false hc1, eq_false hc3]
      refine SemF.seq rfl ?_
      refine SemF.reg true rfl ?_
      try simp only [gE, ↓gT, ↓reduceIte, reduceCtorEq, reduceAdd, reduceEqDiff, reduceLeDiff, reduceLT, eq_false hc1, eq_false hc3]; (repeat intro (_ : _ ≤ lim))
      refine SemF.ret rfl ?_
      try simp only [gE, ↓gT, ↓reduceIte, reduceCtorEq, reduceAdd, reduceEqDiff, reduceLeDiff, reduceLT, eq_false hc1, eq_false hc3]; (repeat intro (_ : _ ≤ lim))
      obtain rfl := Option.some.inj h
      simp only [gE, ↓gT, ↓reduceIte, reduceCtorEq, reduceAdd, reduceEqDiff, reduceLeDiff, reduceLT, RetP_def, eq_false hc1, eq_false hc3]
theorem laws_szResS_step (f_laws_szResS_L0 : ((List Res) × Int × Int) → Option (Sum Int Int)) (ih_laws_szResS_L0 : ∀ (x : ((List Res) × Int × Int)) (out : (Sum Int Int)), f_laws_szResS_L0 x = some out → ∀ Q : HExit → Env → St → Prop, (∀ v, out = .inr v → ∀ env st sel, Weak 0 sel [(1, (.int .i64 v))] [] env st → Q (.exit 0) env st) → (∀ r, out = .inl r → ∀ env st, RetP [(4, none)] (HV.int .i64 r) env st → Q .ret env st) → SemL P H.laws_szResS.ntmps 0 H.laws_szResS_l6 [(0, (.sl (List.map Res.enc x.1))), (1, (.int .i64 x.2.1)), (5, (.int .i64 x.2.2))] [] Q) (x : ((List Res) × Int)) (r : Int) (h : (if (IntKind.i64.wrap (x.2 - ((x.1.length : Nat) : Int))) < 0 then some (-1) else
    (f_laws_szResS_L0 (x.1, (IntKind.i64.wrap (x.2 - ((x.1.length : Nat) : Int))), 0) >>= fun s10 =>
    (match s10 with
    | .inl r11 => some r11
    | .inr v12 => some v12))) = some r) : HCp P F.laws_szResS [(.sl (List.map Res.enc x.1)), (.int .i64 x.2)] (HV.int .i64 r) := by
  obtain ⟨p0, p1⟩ := x
  try dsimp only at h
  refine HCp.mkF S.laws_szResS (by simp [H.laws_szResS]) (by simp only [scT, esT, and_self, true_and, and_true]) ?_
  simp only [gE, ↓gT, ↓reduceIte, reduceCtorEq, reduceAdd, reduceEqDiff, reduceLeDiff, reduceLT, H.laws_szResS]
  refine SemF.seq rfl ?_
  refine SemF.reg true rfl ?_
  try simp only [gE, ↓gT, ↓reduceIte, reduceCtorEq, reduceAdd, reduceEqDiff, reduceLeDiff, reduceLT]; (repeat intro (_ : _ ≤ lim))
  refine SemF.seq rfl ?_
  refine SemF.reg true rfl ?_
  try simp only [gE, ↓gT, ↓reduceIte, reduceCtorEq, reduceAdd, reduceEqDiff, reduceLeDiff, reduceLT]; (repeat intro (_ : _ ≤ lim))
  (repeat intro (_ : _ ≤ lim))
  refine SemF.seq rfl ?_
  refine SemF.seq rfl ?_
  refine SemF.reg true rfl ?_
  try simp only [gE, ↓gT, ↓reduceIte, reduceCtorEq, reduceAdd, reduceEqDiff, reduceLeDiff, reduceLT]; (repeat intro (_ : _ ≤ lim))
  by_cases hc1 : (IntKind.i64.wrap (p1 - ((p0.length : Nat) : Int))) < 0
  · rw [if_pos hc1] at h
    refine SemF.cond rfl ?_
    simp only [gE, ↓gT, ↓reduceIte, reduceCtorEq, reduceAdd, reduceEqDiff, reduceLeDiff, reduceLT, eq_true hc1]
    refine SemF.seq rfl ?_
    refine SemF.reg true rfl ?_
    try simp only [gE, ↓gT, ↓reduceIte, reduceCtorEq, reduceAdd, reduceEqDiff, reduceLeDiff, reduceLT, eq_true hc1]; (repeat intro (_ : _ ≤ lim))
    refine SemF.ret rfl ?_
    try simp only [gE, ↓gT, ↓reduceIte, reduceCtorEq, reduceAdd, reduceEqDiff, reduceLeDiff, reduceLT, eq_true hc1]; (repeat intro (_ : _ ≤ lim))
    obtain rfl := Option.some.inj h
    simp only [gE, ↓gT, ↓reduceIte, reduceCtorEq, reduceAdd, reduceEqDiff, reduceLeDiff, reduceLT, RetP_def, eq_true hc1]
  · rw [if_neg hc1] at h
    refine SemF.cond rfl ?_
    simp only [gE, ↓gT, ↓reduceIte, reduceCtorEq, reduceAdd, reduceEqDiff, reduceLeDiff, reduceLT, eq_false hc1]
    refine SemF.skip rfl ?_
    simp only [gE, ↓gT, ↓reduceIte, reduceCtorEq, reduceAdd, reduceEqDiff, reduceLeDiff, reduceLT, eq_false hc1]
    refine SemF.seq rfl ?_
    refine SemF.seq rfl ?_
    refine SemF.reg true rfl ?_
    try simp only [gE, ↓gT, ↓reduceIte, reduceCtorEq, reduceAdd, reduceEqDiff, reduceLeDiff, reduceLT, eq_false hc1]; (repeat intro (_ : _ ≤ lim))
    refine SemF.block rfl ?_
    obtain ⟨s10, h_s10, h⟩ := bs h
    rcases s10 with r11 | v12
    · dsimp only at h
      refine SemF.loop rfl ?_
      refine SemL.weak (sel := []) ⟨by simp only [gE, ↓gT, ↓reduceIte, reduceCtorEq, reduceAdd, reduceEqDiff, reduceLeDiff, reduceLT, hwT, selS, erT, eq_false hc1], by decide, by decide, by simp only [gE, ↓gT, ↓reduceIte, reduceCtorEq, reduceAdd, reduceEqDiff, reduceLeDiff, reduceLT, hwT, selS, erT, subR, eq_false hc1], by simp only [gE, ↓gT, ↓reduceIte, reduceCtorEq, reduceAdd, reduceEqDiff, reduceLeDiff, reduceLT, hwT, selS, erT, scT, esT, eq_false hc1], by simp only [gE, ↓gT, ↓reduceIte, reduceCtorEq, reduceAdd, reduceEqDiff, reduceLeDiff, reduceLT, hwT, selS, erT, scT, esT, eq_false hc1]⟩ (ih_laws_szResS_L0 (p0, (IntKind.i64.wrap (p1 - ((p0.length : Nat) : Int))), 0) (.inl r11) h_s10 _ ?_ ?_)
      · intro v hv; cases hv
      · intro r' hr' env st hy
        cases hr'
        simp only [gE, ↓gT, ↓reduceIte, reduceCtorEq, reduceAdd, reduceEqDiff, reduceLeDiff, reduceLT]
        obtain rfl := Option.some.inj h
        exact hy
    · dsimp only at h
      refine SemF.loop rfl ?_
      refine SemL.weak (sel := []) ⟨by simp only [gE, ↓gT, ↓reduceIte, reduceCtorEq, reduceAdd, reduceEqDiff, reduceLeDiff, reduceLT, hwT, selS, erT, eq_false hc1], by decide, by decide, by simp only [gE, ↓gT, ↓reduceIte, reduceCtorEq, reduceAdd, reduceEqDiff, reduceLeDiff, reduceLT, hwT, selS, erT, subR, eq_false hc1], by simp only [gE, ↓gT, ↓reduceIte, reduceCtorEq, reduceAdd, reduceEqDiff, reduceLeDiff, reduceLT, hwT, selS, erT, scT, esT, eq_false hc1], by simp only [gE, ↓gT, ↓reduceIte, reduceCtorEq, reduceAdd, reduceEqDiff, reduceLeDiff, reduceLT, hwT, selS, erT, scT, esT, eq_false hc1]⟩ (ih_laws_szResS_L0 (p0, (IntKind.i64.wrap (p1 - ((p0.length : Nat) : Int))), 0) (.inr v12) h_s10 _ ?_ ?_)
      rotate_left
      · intro r' hr'; cases hr'
      intro v hv env st sel hw
      cases hv
      simp only [gE, ↓gT, ↓reduceIte, reduceCtorEq, reduceAdd, reduceEqDiff, reduceLeDiff, reduceLT]
      first | refine SemF.weak hw ?_ | refine SemL.weak hw ?_
      refine SemF.seq rfl ?_
      refine SemF.reg true rfl ?_
      try simp only [gE, ↓gT, ↓reduceIte, reduceCtorEq, reduceAdd, reduceEqDiff, reduceLeDiff, reduceLT, eq_false hc1]; (repeat intro (_ : _ ≤ lim))
      refine SemF.ret rfl ?_
      try simp only [gE, ↓gT, ↓reduceIte, reduceCtorEq, reduceAdd, reduceEqDiff, reduceLeDiff, reduceLT, eq_false hc1]; (repeat intro (_ : _ ≤ lim))
      obtain rfl := Option.some.inj h
      simp only [gE, ↓gT, ↓reduceIte, reduceCtorEq, reduceAdd, reduceEqDiff, reduceLeDiff, reduceLT, RetP_def, eq_false hc1]
end K
end W
