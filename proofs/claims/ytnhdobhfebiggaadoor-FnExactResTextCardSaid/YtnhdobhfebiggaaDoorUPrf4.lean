import Derived.Test.YtnhdobhfebiggaaDoorUPrf3
namespace W
set_option linter.unusedSimpArgs false
set_option linter.unusedVariables false
open Go HL S
open Nat (reduceAdd reduceEqDiff reduceLeDiff reduceSub reduceMul reduceLT)
set_option linter.unusedVariables false
set_option maxRecDepth 100000
set_option maxHeartbeats 4000000
namespace K
theorem spec_l13Text_L0_step (f_spec_l13Text : (Res × Int) → Option (ByteArray × Bool)) (f_spec_l13Text_L0 : (Int × Res × ByteArray × Int) → Option (Sum (ByteArray × Bool) ByteArray)) (ih_spec_l13Text : ∀ (x : (Res × Int)) (r : (ByteArray × Bool)), f_spec_l13Text x = some r → HCp P F.spec_l13Text [(Res.enc x.1), (.int .i64 x.2)] (HV.tup [(HV.str r.1), (HV.bool r.2)])) (ih_spec_l13Text_L0 : ∀ (x : (Int × Res × ByteArray × Int)) (out : (Sum (ByteArray × Bool) ByteArray)), f_spec_l13Text_L0 x = some out → ∀ Q : HExit → Env → St → Prop, (∀ v, out = .inr v → ∀ env st sel, Weak 0 sel [(6, (.str v))] [] env st → Q (.exit 1) env st) → (∀ r, out = .inl r → ∀ env st, RetP [(4, none), (5, none)] (HV.tup [(HV.str r.1), (HV.bool r.2)]) env st → Q .ret env st) → SemL P H.spec_l13Text.ntmps 0 H.spec_l13Text_l28 [(1, (.int .i64 x.1)), (2, (.ptr 0 1 0 0)), (6, (.str x.2.2.1)), (7, (.int .i64 x.2.2.2))] [(.box (Res.enc x.2.1))] Q) (x : (Int × Res × ByteArray × Int)) (out : (Sum (ByteArray × Bool) ByteArray)) (h : (if x.2.2.2 < ((x.2.1.L.length : Nat) : Int) then (ix x.2.1.L x.2.2.2 >>= fun e44 =>
    (f_spec_l13Text (e44, (IntKind.i64.wrap (x.1 + 1))) >>= fun r45 =>
    (if r45.2 = true then (if 0 < ((e44.L.length : Nat) : Int) then (gd ((⟨⟨[40]⟩⟩ : ByteArray).size + r45.1.size ≤ lim) >>= fun u49 =>
    (gd (((⟨⟨[40]⟩⟩ : ByteArray) ++ r45.1).size + (⟨⟨[41]⟩⟩ : ByteArray).size ≤ lim) >>= fun u51 =>
    (gd (x.2.2.1.size + (⟨⟨[32]⟩⟩ : ByteArray).size ≤ lim) >>= fun u53 =>
    (gd ((x.2.2.1 ++ (⟨⟨[32]⟩⟩ : ByteArray)).size + (((⟨⟨[40]⟩⟩ : ByteArray) ++ r45.1) ++ (⟨⟨[41]⟩⟩ : ByteArray)).size ≤ lim) >>= fun u55 =>
    f_spec_l13Text_L0 (x.1, x.2.1, ((x.2.2.1 ++ (⟨⟨[32]⟩⟩ : ByteArray)) ++ (((⟨⟨[40]⟩⟩ : ByteArray) ++ r45.1) ++ (⟨⟨[41]⟩⟩ : ByteArray))), (IntKind.i64.wrap (x.2.2.2 + 1))))))) else
    (if 0 < ((r45.1.size : Nat) : Int) then (bx r45.1 0 >>= fun c57 =>
    (if c57 = 45 then (gd ((⟨⟨[40]⟩⟩ : ByteArray).size + r45.1.size ≤ lim) >>= fun u60 =>
    (gd (((⟨⟨[40]⟩⟩ : ByteArray) ++ r45.1).size + (⟨⟨[41]⟩⟩ : ByteArray).size ≤ lim) >>= fun u62 =>
    (gd (x.2.2.1.size + (⟨⟨[32]⟩⟩ : ByteArray).size ≤ lim) >>= fun u64 =>
    (gd ((x.2.2.1 ++ (⟨⟨[32]⟩⟩ : ByteArray)).size + (((⟨⟨[40]⟩⟩ : ByteArray) ++ r45.1) ++ (⟨⟨[41]⟩⟩ : ByteArray)).size ≤ lim) >>= fun u66 =>
    f_spec_l13Text_L0 (x.1, x.2.1, ((x.2.2.1 ++ (⟨⟨[32]⟩⟩ : ByteArray)) ++ (((⟨⟨[40]⟩⟩ : ByteArray) ++ r45.1) ++ (⟨⟨[41]⟩⟩ : ByteArray))), (IntKind.i64.wrap (x.2.2.2 + 1))))))) else
    (gd (x.2.2.1.size + (⟨⟨[32]⟩⟩ : ByteArray).size ≤ lim) >>= fun u68 =>
    (gd ((x.2.2.1 ++ (⟨⟨[32]⟩⟩ : ByteArray)).size + r45.1.size ≤ lim) >>= fun u70 =>
    f_spec_l13Text_L0 (x.1, x.2.1, ((x.2.2.1 ++ (⟨⟨[32]⟩⟩ : ByteArray)) ++ r45.1), (IntKind.i64.wrap (x.2.2.2 + 1))))))) else
    (gd (x.2.2.1.size + (⟨⟨[32]⟩⟩ : ByteArray).size ≤ lim) >>= fun u72 =>
    (gd ((x.2.2.1 ++ (⟨⟨[32]⟩⟩ : ByteArray)).size + r45.1.size ≤ lim) >>= fun u74 =>
    f_spec_l13Text_L0 (x.1, x.2.1, ((x.2.2.1 ++ (⟨⟨[32]⟩⟩ : ByteArray)) ++ r45.1), (IntKind.i64.wrap (x.2.2.2 + 1))))))) else
    some (.inl ((⟨⟨[]⟩⟩ : ByteArray), false))))) else
    some (.inr x.2.2.1)) = some out) : ∀ Q : HExit → Env → St → Prop, (∀ v, out = .inr v → ∀ env st sel, Weak 0 sel [(6, (.str v))] [] env st → Q (.exit 1) env st) → (∀ r, out = .inl r → ∀ env st, RetP [(4, none), (5, none)] (HV.tup [(HV.str r.1), (HV.bool r.2)]) env st → Q .ret env st) → SemL P H.spec_l13Text.ntmps 0 H.spec_l13Text_l28 [(1, (.int .i64 x.1)), (2, (.ptr 0 1 0 0)), (6, (.str x.2.2.1)), (7, (.int .i64 x.2.2.2))] [(.box (Res.enc x.2.1))] Q := by
  obtain ⟨p1, p0, t6_L0, t7_L0⟩ := x
  try dsimp only at h
  intro Q hx hr
  refine SemL.round ?_
  try dsimp only at hx
  refine SemF.seq rfl ?_
  refine SemF.seq rfl ?_
  refine SemF.reg true rfl ?_
  try simp only [gE, ↓gT, ↓reduceIte, reduceCtorEq, reduceAdd, reduceEqDiff, reduceLeDiff, reduceLT]; (repeat intro (_ : _ ≤ lim))
  (repeat intro (_ : _ ≤ lim))
  by_cases hc43 : t7_L0 < ((p0.L.length : Nat) : Int)
  · rw [if_pos hc43] at h
    refine SemF.cond rfl ?_
    simp only [gE, ↓gT, ↓reduceIte, reduceCtorEq, reduceAdd, reduceEqDiff, reduceLeDiff, reduceLT, eq_true hc43]
    refine SemF.skip rfl ?_
    simp only [gE, ↓gT, ↓reduceIte, reduceCtorEq, reduceAdd, reduceEqDiff, reduceLeDiff, reduceLT, eq_true hc43]
    refine SemF.seq rfl ?_
    refine SemF.block rfl ?_
    refine SemF.seq rfl ?_
    refine SemF.reg true rfl ?_
    try simp only [gE, ↓gT, ↓reduceIte, reduceCtorEq, reduceAdd, reduceEqDiff, reduceLeDiff, reduceLT, eq_true hc43]; (repeat intro (_ : _ ≤ lim))
    obtain ⟨e44, h_e44, h⟩ := bs h
    have m_e44 := ixm (f := Res.enc) (ix_get h_e44)
    try simp only [gE, ↓gT, ↓reduceIte, reduceCtorEq, reduceAdd, reduceEqDiff, reduceLeDiff, reduceLT, eq_true hc43, eq_true (ix_nn h_e44), m_e44]; (repeat intro (_ : _ ≤ lim))
    obtain ⟨r45, h_r45, h⟩ := bs h
    refine HCp.callE (ih_spec_l13Text (e44, (IntKind.i64.wrap (p1 + 1))) r45 h_r45) (by simp only [gE, ↓gT, ↓reduceIte, reduceCtorEq, reduceAdd, reduceEqDiff, reduceLeDiff, reduceLT, eq_true hc43, eq_true (ix_nn h_e44), m_e44]) (by simp only [scT, esT, and_self, true_and, and_true]) (by simp only [scT, esT, and_self, true_and, and_true]) ?_
    try simp only [gE, ↓gT, ↓reduceIte, reduceCtorEq, reduceAdd, reduceEqDiff, reduceLeDiff, reduceLT, eq_true hc43, eq_true (ix_nn h_e44), m_e44]; (repeat intro (_ : _ ≤ lim))
    refine SemF.seq rfl ?_
    refine SemF.seq rfl ?_
    refine SemF.reg true rfl ?_
    try simp only [gE, ↓gT, ↓reduceIte, reduceCtorEq, reduceAdd, reduceEqDiff, reduceLeDiff, reduceLT, eq_true hc43, eq_true (ix_nn h_e44), m_e44]; (repeat intro (_ : _ ≤ lim))
    by_cases hc46 : r45.2 = true
    · rw [if_pos hc46] at h
      refine SemF.cond rfl ?_
      simp only [gE, ↓gT, ↓reduceIte, reduceCtorEq, reduceAdd, reduceEqDiff, reduceLeDiff, reduceLT, eq_true hc43, eq_true (ix_nn h_e44), m_e44, hc46]
      refine SemF.skip rfl ?_
      simp only [gE, ↓gT, ↓reduceIte, reduceCtorEq, reduceAdd, reduceEqDiff, reduceLeDiff, reduceLT, eq_true hc43, eq_true (ix_nn h_e44), m_e44, hc46]
      refine SemF.seq rfl ?_
      refine SemF.seq rfl ?_
      refine SemF.reg true rfl ?_
      try simp only [gE, ↓gT, ↓reduceIte, reduceCtorEq, reduceAdd, reduceEqDiff, reduceLeDiff, reduceLT, eq_true hc43, eq_true (ix_nn h_e44), m_e44, hc46]; (repeat intro (_ : _ ≤ lim))
      (repeat intro (_ : _ ≤ lim))
      by_cases hc47 : 0 < ((e44.L.length : Nat) : Int)
      · rw [if_pos hc47] at h
        try simp only [gE, ↓gT, ↓reduceIte, reduceCtorEq, reduceAdd, reduceEqDiff, reduceLeDiff, reduceLT, eq_true hc43, eq_true (ix_nn h_e44), m_e44, hc46, eq_true hc47]; (repeat intro (_ : _ ≤ lim))
        refine SemF.cond rfl ?_
        simp only [gE, ↓gT, ↓reduceIte, reduceCtorEq, reduceAdd, reduceEqDiff, reduceLeDiff, reduceLT, eq_true hc43, eq_true (ix_nn h_e44), m_e44, hc46, eq_true hc47]
        refine SemF.reg true rfl ?_
        try simp only [gE, ↓gT, ↓reduceIte, reduceCtorEq, reduceAdd, reduceEqDiff, reduceLeDiff, reduceLT, eq_true hc43, eq_true (ix_nn h_e44), m_e44, hc46, eq_true hc47]; (repeat intro (_ : _ ≤ lim))
        obtain ⟨u49, h_u49, h⟩ := bs h
        have hg48 := gd_some h_u49
        try simp only [gE, ↓gT, ↓reduceIte, reduceCtorEq, reduceAdd, reduceEqDiff, reduceLeDiff, reduceLT, eq_true hc43, eq_true (ix_nn h_e44), m_e44, hc46, eq_true hc47, eq_true hg48]; (repeat intro (_ : _ ≤ lim))
        obtain ⟨u51, h_u51, h⟩ := bs h
        have hg50 := gd_some h_u51
        try simp only [gE, ↓gT, ↓reduceIte, reduceCtorEq, reduceAdd, reduceEqDiff, reduceLeDiff, reduceLT, eq_true hc43, eq_true (ix_nn h_e44), m_e44, hc46, eq_true hc47, eq_true hg48, eq_true hg50]; (repeat intro (_ : _ ≤ lim))
        refine SemF.reg true rfl ?_
        try simp only [gE, ↓gT, ↓reduceIte, reduceCtorEq, reduceAdd, reduceEqDiff, reduceLeDiff, reduceLT, eq_true hc43, eq_true (ix_nn h_e44), m_e44, hc46, eq_true hc47, eq_true hg48, eq_true hg50]; (repeat intro (_ : _ ≤ lim))
        obtain ⟨u53, h_u53, h⟩ := bs h
        have hg52 := gd_some h_u53
        try simp only [gE, ↓gT, ↓reduceIte, reduceCtorEq, reduceAdd, reduceEqDiff, reduceLeDiff, reduceLT, eq_true hc43, eq_true (ix_nn h_e44), m_e44, hc46, eq_true hc47, eq_true hg48, eq_true hg50, eq_true hg52]; (repeat intro (_ : _ ≤ lim))
        obtain ⟨u55, h_u55, h⟩ := bs h
        have hg54 := gd_some h_u55
        try simp only [gE, ↓gT, ↓reduceIte, reduceCtorEq, reduceAdd, reduceEqDiff, reduceLeDiff, reduceLT, eq_true hc43, eq_true (ix_nn h_e44), m_e44, hc46, eq_true hc47, eq_true hg48, eq_true hg50, eq_true hg52, eq_true hg54]; (repeat intro (_ : _ ≤ lim))
        refine SemF.reg true rfl ?_
        try simp only [gE, ↓gT, ↓reduceIte, reduceCtorEq, reduceAdd, reduceEqDiff, reduceLeDiff, reduceLT, eq_true hc43, eq_true (ix_nn h_e44), m_e44, hc46, eq_true hc47, eq_true hg48, eq_true hg50, eq_true hg52, eq_true hg54]; (repeat intro (_ : _ ≤ lim))
        refine SemL.weak (sel := [0]) ⟨by simp only [gE, ↓gT, ↓reduceIte, reduceCtorEq, reduceAdd, reduceEqDiff, reduceLeDiff, reduceLT, hwT, selS, erT, eq_true hc43, eq_true (ix_nn h_e44), m_e44, hc46, eq_true hc47, eq_true hg48, eq_true hg50, eq_true hg52, eq_true hg54], by decide, by decide, by simp only [gE, ↓gT, ↓reduceIte, reduceCtorEq, reduceAdd, reduceEqDiff, reduceLeDiff, reduceLT, hwT, selS, erT, subR, eq_true hc43, eq_true (ix_nn h_e44), m_e44, hc46, eq_true hc47, eq_true hg48, eq_true hg50, eq_true hg52, eq_true hg54], by simp only [gE, ↓gT, ↓reduceIte, reduceCtorEq, reduceAdd, reduceEqDiff, reduceLeDiff, reduceLT, hwT, selS, erT, scT, esT, eq_true hc43, eq_true (ix_nn h_e44), m_e44, hc46, eq_true hc47, eq_true hg48, eq_true hg50, eq_true hg52, eq_true hg54], by simp only [gE, ↓gT, ↓reduceIte, reduceCtorEq, reduceAdd, reduceEqDiff, reduceLeDiff, reduceLT, hwT, selS, erT, scT, esT, eq_true hc43, eq_true (ix_nn h_e44), m_e44, hc46, eq_true hc47, eq_true hg48, eq_true hg50, eq_true hg52, eq_true hg54]⟩ (ih_spec_l13Text_L0 (p1, p0, ((t6_L0 ++ (⟨⟨[32]⟩⟩ : ByteArray)) ++ (((⟨⟨[40]⟩⟩ : ByteArray) ++ r45.1) ++ (⟨⟨[41]⟩⟩ : ByteArray))), (IntKind.i64.wrap (t7_L0 + 1))) out h Q hx hr)
      · rw [if_neg hc47] at h
        try simp only [gE, ↓gT, ↓reduceIte, reduceCtorEq, reduceAdd, reduceEqDiff, reduceLeDiff, reduceLT, eq_true hc43, eq_true (ix_nn h_e44), m_e44, hc46, eq_false hc47]; (repeat intro (_ : _ ≤ lim))
        (repeat intro (_ : _ ≤ lim))
        by_cases hc56 : 0 < ((r45.1.size : Nat) : Int)
        · rw [if_pos hc56] at h
          try simp only [gE, ↓gT, ↓reduceIte, reduceCtorEq, reduceAdd, reduceEqDiff, reduceLeDiff, reduceLT, eq_true hc43, eq_true (ix_nn h_e44), m_e44, hc46, eq_false hc47, eq_true hc56]; (repeat intro (_ : _ ≤ lim))
          obtain ⟨c57, h_c57, h⟩ := bs h
          obtain ⟨c_c57, m_c57, v_c57⟩ := bx_get h_c57
          try simp only [gE, ↓gT, ↓reduceIte, reduceCtorEq, reduceAdd, reduceEqDiff, reduceLeDiff, reduceLT, eq_true hc43, eq_true (ix_nn h_e44), m_e44, hc46, eq_false hc47, eq_true hc56, eq_true (bx_nn h_c57), m_c57, v_c57]; (repeat intro (_ : _ ≤ lim))
          by_cases hc58 : c57 = 45
          · rw [if_pos hc58] at h
            refine SemF.cond rfl ?_
            simp only [gE, ↓gT, ↓reduceIte, reduceCtorEq, reduceAdd, reduceEqDiff, reduceLeDiff, reduceLT, eq_true hc43, eq_true (ix_nn h_e44), m_e44, hc46, eq_false hc47, eq_true hc56, eq_true (bx_nn h_c57), m_c57, v_c57, eq_true hc58]
            refine SemF.reg true rfl ?_
            try simp only [gE, ↓gT, ↓reduceIte, reduceCtorEq, reduceAdd, reduceEqDiff, reduceLeDiff, reduceLT, eq_true hc43, eq_true (ix_nn h_e44), m_e44, hc46, eq_false hc47, eq_true hc56, eq_true (bx_nn h_c57), m_c57, v_c57, eq_true hc58]; (repeat intro (_ : _ ≤ lim))
            obtain ⟨u60, h_u60, h⟩ := bs h
            have hg59 := gd_some h_u60
            try simp only [gE, ↓gT, ↓reduceIte, reduceCtorEq, reduceAdd, reduceEqDiff, reduceLeDiff, reduceLT, eq_true hc43, eq_true (ix_nn h_e44), m_e44, hc46, eq_false hc47, eq_true hc56, eq_true (bx_nn h_c57), m_c57, v_c57, eq_true hc58, eq_true hg59]; (repeat intro (_ : _ ≤ lim))
            obtain ⟨u62, h_u62, h⟩ := bs h
            have hg61 := gd_some h_u62
            try simp only [gE, ↓gT, ↓reduceIte, reduceCtorEq, reduceAdd, reduceEqDiff, reduceLeDiff, reduceLT, eq_true hc43, eq_true (ix_nn h_e44), m_e44, hc46, eq_false hc47, eq_true hc56, eq_true (bx_nn h_c57), m_c57, v_c57, eq_true hc58, eq_true hg59, eq_true hg61]; (repeat intro (_ : _ ≤ lim))
            refine SemF.reg true rfl ?_
            try simp only [gE, ↓gT, ↓reduceIte, reduceCtorEq, reduceAdd, reduceEqDiff, reduceLeDiff, reduceLT, eq_true hc43, eq_true (ix_nn h_e44), m_e44, hc46, eq_false hc47, eq_true hc56, eq_true (bx_nn h_c57), m_c57, v_c57, eq_true hc58, eq_true hg59, eq_true hg61]; (repeat intro (_ : _ ≤ lim))
            obtain ⟨u64, h_u64, h⟩ := bs h
            have hg63 := gd_some h_u64
            try simp only [gE, ↓gT, ↓reduceIte, reduceCtorEq, reduceAdd, reduceEqDiff, reduceLeDiff, reduceLT, eq_true hc43, eq_true (ix_nn h_e44), m_e44, hc46, eq_false hc47, eq_true hc56, eq_true (bx_nn h_c57), m_c57, v_c57, eq_true hc58, eq_true hg59, eq_true hg61, eq_true hg63]; (repeat intro (_ : _ ≤ lim))
            obtain ⟨u66, h_u66, h⟩ := bs h
            have hg65 := gd_some h_u66
            try simp only [gE, ↓gT, ↓reduceIte, reduceCtorEq, reduceAdd, reduceEqDiff, reduceLeDiff, reduceLT, eq_true hc43, eq_true (ix_nn h_e44), m_e44, hc46, eq_false hc47, eq_true hc56, eq_true (bx_nn h_c57), m_c57, v_c57, eq_true hc58, eq_true hg59, eq_true hg61, eq_true hg63, eq_true hg65]; (repeat intro (_ : _ ≤ lim))
            refine SemF.reg true rfl ?_
            try simp only [gE, ↓gT, ↓reduceIte, reduceCtorEq, reduceAdd, reduceEqDiff, reduceLeDiff, reduceLT, eq_true hc43, eq_true (ix_nn h_e44), m_e44, hc46, eq_false hc47, eq_true hc56, eq_true (bx_nn h_c57), m_c57, v_c57, eq_true hc58, eq_true hg59, eq_true hg61, eq_true hg63, eq_true hg65]; (repeat intro (_ : _ ≤ lim))
            refine SemL.weak (sel := [0]) ⟨by simp only [gE, ↓gT, ↓reduceIte, reduceCtorEq, reduceAdd, reduceEqDiff, reduceLeDiff, reduceLT, hwT, selS, erT, eq_true hc43, eq_true (ix_nn h_e44), m_e44, hc46, eq_false hc47, eq_true hc56, eq_true (bx_nn h_c57), m_c57, v_c57, eq_true hc58, eq_true hg59, eq_true hg61, eq_true hg63, eq_true hg65], by decide, by decide, by simp only [gE, ↓gT, ↓reduceIte, reduceCtorEq, reduceAdd, reduceEqDiff, reduceLeDiff, reduceLT, hwT, selS, erT, subR, eq_true hc43, eq_true (ix_nn h_e44), m_e44, hc46, eq_false hc47, eq_true hc56, eq_true (bx_nn h_c57), m_c57, v_c57, eq_true hc58, eq_true hg59, eq_true hg61, eq_true hg63, eq_true hg65], by simp only [gE, ↓gT, ↓reduceIte, reduceCtorEq, reduceAdd, reduceEqDiff, reduceLeDiff, reduceLT, hwT, selS, erT, scT, esT, eq_true hc43, eq_true (ix_nn h_e44), m_e44, hc46, eq_false hc47, eq_true hc56, eq_true (bx_nn h_c57), m_c57, v_c57, eq_true hc58, eq_true hg59, eq_true hg61, eq_true hg63, eq_true hg65], by simp only [gE, ↓gT, ↓reduceIte, reduceCtorEq, reduceAdd, reduceEqDiff, reduceLeDiff, reduceLT, hwT, selS, erT, scT, esT, eq_true hc43, eq_true (ix_nn h_e44), m_e44, hc46, eq_false hc47, eq_true hc56, eq_true (bx_nn h_c57), m_c57, v_c57, eq_true hc58, eq_true hg59, eq_true hg61, eq_true hg63, eq_true hg65]⟩ (ih_spec_l13Text_L0 (p1, p0, ((t6_L0 ++ (⟨⟨[32]⟩⟩ : ByteArray)) ++ (((⟨⟨[40]⟩⟩ : ByteArray) ++ r45.1) ++ (⟨⟨[41]⟩⟩ : ByteArray))), (IntKind.i64.wrap (t7_L0 + 1))) out h Q hx hr)
          · rw [if_neg hc58] at h
            refine SemF.cond rfl ?_
            simp only [gE, ↓gT, ↓reduceIte, reduceCtorEq, reduceAdd, reduceEqDiff, reduceLeDiff, reduceLT, eq_true hc43, eq_true (ix_nn h_e44), m_e44, hc46, eq_false hc47, eq_true hc56, eq_true (bx_nn h_c57), m_c57, v_c57, eq_false hc58]
            refine SemF.skip rfl ?_
            simp only [gE, ↓gT, ↓reduceIte, reduceCtorEq, reduceAdd, reduceEqDiff, reduceLeDiff, reduceLT, eq_true hc43, eq_true (ix_nn h_e44), m_e44, hc46, eq_false hc47, eq_true hc56, eq_true (bx_nn h_c57), m_c57, v_c57, eq_false hc58]
            refine SemF.reg true rfl ?_
            try simp only [gE, ↓gT, ↓reduceIte, reduceCtorEq, reduceAdd, reduceEqDiff, reduceLeDiff, reduceLT, eq_true hc43, eq_true (ix_nn h_e44), m_e44, hc46, eq_false hc47, eq_true hc56, eq_true (bx_nn h_c57), m_c57, v_c57, eq_false hc58]; (repeat intro (_ : _ ≤ lim))
            obtain ⟨u68, h_u68, h⟩ := bs h
            have hg67 := gd_some h_u68
            try simp only [gE, ↓gT, ↓reduceIte, reduceCtorEq, reduceAdd, reduceEqDiff, reduceLeDiff, reduceLT, eq_true hc43, eq_true (ix_nn h_e44), m_e44, hc46, eq_false hc47, eq_true hc56, eq_true (bx_nn h_c57), m_c57, v_c57, eq_false hc58, eq_true hg67]; (repeat intro (_ : _ ≤ lim))
            obtain ⟨u70, h_u70, h⟩ := bs h
            have hg69 := gd_some h_u70
            try simp only [gE, ↓gT, ↓reduceIte, reduceCtorEq, reduceAdd, reduceEqDiff, reduceLeDiff, reduceLT, eq_true hc43, eq_true (ix_nn h_e44), m_e44, hc46, eq_false hc47, eq_true hc56, eq_true (bx_nn h_c57), m_c57, v_c57, eq_false hc58, eq_true hg67, eq_true hg69]; (repeat intro (_ : _ ≤ lim))
            refine SemF.reg true rfl ?_
            try simp only [gE, ↓gT, ↓reduceIte, reduceCtorEq, reduceAdd, reduceEqDiff, reduceLeDiff, reduceLT, eq_true hc43, eq_true (ix_nn h_e44), m_e44, hc46, eq_false hc47, eq_true hc56, eq_true (bx_nn h_c57), m_c57, v_c57, eq_false hc58, eq_true hg67, eq_true hg69]; (repeat intro (_ : _ ≤ lim))
            refine SemL.weak (sel := [0]) ⟨by simp only [gE, ↓gT, ↓reduceIte, reduceCtorEq, reduceAdd, reduceEqDiff, reduceLeDiff, reduceLT, hwT, selS, erT, eq_true hc43, eq_true (ix_nn h_e44), m_e44, hc46, eq_false hc47, eq_true hc56, eq_true (bx_nn h_c57), m_c57, v_c57, eq_false hc58, eq_true hg67, eq_true hg69], by decide, by decide, by simp only [gE, ↓gT, ↓reduceIte, reduceCtorEq, reduceAdd, reduceEqDiff, reduceLeDiff, reduceLT, hwT, selS, erT, subR, eq_true hc43, eq_true (ix_nn h_e44), m_e44, hc46, eq_false hc47, eq_true hc56, eq_true (bx_nn h_c57), m_c57, v_c57, eq_false hc58, eq_true hg67, eq_true hg69], by simp only [gE, ↓gT, ↓reduceIte, reduceCtorEq, reduceAdd, reduceEqDiff, reduceLeDiff, reduceLT, hwT, selS, erT, scT, esT, eq_true hc43, eq_true (ix_nn h_e44), m_e44, hc46, eq_false hc47, eq_true hc56, eq_true (bx_nn h_c57), m_c57, v_c57, eq_false hc58, eq_true hg67, eq_true hg69], by simp only [gE, ↓gT, ↓reduceIte, reduceCtorEq, reduceAdd, reduceEqDiff, reduceLeDiff, reduceLT, hwT, selS, erT, scT, esT, eq_true hc43, eq_true (ix_nn h_e44), m_e44, hc46, eq_false hc47, eq_true hc56, eq_true (bx_nn h_c57), m_c57, v_c57, eq_false hc58, eq_true hg67, eq_true hg69]⟩ (ih_spec_l13Text_L0 (p1, p0, ((t6_L0 ++ (⟨⟨[32]⟩⟩ : ByteArray)) ++ r45.1), (IntKind.i64.wrap (t7_L0 + 1))) out h Q hx hr)
        · rw [if_neg hc56] at h
          try simp only [gE, ↓gT, ↓reduceIte, reduceCtorEq, reduceAdd, reduceEqDiff, reduceLeDiff, reduceLT, eq_true hc43, eq_true (ix_nn h_e44), m_e44, hc46, eq_false hc47, eq_false hc56]; (repeat intro (_ : _ ≤ lim))
          refine SemF.cond rfl ?_
          simp only [gE, ↓gT, ↓reduceIte, reduceCtorEq, reduceAdd, reduceEqDiff, reduceLeDiff, reduceLT, eq_true hc43, eq_true (ix_nn h_e44), m_e44, hc46, eq_false hc47, eq_false hc56]
          refine SemF.skip rfl ?_
          simp only [gE, ↓gT, ↓reduceIte, reduceCtorEq, reduceAdd, reduceEqDiff, reduceLeDiff, reduceLT, eq_true hc43, eq_true (ix_nn h_e44), m_e44, hc46, eq_false hc47, eq_false hc56]
          refine SemF.reg true rfl ?_
          try simp only [gE, ↓gT, ↓reduceIte, reduceCtorEq, reduceAdd, reduceEqDiff, reduceLeDiff, reduceLT, eq_true hc43, eq_true (ix_nn h_e44), m_e44, hc46, eq_false hc47, eq_false hc56]; (repeat intro (_ : _ ≤ lim))
          obtain ⟨u72, h_u72, h⟩ := bs h
          have hg71 := gd_some h_u72
          try simp only [gE, ↓gT, ↓reduceIte, reduceCtorEq, reduceAdd, reduceEqDiff, reduceLeDiff, reduceLT, eq_true hc43, eq_true (ix_nn h_e44), m_e44, hc46, eq_false hc47, eq_false hc56, eq_true hg71]; (repeat intro (_ : _ ≤ lim))
          obtain ⟨u74, h_u74, h⟩ := bs h
          have hg73 := gd_some h_u74
          try simp only [gE, ↓gT, ↓reduceIte, reduceCtorEq, reduceAdd, reduceEqDiff, reduceLeDiff, reduceLT, eq_true hc43, eq_true (ix_nn h_e44), m_e44, hc46, eq_false hc47, eq_false hc56, eq_true hg71, eq_true hg73]; (repeat intro (_ : _ ≤ lim))
          refine SemF.reg true rfl ?_
          try simp only [gE, ↓gT, ↓reduceIte, reduceCtorEq, reduceAdd, reduceEqDiff, reduceLeDiff, reduceLT, eq_true hc43, eq_true (ix_nn h_e44), m_e44, hc46, eq_false hc47, eq_false hc56, eq_true hg71, eq_true hg73]; (repeat intro (_ : _ ≤ lim))
          refine SemL.weak (sel := [0]) ⟨by simp only [gE, ↓gT, ↓reduceIte, reduceCtorEq, reduceAdd, reduceEqDiff, reduceLeDiff, reduceLT, hwT, selS, erT, eq_true hc43, eq_true (ix_nn h_e44), m_e44, hc46, eq_false hc47, eq_false hc56, eq_true hg71, eq_true hg73], by decide, by decide, by simp only [gE, ↓gT, ↓reduceIte, reduceCtorEq, reduceAdd, reduceEqDiff, reduceLeDiff, reduceLT, hwT, selS, erT, subR, eq_true hc43, eq_true (ix_nn h_e44), m_e44, hc46, eq_false hc47, eq_false hc56, eq_true hg71, eq_true hg73], by simp only [gE, ↓gT, ↓reduceIte, reduceCtorEq, reduceAdd, reduceEqDiff, reduceLeDiff, reduceLT, hwT, selS, erT, scT, esT, eq_true hc43, eq_true (ix_nn h_e44), m_e44, hc46, eq_false hc47, eq_false hc56, eq_true hg71, eq_true hg73], by simp only [gE, ↓gT, ↓reduceIte, reduceCtorEq, reduceAdd, reduceEqDiff, reduceLeDiff, reduceLT, hwT, selS, erT, scT, esT, eq_true hc43, eq_true (ix_nn h_e44), m_e44, hc46, eq_false hc47, eq_false hc56, eq_true hg71, eq_true hg73]⟩ (ih_spec_l13Text_L0 (p1, p0, ((t6_L0 ++ (⟨⟨[32]⟩⟩ : ByteArray)) ++ r45.1), (IntKind.i64.wrap (t7_L0 + 1))) out h Q hx hr)
    · rw [if_neg hc46] at h
      replace hc46 := eq_false_of_ne_true hc46
      refine SemF.cond rfl ?_
      simp only [gE, ↓gT, ↓reduceIte, reduceCtorEq, reduceAdd, reduceEqDiff, reduceLeDiff, reduceLT, eq_true hc43, eq_true (ix_nn h_e44), m_e44, hc46]
      refine SemF.seq rfl ?_
      refine SemF.reg true rfl ?_
      try simp only [gE, ↓gT, ↓reduceIte, reduceCtorEq, reduceAdd, reduceEqDiff, reduceLeDiff, reduceLT, eq_true hc43, eq_true (ix_nn h_e44), m_e44, hc46]; (repeat intro (_ : _ ≤ lim))
      refine SemF.ret rfl ?_
      try simp only [gE, ↓gT, ↓reduceIte, reduceCtorEq, reduceAdd, reduceEqDiff, reduceLeDiff, reduceLT, eq_true hc43, eq_true (ix_nn h_e44), m_e44, hc46]; (repeat intro (_ : _ ≤ lim))
      obtain rfl := Option.some.inj h
      refine hr _ rfl _ _ ?_
      simp only [gE, ↓gT, ↓reduceIte, reduceCtorEq, reduceAdd, reduceEqDiff, reduceLeDiff, reduceLT, RetP_def, eq_true hc43, eq_true (ix_nn h_e44), m_e44, hc46]
  · rw [if_neg hc43] at h
    refine SemF.cond rfl ?_
    simp only [gE, ↓gT, ↓reduceIte, reduceCtorEq, reduceAdd, reduceEqDiff, reduceLeDiff, reduceLT, eq_false hc43]
    refine SemF.exit rfl ?_
    simp only [gE, ↓gT, ↓reduceIte, reduceCtorEq, reduceAdd, reduceEqDiff, reduceLeDiff, reduceLT, eq_false hc43]
    obtain rfl := Option.some.inj h
    refine hx _ rfl _ _ [] ⟨by simp only [gE, ↓gT, ↓reduceIte, reduceCtorEq, reduceAdd, reduceEqDiff, reduceLeDiff, reduceLT, hwT, selS, erT, eq_false hc43], by decide, by decide, by simp only [gE, ↓gT, ↓reduceIte, reduceCtorEq, reduceAdd, reduceEqDiff, reduceLeDiff, reduceLT, hwT, selS, erT, subR, eq_false hc43], by simp only [gE, ↓gT, ↓reduceIte, reduceCtorEq, reduceAdd, reduceEqDiff, reduceLeDiff, reduceLT, hwT, selS, erT, scT, esT, eq_false hc43], by simp only [gE, ↓gT, ↓reduceIte, reduceCtorEq, reduceAdd, reduceEqDiff, reduceLeDiff, reduceLT, hwT, selS, erT, scT, esT, eq_false hc43]⟩
theorem spec_l13Text_all : (∀ (x : (Res × Int)) (r : (ByteArray × Bool)), M.spec_l13Text x = some r → HCp P F.spec_l13Text [(Res.enc x.1), (.int .i64 x.2)] (HV.tup [(HV.str r.1), (HV.bool r.2)])) ∧
  (∀ (x : (Int × Res × ByteArray × Int)) (out : (Sum (ByteArray × Bool) ByteArray)), M.spec_l13Text_L0 x = some out → ∀ Q : HExit → Env → St → Prop, (∀ v, out = .inr v → ∀ env st sel, Weak 0 sel [(6, (.str v))] [] env st → Q (.exit 1) env st) → (∀ r, out = .inl r → ∀ env st, RetP [(4, none), (5, none)] (HV.tup [(HV.str r.1), (HV.bool r.2)]) env st → Q .ret env st) → SemL P H.spec_l13Text.ntmps 0 H.spec_l13Text_l28 [(1, (.int .i64 x.1)), (2, (.ptr 0 1 0 0)), (6, (.str x.2.2.1)), (7, (.int .i64 x.2.2.2))] [(.box (Res.enc x.2.1))] Q) := by
  refine M.spec_l13Text.mutual_partial_correctness (motive_1 := fun x r => HCp P F.spec_l13Text [(Res.enc x.1), (.int .i64 x.2)] (HV.tup [(HV.str r.1), (HV.bool r.2)])) (motive_2 := fun x out => ∀ Q : HExit → Env → St → Prop, (∀ v, out = .inr v → ∀ env st sel, Weak 0 sel [(6, (.str v))] [] env st → Q (.exit 1) env st) → (∀ r, out = .inl r → ∀ env st, RetP [(4, none), (5, none)] (HV.tup [(HV.str r.1), (HV.bool r.2)]) env st → Q .ret env st) → SemL P H.spec_l13Text.ntmps 0 H.spec_l13Text_l28 [(1, (.int .i64 x.1)), (2, (.ptr 0 1 0 0)), (6, (.str x.2.2.1)), (7, (.int .i64 x.2.2.2))] [(.box (Res.enc x.2.1))] Q) ?_ ?_
  · exact fun f_spec_l13Text_L0 ih_spec_l13Text_L0 x r h => K.spec_l13Text_step f_spec_l13Text_L0 ih_spec_l13Text_L0 x r h
  · exact fun f_spec_l13Text f_spec_l13Text_L0 ih_spec_l13Text ih_spec_l13Text_L0 x out h => K.spec_l13Text_L0_step f_spec_l13Text f_spec_l13Text_L0 ih_spec_l13Text ih_spec_l13Text_L0 x out h
theorem spec_l13Text : (∀ (x : (Res × Int)) (r : (ByteArray × Bool)), M.spec_l13Text x = some r → HCp P F.spec_l13Text [(Res.enc x.1), (.int .i64 x.2)] (HV.tup [(HV.str r.1), (HV.bool r.2)])) := K.spec_l13Text_all.1
theorem spec_l13Text_L0 : (∀ (x : (Int × Res × ByteArray × Int)) (out : (Sum (ByteArray × Bool) ByteArray)), M.spec_l13Text_L0 x = some out → ∀ Q : HExit → Env → St → Prop, (∀ v, out = .inr v → ∀ env st sel, Weak 0 sel [(6, (.str v))] [] env st → Q (.exit 1) env st) → (∀ r, out = .inl r → ∀ env st, RetP [(4, none), (5, none)] (HV.tup [(HV.str r.1), (HV.bool r.2)]) env st → Q .ret env st) → SemL P H.spec_l13Text.ntmps 0 H.spec_l13Text_l28 [(1, (.int .i64 x.1)), (2, (.ptr 0 1 0 0)), (6, (.str x.2.2.1)), (7, (.int .i64 x.2.2.2))] [(.box (Res.enc x.2.1))] Q) := K.spec_l13Text_all.2
theorem spec_ResText : ∀ (x : Res) (r : ByteArray), M.spec_ResText x = some r → HCp P F.spec_ResText [(Res.enc x)] (HV.str r) := by
  intro x r h
  revert h; revert x; intro p0 h
  unfold M.spec_ResText at h
  try dsimp only at h
  refine HCp.mkF S.spec_ResText (by simp [H.spec_ResText]) (by simp only [scT, esT, and_self, true_and, and_true]) ?_
  simp only [gE, ↓gT, ↓reduceIte, reduceCtorEq, reduceAdd, reduceEqDiff, reduceLeDiff, reduceLT, H.spec_ResText]
  refine SemF.seq rfl ?_
  refine SemF.reg true rfl ?_
  try simp only [gE, ↓gT, ↓reduceIte, reduceCtorEq, reduceAdd, reduceEqDiff, reduceLeDiff, reduceLT]; (repeat intro (_ : _ ≤ lim))
  refine SemF.seq rfl ?_
  refine SemF.reg true rfl ?_
  try simp only [gE, ↓gT, ↓reduceIte, reduceCtorEq, reduceAdd, reduceEqDiff, reduceLeDiff, reduceLT]; (repeat intro (_ : _ ≤ lim))
  obtain ⟨r1, h_r1, h⟩ := bs h
  refine HCp.callE (K.spec_l13Text (p0, 1) r1 h_r1) (by simp only [gE, ↓gT, ↓reduceIte, reduceCtorEq, reduceAdd, reduceEqDiff, reduceLeDiff, reduceLT]) (by simp only [scT, esT, and_self, true_and, and_true]) (by simp only [scT, esT, and_self, true_and, and_true]) ?_
  try simp only [gE, ↓gT, ↓reduceIte, reduceCtorEq, reduceAdd, reduceEqDiff, reduceLeDiff, reduceLT]; (repeat intro (_ : _ ≤ lim))
  refine SemF.seq rfl ?_
  refine SemF.seq rfl ?_
  refine SemF.reg true rfl ?_
  try simp only [gE, ↓gT, ↓reduceIte, reduceCtorEq, reduceAdd, reduceEqDiff, reduceLeDiff, reduceLT]; (repeat intro (_ : _ ≤ lim))
  by_cases hc2 : r1.2 = true
  · rw [if_pos hc2] at h
    refine SemF.cond rfl ?_
    simp only [gE, ↓gT, ↓reduceIte, reduceCtorEq, reduceAdd, reduceEqDiff, reduceLeDiff, reduceLT, hc2]
    refine SemF.skip rfl ?_
    simp only [gE, ↓gT, ↓reduceIte, reduceCtorEq, reduceAdd, reduceEqDiff, reduceLeDiff, reduceLT, hc2]
    refine SemF.seq rfl ?_
    refine SemF.reg true rfl ?_
    try simp only [gE, ↓gT, ↓reduceIte, reduceCtorEq, reduceAdd, reduceEqDiff, reduceLeDiff, reduceLT, hc2]; (repeat intro (_ : _ ≤ lim))
    refine SemF.ret rfl ?_
    try simp only [gE, ↓gT, ↓reduceIte, reduceCtorEq, reduceAdd, reduceEqDiff, reduceLeDiff, reduceLT, hc2]; (repeat intro (_ : _ ≤ lim))
    obtain rfl := Option.some.inj h
    simp only [gE, ↓gT, ↓reduceIte, reduceCtorEq, reduceAdd, reduceEqDiff, reduceLeDiff, reduceLT, RetP_def, hc2]
  · rw [if_neg hc2] at h
    replace hc2 := eq_false_of_ne_true hc2
    refine SemF.cond rfl ?_
    simp only [gE, ↓gT, ↓reduceIte, reduceCtorEq, reduceAdd, reduceEqDiff, reduceLeDiff, reduceLT, hc2]
    refine SemF.seq rfl ?_
    refine SemF.reg true rfl ?_
    try simp only [gE, ↓gT, ↓reduceIte, reduceCtorEq, reduceAdd, reduceEqDiff, reduceLeDiff, reduceLT, hc2]; (repeat intro (_ : _ ≤ lim))
    refine SemF.ret rfl ?_
    try simp only [gE, ↓gT, ↓reduceIte, reduceCtorEq, reduceAdd, reduceEqDiff, reduceLeDiff, reduceLT, hc2]; (repeat intro (_ : _ ≤ lim))
    obtain rfl := Option.some.inj h
    simp only [gE, ↓gT, ↓reduceIte, reduceCtorEq, reduceAdd, reduceEqDiff, reduceLeDiff, reduceLT, RetP_def, hc2]
theorem laws_toRes_step (f_laws_toResS : (List Res) → Option (List Res)) (ih_laws_toResS : ∀ (x : (List Res)) (r : (List Res)), f_laws_toResS x = some r → HCp P F.laws_toResS [(.sl (List.map Res.enc x))] (HV.sl (List.map Res.enc r))) (x : Res) (r : Res) (h : (f_laws_toResS x.L >>= fun r1 =>
    some (Res.mk x.K x.S x.N r1)) = some r) : HCp P F.laws_toRes [(Res.enc x)] (Res.enc r) := by
  revert h; revert x; intro p0 h
  try dsimp only at h
  refine HCp.mkF S.laws_toRes (by simp [H.laws_toRes]) (by simp only [scT, esT, and_self, true_and, and_true]) ?_
  simp only [gE, ↓gT, ↓reduceIte, reduceCtorEq, reduceAdd, reduceEqDiff, reduceLeDiff, reduceLT, H.laws_toRes]
  refine SemF.seq rfl ?_
  refine SemF.reg true rfl ?_
  try simp only [gE, ↓gT, ↓reduceIte, reduceCtorEq, reduceAdd, reduceEqDiff, reduceLeDiff, reduceLT]; (repeat intro (_ : _ ≤ lim))
  refine SemF.seq rfl ?_
  refine SemF.reg true rfl ?_
  try simp only [gE, ↓gT, ↓reduceIte, reduceCtorEq, reduceAdd, reduceEqDiff, reduceLeDiff, reduceLT]; (repeat intro (_ : _ ≤ lim))
  refine SemF.seq rfl ?_
  refine SemF.reg true rfl ?_
  try simp only [gE, ↓gT, ↓reduceIte, reduceCtorEq, reduceAdd, reduceEqDiff, reduceLeDiff, reduceLT]; (repeat intro (_ : _ ≤ lim))
  refine SemF.seq rfl ?_
  refine SemF.reg true rfl ?_
  try simp only [gE, ↓gT, ↓reduceIte, reduceCtorEq, reduceAdd, reduceEqDiff, reduceLeDiff, reduceLT]; (repeat intro (_ : _ ≤ lim))
  refine SemF.seq rfl ?_
  refine SemF.reg true rfl ?_
  try simp only [gE, ↓gT, ↓reduceIte, reduceCtorEq, reduceAdd, reduceEqDiff, reduceLeDiff, reduceLT]; (repeat intro (_ : _ ≤ lim))
  refine SemF.seq rfl ?_
  refine SemF.reg true rfl ?_
  try simp only [gE, ↓gT, ↓reduceIte, reduceCtorEq, reduceAdd, reduceEqDiff, reduceLeDiff, reduceLT]; (repeat intro (_ : _ ≤ lim))
  obtain ⟨r1, h_r1, h⟩ := bs h
  refine HCp.callE (ih_laws_toResS p0.L r1 h_r1) (by simp only [gE, ↓gT, ↓reduceIte, reduceCtorEq, reduceAdd, reduceEqDiff, reduceLeDiff, reduceLT]) (by simp only [scT, esT, and_self, true_and, and_true]) (by simp only [scT, esT, and_self, true_and, and_true]) ?_
  try simp only [gE, ↓gT, ↓reduceIte, reduceCtorEq, reduceAdd, reduceEqDiff, reduceLeDiff, reduceLT]; (repeat intro (_ : _ ≤ lim))
  refine SemF.seq rfl ?_
  refine SemF.reg true rfl ?_
  try simp only [gE, ↓gT, ↓reduceIte, reduceCtorEq, reduceAdd, reduceEqDiff, reduceLeDiff, reduceLT]; (repeat intro (_ : _ ≤ lim))
  refine SemF.ret rfl ?_
  try simp only [gE, ↓gT, ↓reduceIte, reduceCtorEq, reduceAdd, reduceEqDiff, reduceLeDiff, reduceLT]; (repeat intro (_ : _ ≤ lim))
  obtain rfl := Option.some.inj h
  simp only [gE, ↓gT, ↓reduceIte, reduceCtorEq, reduceAdd, reduceEqDiff, reduceLeDiff, reduceLT, RetP_def]
theorem laws_toResS_step (f_laws_toResS_L0 : ((List Res) × Int × (List Res)) → Option (List Res)) (ih_laws_toResS_L0 : ∀ (x : ((List Res) × Int × (List Res))) (out : (List Res)), f_laws_toResS_L0 x = some out → ∀ Q : HExit → Env → St → Prop, (∀ env st sel, Weak 0 sel [(3, (.own 0 out.length))] [(.arr 4 (List.map Res.enc out) true)] env st → Q (.exit 0) env st) → SemL P H.laws_toResS.ntmps 0 H.laws_toResS_l5 [(0, (.sl (List.map Res.enc x.1))), (3, (.own 0 x.2.2.length)), (4, (.int .i64 x.2.1))] [(.arr 4 (List.map Res.enc x.2.2) true)] Q) (x : (List Res)) (r : (List Res)) (h : (gd ((0 : Int) ≤ ((x.length : Nat) : Int)) >>= fun u2 =>
    (gd (((x.length : Nat) : Int) ≤ (1099511627776 : Int)) >>= fun u4 =>
    (f_laws_toResS_L0 (x, 0, (List.replicate x.length (Res.mk 0 (⟨⟨[]⟩⟩ : ByteArray) 0 []))) >>= fun s27 =>
    some s27))) = some r) : HCp P F.laws_toResS [(.sl (List.map Res.enc x))] (HV.sl (List.map Res.enc r)) := by
  revert h; revert x; intro p0 h
  try dsimp only at h
  refine HCp.mkF S.laws_toResS (by simp [H.laws_toResS]) (by simp only [scT, esT, and_self, true_and, and_true]) ?_
  simp only [gE, ↓gT, ↓reduceIte, reduceCtorEq, reduceAdd, reduceEqDiff, reduceLeDiff, reduceLT, H.laws_toResS]
  refine SemF.seq rfl ?_
  refine SemF.reg true rfl ?_
  try simp only [gE, ↓gT, ↓reduceIte, reduceCtorEq, reduceAdd, reduceEqDiff, reduceLeDiff, reduceLT]; (repeat intro (_ : _ ≤ lim))
  refine SemF.seq rfl ?_
  refine SemF.reg true rfl ?_
  try simp only [gE, ↓gT, ↓reduceIte, reduceCtorEq, reduceAdd, reduceEqDiff, reduceLeDiff, reduceLT]; (repeat intro (_ : _ ≤ lim))
  (repeat intro (_ : _ ≤ lim))
  obtain ⟨u2, h_u2, h⟩ := bs h
  have hg1 := gd_some h_u2
  try simp only [gE, ↓gT, ↓reduceIte, reduceCtorEq, reduceAdd, reduceEqDiff, reduceLeDiff, reduceLT, eq_true hg1]; (repeat intro (_ : _ ≤ lim))
  obtain ⟨u4, h_u4, h⟩ := bs h
  have hg3 := gd_some h_u4
  try simp only [gE, ↓gT, ↓reduceIte, reduceCtorEq, reduceAdd, reduceEqDiff, reduceLeDiff, reduceLT, eq_true hg1, eq_true hg3]; (repeat intro (_ : _ ≤ lim))
  refine SemF.seq rfl ?_
  refine SemF.seq rfl ?_
  refine SemF.reg true rfl ?_
  try simp only [gE, ↓gT, ↓reduceIte, reduceCtorEq, reduceAdd, reduceEqDiff, reduceLeDiff, reduceLT, eq_true hg1, eq_true hg3]; (repeat intro (_ : _ ≤ lim))
  refine SemF.block rfl ?_
  obtain ⟨s27, h_s27, h⟩ := bs h
  refine SemF.loop rfl ?_
  refine SemL.weak (sel := [0]) ⟨by simp only [gE, ↓gT, ↓reduceIte, reduceCtorEq, reduceAdd, reduceEqDiff, reduceLeDiff, reduceLT, hwT, selS, erT, eq_true hg1, eq_true hg3], by decide, by decide, by simp only [gE, ↓gT, ↓reduceIte, reduceCtorEq, reduceAdd, reduceEqDiff, reduceLeDiff, reduceLT, hwT, selS, erT, subR, eq_true hg1, eq_true hg3], by simp only [gE, ↓gT, ↓reduceIte, reduceCtorEq, reduceAdd, reduceEqDiff, reduceLeDiff, reduceLT, hwT, selS, erT, scT, esT, eq_true hg1, eq_true hg3], by simp only [gE, ↓gT, ↓reduceIte, reduceCtorEq, reduceAdd, reduceEqDiff, reduceLeDiff, reduceLT, hwT, selS, erT, scT, esT, eq_true hg1, eq_true hg3]⟩ (ih_laws_toResS_L0 (p0, 0, (List.replicate p0.length (Res.mk 0 (⟨⟨[]⟩⟩ : ByteArray) 0 []))) s27 h_s27 _ ?_)
  intro env st sel hw
  simp only [gE, ↓gT, ↓reduceIte, reduceCtorEq, reduceAdd, reduceEqDiff, reduceLeDiff, reduceLT]
  first | refine SemF.weak hw ?_ | refine SemL.weak hw ?_
  refine SemF.seq rfl ?_
  refine SemF.reg true rfl ?_
  try simp only [gE, ↓gT, ↓reduceIte, reduceCtorEq, reduceAdd, reduceEqDiff, reduceLeDiff, reduceLT, eq_true hg1, eq_true hg3]; (repeat intro (_ : _ ≤ lim))
  refine SemF.ret rfl ?_
  try simp only [gE, ↓gT, ↓reduceIte, reduceCtorEq, reduceAdd, reduceEqDiff, reduceLeDiff, reduceLT, eq_true hg1, eq_true hg3]; (repeat intro (_ : _ ≤ lim))
  obtain rfl := Option.some.inj h
  simp only [gE, ↓gT, ↓reduceIte, reduceCtorEq, reduceAdd, reduceEqDiff, reduceLeDiff, reduceLT, RetP_def, eq_true hg1, eq_true hg3]
end K
end W
