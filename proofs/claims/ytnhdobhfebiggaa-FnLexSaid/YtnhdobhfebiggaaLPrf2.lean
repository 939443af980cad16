import Derived.Test.YtnhdobhfebiggaaLPrf1
namespace W
set_option linter.unusedSimpArgs false
set_option linter.unusedVariables false
open Go HL S
open Nat (reduceAdd reduceEqDiff reduceLeDiff reduceSub reduceMul reduceLT)
set_option linter.unusedVariables false
set_option maxRecDepth 100000
set_option maxHeartbeats 4000000
namespace K
theorem impl_NameOk : ∀ (x : ByteArray) (r : Bool), M.impl_NameOk x = some r → HCp P F.impl_NameOk [(.str x)] (HV.bool r) := by
  intro x r h
  revert h; revert x; intro p0 h
  unfold M.impl_NameOk at h
  try dsimp only at h
  refine HCp.mkF S.impl_NameOk (by simp [H.impl_NameOk]) (by simp only [scT, esT, and_self, true_and, and_true]) ?_
  simp only [gE, ↓gT, ↓reduceIte, reduceCtorEq, reduceAdd, reduceEqDiff, reduceLeDiff, reduceLT, H.impl_NameOk]
  refine SemF.seq rfl ?_
  refine SemF.reg true rfl ?_
  try simp only [gE, ↓gT, ↓reduceIte, reduceCtorEq, reduceAdd, reduceEqDiff, reduceLeDiff, reduceLT]; (repeat intro (_ : _ ≤ lim))
  refine SemF.seq rfl ?_
  refine SemF.reg true rfl ?_
  try simp only [gE, ↓gT, ↓reduceIte, reduceCtorEq, reduceAdd, reduceEqDiff, reduceLeDiff, reduceLT]; (repeat intro (_ : _ ≤ lim))
  obtain ⟨r1, h_r1, h⟩ := bs h
  refine HCp.callE (K.impl_wordLike p0 r1 h_r1) (by simp only [gE, ↓gT, ↓reduceIte, reduceCtorEq, reduceAdd, reduceEqDiff, reduceLeDiff, reduceLT]) (by simp only [scT, esT, and_self, true_and, and_true]) (by simp only [scT, esT, and_self, true_and, and_true]) ?_
  try simp only [gE, ↓gT, ↓reduceIte, reduceCtorEq, reduceAdd, reduceEqDiff, reduceLeDiff, reduceLT]; (repeat intro (_ : _ ≤ lim))
  by_cases hc2 : r1 = true
  · rw [if_pos hc2] at h
    try simp only [gE, ↓gT, ↓reduceIte, reduceCtorEq, reduceAdd, reduceEqDiff, reduceLeDiff, reduceLT, hc2]; (repeat intro (_ : _ ≤ lim))
    obtain ⟨c3, h_c3, h⟩ := bs h
    obtain ⟨c_c3, m_c3, v_c3⟩ := bx_get h_c3
    try simp only [gE, ↓gT, ↓reduceIte, reduceCtorEq, reduceAdd, reduceEqDiff, reduceLeDiff, reduceLT, hc2, eq_true (bx_nn h_c3), m_c3, v_c3]; (repeat intro (_ : _ ≤ lim))
    by_cases hc4 : 97 ≤ c3
    · rw [if_pos hc4] at h
      try simp only [gE, ↓gT, ↓reduceIte, reduceCtorEq, reduceAdd, reduceEqDiff, reduceLeDiff, reduceLT, hc2, eq_true (bx_nn h_c3), m_c3, v_c3, eq_true hc4]; (repeat intro (_ : _ ≤ lim))
      obtain ⟨r5, h_r5, h⟩ := bs h
      refine HCp.callE (K.impl_words () r5 h_r5) (by simp only [gE, ↓gT, ↓reduceIte, reduceCtorEq, reduceAdd, reduceEqDiff, reduceLeDiff, reduceLT, hc2, eq_true (bx_nn h_c3), m_c3, v_c3, eq_true hc4]) (by simp only [scT, esT, and_self, true_and, and_true]) (by simp only [scT, esT, and_self, true_and, and_true]) ?_
      try simp only [gE, ↓gT, ↓reduceIte, reduceCtorEq, reduceAdd, reduceEqDiff, reduceLeDiff, reduceLT, hc2, eq_true (bx_nn h_c3), m_c3, v_c3, eq_true hc4]; (repeat intro (_ : _ ≤ lim))
      obtain ⟨r6, h_r6, h⟩ := bs h
      refine HCp.callE (K.slices_Contains_string (r5, p0) r6 h_r6) (by simp only [gE, ↓gT, ↓reduceIte, reduceCtorEq, reduceAdd, reduceEqDiff, reduceLeDiff, reduceLT, hc2, eq_true (bx_nn h_c3), m_c3, v_c3, eq_true hc4]) (by simp only [scT, esT, and_self, true_and, and_true]) (by simp only [scT, esT, and_self, true_and, and_true]) ?_
      try simp only [gE, ↓gT, ↓reduceIte, reduceCtorEq, reduceAdd, reduceEqDiff, reduceLeDiff, reduceLT, hc2, eq_true (bx_nn h_c3), m_c3, v_c3, eq_true hc4]; (repeat intro (_ : _ ≤ lim))
      refine SemF.ret rfl ?_
      try simp only [gE, ↓gT, ↓reduceIte, reduceCtorEq, reduceAdd, reduceEqDiff, reduceLeDiff, reduceLT, hc2, eq_true (bx_nn h_c3), m_c3, v_c3, eq_true hc4]; (repeat intro (_ : _ ≤ lim))
      obtain rfl := Option.some.inj h
      simp only [gE, ↓gT, ↓reduceIte, reduceCtorEq, reduceAdd, reduceEqDiff, reduceLeDiff, reduceLT, RetP_def, hc2, eq_true (bx_nn h_c3), m_c3, v_c3, eq_true hc4]
    · rw [if_neg hc4] at h
      try simp only [gE, ↓gT, ↓reduceIte, reduceCtorEq, reduceAdd, reduceEqDiff, reduceLeDiff, reduceLT, hc2, eq_true (bx_nn h_c3), m_c3, v_c3, eq_false hc4]; (repeat intro (_ : _ ≤ lim))
      refine SemF.ret rfl ?_
      try simp only [gE, ↓gT, ↓reduceIte, reduceCtorEq, reduceAdd, reduceEqDiff, reduceLeDiff, reduceLT, hc2, eq_true (bx_nn h_c3), m_c3, v_c3, eq_false hc4]; (repeat intro (_ : _ ≤ lim))
      obtain rfl := Option.some.inj h
      simp only [gE, ↓gT, ↓reduceIte, reduceCtorEq, reduceAdd, reduceEqDiff, reduceLeDiff, reduceLT, RetP_def, hc2, eq_true (bx_nn h_c3), m_c3, v_c3, eq_false hc4]
  · rw [if_neg hc2] at h
    replace hc2 := eq_false_of_ne_true hc2
    try simp only [gE, ↓gT, ↓reduceIte, reduceCtorEq, reduceAdd, reduceEqDiff, reduceLeDiff, reduceLT, hc2]; (repeat intro (_ : _ ≤ lim))
    refine SemF.ret rfl ?_
    try simp only [gE, ↓gT, ↓reduceIte, reduceCtorEq, reduceAdd, reduceEqDiff, reduceLeDiff, reduceLT, hc2]; (repeat intro (_ : _ ≤ lim))
    obtain rfl := Option.some.inj h
    simp only [gE, ↓gT, ↓reduceIte, reduceCtorEq, reduceAdd, reduceEqDiff, reduceLeDiff, reduceLT, RetP_def, hc2]
theorem impl_nextTok : ∀ (x : ByteArray) (r : (Tok × Bool)), M.impl_nextTok x = some r → HCp P F.impl_nextTok [(.str x)] (HV.tup [(Tok.enc r.1), (HV.bool r.2)]) := by
  intro x r h
  revert h; revert x; intro p0 h
  unfold M.impl_nextTok at h
  try dsimp only at h
  refine HCp.mkF S.impl_nextTok (by simp [H.impl_nextTok]) (by simp only [scT, esT, and_self, true_and, and_true]) ?_
  simp only [gE, ↓gT, ↓reduceIte, reduceCtorEq, reduceAdd, reduceEqDiff, reduceLeDiff, reduceLT, H.impl_nextTok]
  refine SemF.seq rfl ?_
  refine SemF.reg true rfl ?_
  try simp only [gE, ↓gT, ↓reduceIte, reduceCtorEq, reduceAdd, reduceEqDiff, reduceLeDiff, reduceLT]; (repeat intro (_ : _ ≤ lim))
  refine SemF.seq rfl ?_
  refine SemF.block rfl ?_
  refine SemF.seq rfl ?_
  refine SemF.reg true rfl ?_
  try simp only [gE, ↓gT, ↓reduceIte, reduceCtorEq, reduceAdd, reduceEqDiff, reduceLeDiff, reduceLT]; (repeat intro (_ : _ ≤ lim))
  obtain ⟨c1, h_c1, h⟩ := bs h
  obtain ⟨c_c1, m_c1, v_c1⟩ := bx_get h_c1
  try simp only [gE, ↓gT, ↓reduceIte, reduceCtorEq, reduceAdd, reduceEqDiff, reduceLeDiff, reduceLT, eq_true (bx_nn h_c1), m_c1, v_c1]; (repeat intro (_ : _ ≤ lim))
  obtain ⟨r2, h_r2, h⟩ := bs h
  refine HCp.callE (K.impl_isLetter c1 r2 h_r2) (by simp only [gE, ↓gT, ↓reduceIte, reduceCtorEq, reduceAdd, reduceEqDiff, reduceLeDiff, reduceLT, eq_true (bx_nn h_c1), m_c1, v_c1]) (by simp only [scT, esT, and_self, true_and, and_true]) (by simp only [scT, esT, and_self, true_and, and_true]) ?_
  try simp only [gE, ↓gT, ↓reduceIte, reduceCtorEq, reduceAdd, reduceEqDiff, reduceLeDiff, reduceLT, eq_true (bx_nn h_c1), m_c1, v_c1]; (repeat intro (_ : _ ≤ lim))
  by_cases hc3 : r2 = true
  · rw [if_pos hc3] at h
    refine SemF.cond rfl ?_
    simp only [gE, ↓gT, ↓reduceIte, reduceCtorEq, reduceAdd, reduceEqDiff, reduceLeDiff, reduceLT, eq_true (bx_nn h_c1), m_c1, v_c1, hc3]
    refine SemF.seq rfl ?_
    refine SemF.reg true rfl ?_
    try simp only [gE, ↓gT, ↓reduceIte, reduceCtorEq, reduceAdd, reduceEqDiff, reduceLeDiff, reduceLT, eq_true (bx_nn h_c1), m_c1, v_c1, hc3]; (repeat intro (_ : _ ≤ lim))
    obtain ⟨r4, h_r4, h⟩ := bs h
    refine HCp.callE (K.impl_runLen_at_nextTok_1 p0 r4 h_r4) (by simp only [gE, ↓gT, ↓reduceIte, reduceCtorEq, reduceAdd, reduceEqDiff, reduceLeDiff, reduceLT, eq_true (bx_nn h_c1), m_c1, v_c1, hc3]) (by simp only [scT, esT, and_self, true_and, and_true]) (by simp only [scT, esT, and_self, true_and, and_true]) ?_
    try simp only [gE, ↓gT, ↓reduceIte, reduceCtorEq, reduceAdd, reduceEqDiff, reduceLeDiff, reduceLT, eq_true (bx_nn h_c1), m_c1, v_c1, hc3]; (repeat intro (_ : _ ≤ lim))
    obtain ⟨u6, h_u6, h⟩ := bs h
    have hg5 := gd_some h_u6
    try simp only [gE, ↓gT, ↓reduceIte, reduceCtorEq, reduceAdd, reduceEqDiff, reduceLeDiff, reduceLT, eq_true (bx_nn h_c1), m_c1, v_c1, hc3, eq_true hg5]; (repeat intro (_ : _ ≤ lim))
    obtain ⟨u8, h_u8, h⟩ := bs h
    have hg7 := gd_some h_u8
    try simp only [gE, ↓gT, ↓reduceIte, reduceCtorEq, reduceAdd, reduceEqDiff, reduceLeDiff, reduceLT, eq_true (bx_nn h_c1), m_c1, v_c1, hc3, eq_true hg5, eq_true hg7]; (repeat intro (_ : _ ≤ lim))
    obtain ⟨u10, h_u10, h⟩ := bs h
    have hg9 := gd_some h_u10
    try simp only [gE, ↓gT, ↓reduceIte, reduceCtorEq, reduceAdd, reduceEqDiff, reduceLeDiff, reduceLT, eq_true (bx_nn h_c1), m_c1, v_c1, hc3, eq_true hg5, eq_true hg7, eq_true hg9]; (repeat intro (_ : _ ≤ lim))
    refine SemF.seq rfl ?_
    refine SemF.block rfl ?_
    refine SemF.seq rfl ?_
    refine SemF.reg true rfl ?_
    try simp only [gE, ↓gT, ↓reduceIte, reduceCtorEq, reduceAdd, reduceEqDiff, reduceLeDiff, reduceLT, eq_true (bx_nn h_c1), m_c1, v_c1, hc3, eq_true hg5, eq_true hg7, eq_true hg9]; (repeat intro (_ : _ ≤ lim))
    obtain ⟨r11, h_r11, h⟩ := bs h
    refine HCp.callE (K.impl_words () r11 h_r11) (by simp only [gE, ↓gT, ↓reduceIte, reduceCtorEq, reduceAdd, reduceEqDiff, reduceLeDiff, reduceLT, eq_true (bx_nn h_c1), m_c1, v_c1, hc3, eq_true hg5, eq_true hg7, eq_true hg9]) (by simp only [scT, esT, and_self, true_and, and_true]) (by simp only [scT, esT, and_self, true_and, and_true]) ?_
    try simp only [gE, ↓gT, ↓reduceIte, reduceCtorEq, reduceAdd, reduceEqDiff, reduceLeDiff, reduceLT, eq_true (bx_nn h_c1), m_c1, v_c1, hc3, eq_true hg5, eq_true hg7, eq_true hg9]; (repeat intro (_ : _ ≤ lim))
    obtain ⟨r12, h_r12, h⟩ := bs h
    refine HCp.callE (K.slices_Contains_string (r11, (p0.extract (0 : Int).toNat r4.toNat)) r12 h_r12) (by simp only [gE, ↓gT, ↓reduceIte, reduceCtorEq, reduceAdd, reduceEqDiff, reduceLeDiff, reduceLT, eq_true (bx_nn h_c1), m_c1, v_c1, hc3, eq_true hg5, eq_true hg7, eq_true hg9]) (by simp only [scT, esT, and_self, true_and, and_true]) (by simp only [scT, esT, and_self, true_and, and_true]) ?_
    try simp only [gE, ↓gT, ↓reduceIte, reduceCtorEq, reduceAdd, reduceEqDiff, reduceLeDiff, reduceLT, eq_true (bx_nn h_c1), m_c1, v_c1, hc3, eq_true hg5, eq_true hg7, eq_true hg9]; (repeat intro (_ : _ ≤ lim))
    by_cases hc13 : r12 = true
    · rw [if_pos hc13] at h
      refine SemF.cond rfl ?_
      simp only [gE, ↓gT, ↓reduceIte, reduceCtorEq, reduceAdd, reduceEqDiff, reduceLeDiff, reduceLT, eq_true (bx_nn h_c1), m_c1, v_c1, hc3, eq_true hg5, eq_true hg7, eq_true hg9, hc13]
      refine SemF.seq rfl ?_
      refine SemF.reg true rfl ?_
      try simp only [gE, ↓gT, ↓reduceIte, reduceCtorEq, reduceAdd, reduceEqDiff, reduceLeDiff, reduceLT, eq_true (bx_nn h_c1), m_c1, v_c1, hc3, eq_true hg5, eq_true hg7, eq_true hg9, hc13]; (repeat intro (_ : _ ≤ lim))
      refine SemF.ret rfl ?_
      try simp only [gE, ↓gT, ↓reduceIte, reduceCtorEq, reduceAdd, reduceEqDiff, reduceLeDiff, reduceLT, eq_true (bx_nn h_c1), m_c1, v_c1, hc3, eq_true hg5, eq_true hg7, eq_true hg9, hc13]; (repeat intro (_ : _ ≤ lim))
      obtain rfl := Option.some.inj h
      simp only [gE, ↓gT, ↓reduceIte, reduceCtorEq, reduceAdd, reduceEqDiff, reduceLeDiff, reduceLT, RetP_def, eq_true (bx_nn h_c1), m_c1, v_c1, hc3, eq_true hg5, eq_true hg7, eq_true hg9, hc13]
    · rw [if_neg hc13] at h
      replace hc13 := eq_false_of_ne_true hc13
      refine SemF.cond rfl ?_
      simp only [gE, ↓gT, ↓reduceIte, reduceCtorEq, reduceAdd, reduceEqDiff, reduceLeDiff, reduceLT, eq_true (bx_nn h_c1), m_c1, v_c1, hc3, eq_true hg5, eq_true hg7, eq_true hg9, hc13]
      refine SemF.seq rfl ?_
      refine SemF.reg true rfl ?_
      try simp only [gE, ↓gT, ↓reduceIte, reduceCtorEq, reduceAdd, reduceEqDiff, reduceLeDiff, reduceLT, eq_true (bx_nn h_c1), m_c1, v_c1, hc3, eq_true hg5, eq_true hg7, eq_true hg9, hc13]; (repeat intro (_ : _ ≤ lim))
      obtain ⟨r14, h_r14, h⟩ := bs h
      refine HCp.callE (K.impl_NameOk (p0.extract (0 : Int).toNat r4.toNat) r14 h_r14) (by simp only [gE, ↓gT, ↓reduceIte, reduceCtorEq, reduceAdd, reduceEqDiff, reduceLeDiff, reduceLT, eq_true (bx_nn h_c1), m_c1, v_c1, hc3, eq_true hg5, eq_true hg7, eq_true hg9, hc13]) (by simp only [scT, esT, and_self, true_and, and_true]) (by simp only [scT, esT, and_self, true_and, and_true]) ?_
      try simp only [gE, ↓gT, ↓reduceIte, reduceCtorEq, reduceAdd, reduceEqDiff, reduceLeDiff, reduceLT, eq_true (bx_nn h_c1), m_c1, v_c1, hc3, eq_true hg5, eq_true hg7, eq_true hg9, hc13]; (repeat intro (_ : _ ≤ lim))
      by_cases hc15 : r14 = true
      · rw [if_pos hc15] at h
        refine SemF.cond rfl ?_
        simp only [gE, ↓gT, ↓reduceIte, reduceCtorEq, reduceAdd, reduceEqDiff, reduceLeDiff, reduceLT, eq_true (bx_nn h_c1), m_c1, v_c1, hc3, eq_true hg5, eq_true hg7, eq_true hg9, hc13, hc15]
        refine SemF.seq rfl ?_
        refine SemF.reg true rfl ?_
        try simp only [gE, ↓gT, ↓reduceIte, reduceCtorEq, reduceAdd, reduceEqDiff, reduceLeDiff, reduceLT, eq_true (bx_nn h_c1), m_c1, v_c1, hc3, eq_true hg5, eq_true hg7, eq_true hg9, hc13, hc15]; (repeat intro (_ : _ ≤ lim))
        refine SemF.ret rfl ?_
        try simp only [gE, ↓gT, ↓reduceIte, reduceCtorEq, reduceAdd, reduceEqDiff, reduceLeDiff, reduceLT, eq_true (bx_nn h_c1), m_c1, v_c1, hc3, eq_true hg5, eq_true hg7, eq_true hg9, hc13, hc15]; (repeat intro (_ : _ ≤ lim))
        obtain rfl := Option.some.inj h
        simp only [gE, ↓gT, ↓reduceIte, reduceCtorEq, reduceAdd, reduceEqDiff, reduceLeDiff, reduceLT, RetP_def, eq_true (bx_nn h_c1), m_c1, v_c1, hc3, eq_true hg5, eq_true hg7, eq_true hg9, hc13, hc15]
      · rw [if_neg hc15] at h
        replace hc15 := eq_false_of_ne_true hc15
        refine SemF.cond rfl ?_
        simp only [gE, ↓gT, ↓reduceIte, reduceCtorEq, reduceAdd, reduceEqDiff, reduceLeDiff, reduceLT, eq_true (bx_nn h_c1), m_c1, v_c1, hc3, eq_true hg5, eq_true hg7, eq_true hg9, hc13, hc15]
        refine SemF.skip rfl ?_
        simp only [gE, ↓gT, ↓reduceIte, reduceCtorEq, reduceAdd, reduceEqDiff, reduceLeDiff, reduceLT, eq_true (bx_nn h_c1), m_c1, v_c1, hc3, eq_true hg5, eq_true hg7, eq_true hg9, hc13, hc15]
        refine SemF.seq rfl ?_
        refine SemF.reg true rfl ?_
        try simp only [gE, ↓gT, ↓reduceIte, reduceCtorEq, reduceAdd, reduceEqDiff, reduceLeDiff, reduceLT, eq_true (bx_nn h_c1), m_c1, v_c1, hc3, eq_true hg5, eq_true hg7, eq_true hg9, hc13, hc15]; (repeat intro (_ : _ ≤ lim))
        obtain ⟨r16, h_r16, h⟩ := bs h
        refine HCp.callE (K.impl_GreatOk (p0.extract (0 : Int).toNat r4.toNat) r16 h_r16) (by simp only [gE, ↓gT, ↓reduceIte, reduceCtorEq, reduceAdd, reduceEqDiff, reduceLeDiff, reduceLT, eq_true (bx_nn h_c1), m_c1, v_c1, hc3, eq_true hg5, eq_true hg7, eq_true hg9, hc13, hc15]) (by simp only [scT, esT, and_self, true_and, and_true]) (by simp only [scT, esT, and_self, true_and, and_true]) ?_
        try simp only [gE, ↓gT, ↓reduceIte, reduceCtorEq, reduceAdd, reduceEqDiff, reduceLeDiff, reduceLT, eq_true (bx_nn h_c1), m_c1, v_c1, hc3, eq_true hg5, eq_true hg7, eq_true hg9, hc13, hc15]; (repeat intro (_ : _ ≤ lim))
        refine SemF.ret rfl ?_
        try simp only [gE, ↓gT, ↓reduceIte, reduceCtorEq, reduceAdd, reduceEqDiff, reduceLeDiff, reduceLT, eq_true (bx_nn h_c1), m_c1, v_c1, hc3, eq_true hg5, eq_true hg7, eq_true hg9, hc13, hc15]; (repeat intro (_ : _ ≤ lim))
        obtain rfl := Option.some.inj h
        simp only [gE, ↓gT, ↓reduceIte, reduceCtorEq, reduceAdd, reduceEqDiff, reduceLeDiff, reduceLT, RetP_def, eq_true (bx_nn h_c1), m_c1, v_c1, hc3, eq_true hg5, eq_true hg7, eq_true hg9, hc13, hc15]
  · rw [if_neg hc3] at h
    replace hc3 := eq_false_of_ne_true hc3
    refine SemF.cond rfl ?_
    simp only [gE, ↓gT, ↓reduceIte, reduceCtorEq, reduceAdd, reduceEqDiff, reduceLeDiff, reduceLT, eq_true (bx_nn h_c1), m_c1, v_c1, hc3]
    refine SemF.seq rfl ?_
    refine SemF.reg true rfl ?_
    try simp only [gE, ↓gT, ↓reduceIte, reduceCtorEq, reduceAdd, reduceEqDiff, reduceLeDiff, reduceLT, eq_true (bx_nn h_c1), m_c1, v_c1, hc3]; (repeat intro (_ : _ ≤ lim))
    obtain ⟨r17, h_r17, h⟩ := bs h
    refine HCp.callE (K.impl_isDigit c1 r17 h_r17) (by simp only [gE, ↓gT, ↓reduceIte, reduceCtorEq, reduceAdd, reduceEqDiff, reduceLeDiff, reduceLT, eq_true (bx_nn h_c1), m_c1, v_c1, hc3]) (by simp only [scT, esT, and_self, true_and, and_true]) (by simp only [scT, esT, and_self, true_and, and_true]) ?_
    try simp only [gE, ↓gT, ↓reduceIte, reduceCtorEq, reduceAdd, reduceEqDiff, reduceLeDiff, reduceLT, eq_true (bx_nn h_c1), m_c1, v_c1, hc3]; (repeat intro (_ : _ ≤ lim))
    by_cases hc18 : r17 = true
    · rw [if_pos hc18] at h
      refine SemF.cond rfl ?_
      simp only [gE, ↓gT, ↓reduceIte, reduceCtorEq, reduceAdd, reduceEqDiff, reduceLeDiff, reduceLT, eq_true (bx_nn h_c1), m_c1, v_c1, hc3, hc18]
      refine SemF.seq rfl ?_
      refine SemF.reg true rfl ?_
      try simp only [gE, ↓gT, ↓reduceIte, reduceCtorEq, reduceAdd, reduceEqDiff, reduceLeDiff, reduceLT, eq_true (bx_nn h_c1), m_c1, v_c1, hc3, hc18]; (repeat intro (_ : _ ≤ lim))
      obtain ⟨r19, h_r19, h⟩ := bs h
      refine HCp.callE (K.impl_runLen_at_isDigit p0 r19 h_r19) (by simp only [gE, ↓gT, ↓reduceIte, reduceCtorEq, reduceAdd, reduceEqDiff, reduceLeDiff, reduceLT, eq_true (bx_nn h_c1), m_c1, v_c1, hc3, hc18]) (by simp only [scT, esT, and_self, true_and, and_true]) (by simp only [scT, esT, and_self, true_and, and_true]) ?_
      try simp only [gE, ↓gT, ↓reduceIte, reduceCtorEq, reduceAdd, reduceEqDiff, reduceLeDiff, reduceLT, eq_true (bx_nn h_c1), m_c1, v_c1, hc3, hc18]; (repeat intro (_ : _ ≤ lim))
      obtain ⟨u21, h_u21, h⟩ := bs h
      have hg20 := gd_some h_u21
      try simp only [gE, ↓gT, ↓reduceIte, reduceCtorEq, reduceAdd, reduceEqDiff, reduceLeDiff, reduceLT, eq_true (bx_nn h_c1), m_c1, v_c1, hc3, hc18, eq_true hg20]; (repeat intro (_ : _ ≤ lim))
      obtain ⟨u23, h_u23, h⟩ := bs h
      have hg22 := gd_some h_u23
      try simp only [gE, ↓gT, ↓reduceIte, reduceCtorEq, reduceAdd, reduceEqDiff, reduceLeDiff, reduceLT, eq_true (bx_nn h_c1), m_c1, v_c1, hc3, hc18, eq_true hg20, eq_true hg22]; (repeat intro (_ : _ ≤ lim))
      obtain ⟨u25, h_u25, h⟩ := bs h
      have hg24 := gd_some h_u25
      try simp only [gE, ↓gT, ↓reduceIte, reduceCtorEq, reduceAdd, reduceEqDiff, reduceLeDiff, reduceLT, eq_true (bx_nn h_c1), m_c1, v_c1, hc3, hc18, eq_true hg20, eq_true hg22, eq_true hg24]; (repeat intro (_ : _ ≤ lim))
      refine SemF.seq rfl ?_
      refine SemF.reg true rfl ?_
      try simp only [gE, ↓gT, ↓reduceIte, reduceCtorEq, reduceAdd, reduceEqDiff, reduceLeDiff, reduceLT, eq_true (bx_nn h_c1), m_c1, v_c1, hc3, hc18, eq_true hg20, eq_true hg22, eq_true hg24]; (repeat intro (_ : _ ≤ lim))
      obtain ⟨r26, h_r26, h⟩ := bs h
      refine HCp.callE (K.impl_numberLike (p0.extract (0 : Int).toNat r19.toNat) r26 h_r26) (by simp only [gE, ↓gT, ↓reduceIte, reduceCtorEq, reduceAdd, reduceEqDiff, reduceLeDiff, reduceLT, eq_true (bx_nn h_c1), m_c1, v_c1, hc3, hc18, eq_true hg20, eq_true hg22, eq_true hg24]) (by simp only [scT, esT, and_self, true_and, and_true]) (by simp only [scT, esT, and_self, true_and, and_true]) ?_
      try simp only [gE, ↓gT, ↓reduceIte, reduceCtorEq, reduceAdd, reduceEqDiff, reduceLeDiff, reduceLT, eq_true (bx_nn h_c1), m_c1, v_c1, hc3, hc18, eq_true hg20, eq_true hg22, eq_true hg24]; (repeat intro (_ : _ ≤ lim))
      refine SemF.ret rfl ?_
      try simp only [gE, ↓gT, ↓reduceIte, reduceCtorEq, reduceAdd, reduceEqDiff, reduceLeDiff, reduceLT, eq_true (bx_nn h_c1), m_c1, v_c1, hc3, hc18, eq_true hg20, eq_true hg22, eq_true hg24]; (repeat intro (_ : _ ≤ lim))
      obtain rfl := Option.some.inj h
      simp only [gE, ↓gT, ↓reduceIte, reduceCtorEq, reduceAdd, reduceEqDiff, reduceLeDiff, reduceLT, RetP_def, eq_true (bx_nn h_c1), m_c1, v_c1, hc3, hc18, eq_true hg20, eq_true hg22, eq_true hg24]
    · rw [if_neg hc18] at h
      replace hc18 := eq_false_of_ne_true hc18
      refine SemF.cond rfl ?_
      simp only [gE, ↓gT, ↓reduceIte, reduceCtorEq, reduceAdd, reduceEqDiff, reduceLeDiff, reduceLT, eq_true (bx_nn h_c1), m_c1, v_c1, hc3, hc18]
      refine SemF.seq rfl ?_
      refine SemF.reg true rfl ?_
      try simp only [gE, ↓gT, ↓reduceIte, reduceCtorEq, reduceAdd, reduceEqDiff, reduceLeDiff, reduceLT, eq_true (bx_nn h_c1), m_c1, v_c1, hc3, hc18]; (repeat intro (_ : _ ≤ lim))
      obtain ⟨r27, h_r27, h⟩ := bs h
      refine HCp.callE (K.strings_HasPrefix (p0, (⟨⟨[45, 62]⟩⟩ : ByteArray)) r27 h_r27) (by simp only [gE, ↓gT, ↓reduceIte, reduceCtorEq, reduceAdd, reduceEqDiff, reduceLeDiff, reduceLT, eq_true (bx_nn h_c1), m_c1, v_c1, hc3, hc18]) (by simp only [scT, esT, and_self, true_and, and_true]) (by simp only [scT, esT, and_self, true_and, and_true]) ?_
      try simp only [gE, ↓gT, ↓reduceIte, reduceCtorEq, reduceAdd, reduceEqDiff, reduceLeDiff, reduceLT, eq_true (bx_nn h_c1), m_c1, v_c1, hc3, hc18]; (repeat intro (_ : _ ≤ lim))
      by_cases hc28 : r27 = true
      · rw [if_pos hc28] at h
        try simp only [gE, ↓gT, ↓reduceIte, reduceCtorEq, reduceAdd, reduceEqDiff, reduceLeDiff, reduceLT, eq_true (bx_nn h_c1), m_c1, v_c1, hc3, hc18, hc28]; (repeat intro (_ : _ ≤ lim))
        refine SemF.cond rfl ?_
        simp only [gE, ↓gT, ↓reduceIte, reduceCtorEq, reduceAdd, reduceEqDiff, reduceLeDiff, reduceLT, eq_true (bx_nn h_c1), m_c1, v_c1, hc3, hc18, hc28]
        refine SemF.seq rfl ?_
        refine SemF.reg true rfl ?_
        try simp only [gE, ↓gT, ↓reduceIte, reduceCtorEq, reduceAdd, reduceEqDiff, reduceLeDiff, reduceLT, eq_true (bx_nn h_c1), m_c1, v_c1, hc3, hc18, hc28]; (repeat intro (_ : _ ≤ lim))
        obtain ⟨u30, h_u30, h⟩ := bs h
        have hg29 := gd_some h_u30
        try simp only [gE, ↓gT, ↓reduceIte, reduceCtorEq, reduceAdd, reduceEqDiff, reduceLeDiff, reduceLT, eq_true (bx_nn h_c1), m_c1, v_c1, hc3, hc18, hc28, eq_true hg29]; (repeat intro (_ : _ ≤ lim))
        obtain ⟨u32, h_u32, h⟩ := bs h
        have hg31 := gd_some h_u32
        try simp only [gE, ↓gT, ↓reduceIte, reduceCtorEq, reduceAdd, reduceEqDiff, reduceLeDiff, reduceLT, eq_true (bx_nn h_c1), m_c1, v_c1, hc3, hc18, hc28, eq_true hg29, eq_true hg31]; (repeat intro (_ : _ ≤ lim))
        obtain ⟨u34, h_u34, h⟩ := bs h
        have hg33 := gd_some h_u34
        try simp only [gE, ↓gT, ↓reduceIte, reduceCtorEq, reduceAdd, reduceEqDiff, reduceLeDiff, reduceLT, eq_true (bx_nn h_c1), m_c1, v_c1, hc3, hc18, hc28, eq_true hg29, eq_true hg31, eq_true hg33]; (repeat intro (_ : _ ≤ lim))
        refine SemF.ret rfl ?_
        try simp only [gE, ↓gT, ↓reduceIte, reduceCtorEq, reduceAdd, reduceEqDiff, reduceLeDiff, reduceLT, eq_true (bx_nn h_c1), m_c1, v_c1, hc3, hc18, hc28, eq_true hg29, eq_true hg31, eq_true hg33]; (repeat intro (_ : _ ≤ lim))
        obtain rfl := Option.some.inj h
        simp only [gE, ↓gT, ↓reduceIte, reduceCtorEq, reduceAdd, reduceEqDiff, reduceLeDiff, reduceLT, RetP_def, eq_true (bx_nn h_c1), m_c1, v_c1, hc3, hc18, hc28, eq_true hg29, eq_true hg31, eq_true hg33]
      · rw [if_neg hc28] at h
        replace hc28 := eq_false_of_ne_true hc28
        try simp only [gE, ↓gT, ↓reduceIte, reduceCtorEq, reduceAdd, reduceEqDiff, reduceLeDiff, reduceLT, eq_true (bx_nn h_c1), m_c1, v_c1, hc3, hc18, hc28]; (repeat intro (_ : _ ≤ lim))
        obtain ⟨r35, h_r35, h⟩ := bs h
        refine HCp.callE (K.strings_HasPrefix (p0, (⟨⟨[61, 61]⟩⟩ : ByteArray)) r35 h_r35) (by simp only [gE, ↓gT, ↓reduceIte, reduceCtorEq, reduceAdd, reduceEqDiff, reduceLeDiff, reduceLT, eq_true (bx_nn h_c1), m_c1, v_c1, hc3, hc18, hc28]) (by simp only [scT, esT, and_self, true_and, and_true]) (by simp only [scT, esT, and_self, true_and, and_true]) ?_
        try simp only [gE, ↓gT, ↓reduceIte, reduceCtorEq, reduceAdd, reduceEqDiff, reduceLeDiff, reduceLT, eq_true (bx_nn h_c1), m_c1, v_c1, hc3, hc18, hc28]; (repeat intro (_ : _ ≤ lim))
        by_cases hc36 : r35 = true
        · rw [if_pos hc36] at h
          refine SemF.cond rfl ?_
          simp only [gE, ↓gT, ↓reduceIte, reduceCtorEq, reduceAdd, reduceEqDiff, reduceLeDiff, reduceLT, eq_true (bx_nn h_c1), m_c1, v_c1, hc3, hc18, hc28, hc36]
          refine SemF.seq rfl ?_
          refine SemF.reg true rfl ?_
          try simp only [gE, ↓gT, ↓reduceIte, reduceCtorEq, reduceAdd, reduceEqDiff, reduceLeDiff, reduceLT, eq_true (bx_nn h_c1), m_c1, v_c1, hc3, hc18, hc28, hc36]; (repeat intro (_ : _ ≤ lim))
          obtain ⟨u38, h_u38, h⟩ := bs h
          have hg37 := gd_some h_u38
          try simp only [gE, ↓gT, ↓reduceIte, reduceCtorEq, reduceAdd, reduceEqDiff, reduceLeDiff, reduceLT, eq_true (bx_nn h_c1), m_c1, v_c1, hc3, hc18, hc28, hc36, eq_true hg37]; (repeat intro (_ : _ ≤ lim))
          obtain ⟨u40, h_u40, h⟩ := bs h
          have hg39 := gd_some h_u40
          try simp only [gE, ↓gT, ↓reduceIte, reduceCtorEq, reduceAdd, reduceEqDiff, reduceLeDiff, reduceLT, eq_true (bx_nn h_c1), m_c1, v_c1, hc3, hc18, hc28, hc36, eq_true hg37, eq_true hg39]; (repeat intro (_ : _ ≤ lim))
          obtain ⟨u42, h_u42, h⟩ := bs h
          have hg41 := gd_some h_u42
          try simp only [gE, ↓gT, ↓reduceIte, reduceCtorEq, reduceAdd, reduceEqDiff, reduceLeDiff, reduceLT, eq_true (bx_nn h_c1), m_c1, v_c1, hc3, hc18, hc28, hc36, eq_true hg37, eq_true hg39, eq_true hg41]; (repeat intro (_ : _ ≤ lim))
          refine SemF.ret rfl ?_
          try simp only [gE, ↓gT, ↓reduceIte, reduceCtorEq, reduceAdd, reduceEqDiff, reduceLeDiff, reduceLT, eq_true (bx_nn h_c1), m_c1, v_c1, hc3, hc18, hc28, hc36, eq_true hg37, eq_true hg39, eq_true hg41]; (repeat intro (_ : _ ≤ lim))
          obtain rfl := Option.some.inj h
          simp only [gE, ↓gT, ↓reduceIte, reduceCtorEq, reduceAdd, reduceEqDiff, reduceLeDiff, reduceLT, RetP_def, eq_true (bx_nn h_c1), m_c1, v_c1, hc3, hc18, hc28, hc36, eq_true hg37, eq_true hg39, eq_true hg41]
        · rw [if_neg hc36] at h
          replace hc36 := eq_false_of_ne_true hc36
          refine SemF.cond rfl ?_
          simp only [gE, ↓gT, ↓reduceIte, reduceCtorEq, reduceAdd, reduceEqDiff, reduceLeDiff, reduceLT, eq_true (bx_nn h_c1), m_c1, v_c1, hc3, hc18, hc28, hc36]
          refine SemF.skip rfl ?_
          simp only [gE, ↓gT, ↓reduceIte, reduceCtorEq, reduceAdd, reduceEqDiff, reduceLeDiff, reduceLT, eq_true (bx_nn h_c1), m_c1, v_c1, hc3, hc18, hc28, hc36]
          refine SemF.seq rfl ?_
          refine SemF.dreg true rfl ?_
          try simp only [gE, ↓gT, ↓reduceIte, reduceCtorEq, reduceAdd, reduceEqDiff, reduceLeDiff, reduceLT, eq_true (bx_nn h_c1), m_c1, v_c1, hc3, hc18, hc28, hc36]; (repeat intro (_ : _ ≤ lim))
          obtain ⟨u44, h_u44, h⟩ := bs h
          have hg43 := gd_some h_u44
          try simp only [gE, ↓gT, ↓reduceIte, reduceCtorEq, reduceAdd, reduceEqDiff, reduceLeDiff, reduceLT, eq_true (bx_nn h_c1), m_c1, v_c1, hc3, hc18, hc28, hc36, eq_true hg43]; (repeat intro (_ : _ ≤ lim))
          obtain ⟨u46, h_u46, h⟩ := bs h
          have hg45 := gd_some h_u46
          try simp only [gE, ↓gT, ↓reduceIte, reduceCtorEq, reduceAdd, reduceEqDiff, reduceLeDiff, reduceLT, eq_true (bx_nn h_c1), m_c1, v_c1, hc3, hc18, hc28, hc36, eq_true hg43, eq_true hg45]; (repeat intro (_ : _ ≤ lim))
          obtain ⟨u48, h_u48, h⟩ := bs h
          have hg47 := gd_some h_u48
          try simp only [gE, ↓gT, ↓reduceIte, reduceCtorEq, reduceAdd, reduceEqDiff, reduceLeDiff, reduceLT, eq_true (bx_nn h_c1), m_c1, v_c1, hc3, hc18, hc28, hc36, eq_true hg43, eq_true hg45, eq_true hg47]; (repeat intro (_ : _ ≤ lim))
          obtain ⟨r49, h_r49, h⟩ := bs h
          refine HCp.callE (K.slices_Contains_byte ([40, 41, 123, 125, 59, 61, 92, 124, 43, 45, 42, 60, 95], c1) r49 h_r49) (by simp only [gE, ↓gT, ↓reduceIte, reduceCtorEq, reduceAdd, reduceEqDiff, reduceLeDiff, reduceLT, eq_true (bx_nn h_c1), m_c1, v_c1, hc3, hc18, hc28, hc36, eq_true hg43, eq_true hg45, eq_true hg47]) (by simp only [scT, esT, and_self, true_and, and_true]) (by simp only [scT, esT, and_self, true_and, and_true]) ?_
          try simp only [gE, ↓gT, ↓reduceIte, reduceCtorEq, reduceAdd, reduceEqDiff, reduceLeDiff, reduceLT, eq_true (bx_nn h_c1), m_c1, v_c1, hc3, hc18, hc28, hc36, eq_true hg43, eq_true hg45, eq_true hg47]; (repeat intro (_ : _ ≤ lim))
          refine SemF.ret rfl ?_
          try simp only [gE, ↓gT, ↓reduceIte, reduceCtorEq, reduceAdd, reduceEqDiff, reduceLeDiff, reduceLT, eq_true (bx_nn h_c1), m_c1, v_c1, hc3, hc18, hc28, hc36, eq_true hg43, eq_true hg45, eq_true hg47]; (repeat intro (_ : _ ≤ lim))
          obtain rfl := Option.some.inj h
          simp only [gE, ↓gT, ↓reduceIte, reduceCtorEq, reduceAdd, reduceEqDiff, reduceLeDiff, reduceLT, RetP_def, eq_true (bx_nn h_c1), m_c1, v_c1, hc3, hc18, hc28, hc36, eq_true hg43, eq_true hg45, eq_true hg47]
end K
end W
