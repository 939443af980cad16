import Derived.Test.YtnhdobhfebiggaaDoorUMan
namespace W
set_option linter.unusedSimpArgs false
set_option linter.unusedVariables false
open Go HL S
open Nat (reduceAdd reduceEqDiff reduceLeDiff reduceSub reduceMul reduceLT)
set_option linter.unusedVariables false
set_option maxRecDepth 100000
set_option maxHeartbeats 4000000
namespace K
theorem impl_in : ∀ (x : (Int × Int × Int)) (r : Bool), M.impl_in x = some r → HCp P F.impl_in [(.int .i64 x.1), (.int .i64 x.2.1), (.int .i64 x.2.2)] (HV.bool r) := by
  intro x r h
  obtain ⟨p0, p1, p2⟩ := x
  unfold M.impl_in at h
  try dsimp only at h
  refine HCp.mkF S.impl_in (by simp [H.impl_in]) (by simp only [scT, esT, and_self, true_and, and_true]) ?_
  simp only [gE, ↓gT, ↓reduceIte, reduceCtorEq, reduceAdd, reduceEqDiff, reduceLeDiff, reduceLT, H.impl_in]
  refine SemF.seq rfl ?_
  refine SemF.reg true rfl ?_
  try simp only [gE, ↓gT, ↓reduceIte, reduceCtorEq, reduceAdd, reduceEqDiff, reduceLeDiff, reduceLT]; (repeat intro (_ : _ ≤ lim))
  refine SemF.seq rfl ?_
  refine SemF.reg true rfl ?_
  try simp only [gE, ↓gT, ↓reduceIte, reduceCtorEq, reduceAdd, reduceEqDiff, reduceLeDiff, reduceLT]; (repeat intro (_ : _ ≤ lim))
  by_cases hc1 : p1 ≤ p0
  · rw [if_pos hc1] at h
    try simp only [gE, ↓gT, ↓reduceIte, reduceCtorEq, reduceAdd, reduceEqDiff, reduceLeDiff, reduceLT, eq_true hc1]; (repeat intro (_ : _ ≤ lim))
    refine SemF.ret rfl ?_
    try simp only [gE, ↓gT, ↓reduceIte, reduceCtorEq, reduceAdd, reduceEqDiff, reduceLeDiff, reduceLT, eq_true hc1]; (repeat intro (_ : _ ≤ lim))
    obtain rfl := Option.some.inj h
    simp only [gE, ↓gT, ↓reduceIte, reduceCtorEq, reduceAdd, reduceEqDiff, reduceLeDiff, reduceLT, RetP_def, eq_true hc1]
  · rw [if_neg hc1] at h
    try simp only [gE, ↓gT, ↓reduceIte, reduceCtorEq, reduceAdd, reduceEqDiff, reduceLeDiff, reduceLT, eq_false hc1]; (repeat intro (_ : _ ≤ lim))
    refine SemF.ret rfl ?_
    try simp only [gE, ↓gT, ↓reduceIte, reduceCtorEq, reduceAdd, reduceEqDiff, reduceLeDiff, reduceLT, eq_false hc1]; (repeat intro (_ : _ ≤ lim))
    obtain rfl := Option.some.inj h
    simp only [gE, ↓gT, ↓reduceIte, reduceCtorEq, reduceAdd, reduceEqDiff, reduceLeDiff, reduceLT, RetP_def, eq_false hc1]
theorem internal_stringslite_HasPrefix : ∀ (x : (ByteArray × ByteArray)) (r : Bool), M.internal_stringslite_HasPrefix x = some r → HCp P F.internal_stringslite_HasPrefix [(.str x.1), (.str x.2)] (HV.bool r) := by
  intro x r h
  obtain ⟨p0, p1⟩ := x
  unfold M.internal_stringslite_HasPrefix at h
  try dsimp only at h
  refine HCp.mkF S.internal_stringslite_HasPrefix (by simp [H.internal_stringslite_HasPrefix]) (by simp only [scT, esT, and_self, true_and, and_true]) ?_
  simp only [gE, ↓gT, ↓reduceIte, reduceCtorEq, reduceAdd, reduceEqDiff, reduceLeDiff, reduceLT, H.internal_stringslite_HasPrefix]
  refine SemF.seq rfl ?_
  refine SemF.reg true rfl ?_
  try simp only [gE, ↓gT, ↓reduceIte, reduceCtorEq, reduceAdd, reduceEqDiff, reduceLeDiff, reduceLT]; (repeat intro (_ : _ ≤ lim))
  refine SemF.seq rfl ?_
  refine SemF.reg true rfl ?_
  try simp only [gE, ↓gT, ↓reduceIte, reduceCtorEq, reduceAdd, reduceEqDiff, reduceLeDiff, reduceLT]; (repeat intro (_ : _ ≤ lim))
  (repeat intro (_ : _ ≤ lim))
  (repeat intro (_ : _ ≤ lim))
  by_cases hc1 : ((p1.size : Nat) : Int) ≤ ((p0.size : Nat) : Int)
  · rw [if_pos hc1] at h
    try simp only [gE, ↓gT, ↓reduceIte, reduceCtorEq, reduceAdd, reduceEqDiff, reduceLeDiff, reduceLT, eq_true hc1]; (repeat intro (_ : _ ≤ lim))
    (repeat intro (_ : _ ≤ lim))
    obtain ⟨u3, h_u3, h⟩ := bs h
    have hg2 := gd_some h_u3
    try simp only [gE, ↓gT, ↓reduceIte, reduceCtorEq, reduceAdd, reduceEqDiff, reduceLeDiff, reduceLT, eq_true hc1, eq_true hg2]; (repeat intro (_ : _ ≤ lim))
    obtain ⟨u5, h_u5, h⟩ := bs h
    have hg4 := gd_some h_u5
    try simp only [gE, ↓gT, ↓reduceIte, reduceCtorEq, reduceAdd, reduceEqDiff, reduceLeDiff, reduceLT, eq_true hc1, eq_true hg2, eq_true hg4]; (repeat intro (_ : _ ≤ lim))
    refine SemF.ret rfl ?_
    try simp only [gE, ↓gT, ↓reduceIte, reduceCtorEq, reduceAdd, reduceEqDiff, reduceLeDiff, reduceLT, eq_true hc1, eq_true hg2, eq_true hg4]; (repeat intro (_ : _ ≤ lim))
    obtain rfl := Option.some.inj h
    simp only [gE, ↓gT, ↓reduceIte, reduceCtorEq, reduceAdd, reduceEqDiff, reduceLeDiff, reduceLT, RetP_def, eq_true hc1, eq_true hg2, eq_true hg4]
  · rw [if_neg hc1] at h
    try simp only [gE, ↓gT, ↓reduceIte, reduceCtorEq, reduceAdd, reduceEqDiff, reduceLeDiff, reduceLT, eq_false hc1]; (repeat intro (_ : _ ≤ lim))
    refine SemF.ret rfl ?_
    try simp only [gE, ↓gT, ↓reduceIte, reduceCtorEq, reduceAdd, reduceEqDiff, reduceLeDiff, reduceLT, eq_false hc1]; (repeat intro (_ : _ ≤ lim))
    obtain rfl := Option.some.inj h
    simp only [gE, ↓gT, ↓reduceIte, reduceCtorEq, reduceAdd, reduceEqDiff, reduceLeDiff, reduceLT, RetP_def, eq_false hc1]
theorem strings_HasPrefix : ∀ (x : (ByteArray × ByteArray)) (r : Bool), M.strings_HasPrefix x = some r → HCp P F.strings_HasPrefix [(.str x.1), (.str x.2)] (HV.bool r) := by
  intro x r h
  obtain ⟨p0, p1⟩ := x
  unfold M.strings_HasPrefix at h
  try dsimp only at h
  refine HCp.mkF S.strings_HasPrefix (by simp [H.strings_HasPrefix]) (by simp only [scT, esT, and_self, true_and, and_true]) ?_
  simp only [gE, ↓gT, ↓reduceIte, reduceCtorEq, reduceAdd, reduceEqDiff, reduceLeDiff, reduceLT, H.strings_HasPrefix]
  refine SemF.seq rfl ?_
  refine SemF.reg true rfl ?_
  try simp only [gE, ↓gT, ↓reduceIte, reduceCtorEq, reduceAdd, reduceEqDiff, reduceLeDiff, reduceLT]; (repeat intro (_ : _ ≤ lim))
  refine SemF.seq rfl ?_
  refine SemF.reg true rfl ?_
  try simp only [gE, ↓gT, ↓reduceIte, reduceCtorEq, reduceAdd, reduceEqDiff, reduceLeDiff, reduceLT]; (repeat intro (_ : _ ≤ lim))
  obtain ⟨r1, h_r1, h⟩ := bs h
  refine HCp.callE (K.internal_stringslite_HasPrefix (p0, p1) r1 h_r1) (by simp only [gE, ↓gT, ↓reduceIte, reduceCtorEq, reduceAdd, reduceEqDiff, reduceLeDiff, reduceLT]) (by simp only [scT, esT, and_self, true_and, and_true]) (by simp only [scT, esT, and_self, true_and, and_true]) ?_
  try simp only [gE, ↓gT, ↓reduceIte, reduceCtorEq, reduceAdd, reduceEqDiff, reduceLeDiff, reduceLT]; (repeat intro (_ : _ ≤ lim))
  refine SemF.ret rfl ?_
  try simp only [gE, ↓gT, ↓reduceIte, reduceCtorEq, reduceAdd, reduceEqDiff, reduceLeDiff, reduceLT]; (repeat intro (_ : _ ≤ lim))
  obtain rfl := Option.some.inj h
  simp only [gE, ↓gT, ↓reduceIte, reduceCtorEq, reduceAdd, reduceEqDiff, reduceLeDiff, reduceLT, RetP_def]
theorem impl_resText_step (f_impl_resText_L0 : (Int × Res × ByteArray × Int) → Option (Sum (ByteArray × Bool) ByteArray)) (ih_impl_resText_L0 : ∀ (x : (Int × Res × ByteArray × Int)) (out : (Sum (ByteArray × Bool) ByteArray)), f_impl_resText_L0 x = some out → ∀ Q : HExit → Env → St → Prop, (∀ v, out = .inr v → ∀ env st sel, Weak 0 sel [(6, (.str v))] [] env st → Q (.exit 1) env st) → (∀ r, out = .inl r → ∀ env st, RetP [(4, none), (5, none)] (HV.tup [(HV.str r.1), (HV.bool r.2)]) env st → Q .ret env st) → SemL P H.impl_resText.ntmps 0 H.impl_resText_l28 [(1, (.int .i64 x.1)), (6, (.str x.2.2.1)), (38, (.sl (List.map Res.enc x.2.1.L))), (39, (.int .i64 ((x.2.1.L.length : Nat) : Int))), (40, (.int .i64 x.2.2.2))] [] Q) (x : (Res × Int)) (r : (ByteArray × Bool)) (h : (if 6 < x.2 then some ((⟨⟨[]⟩⟩ : ByteArray), false) else
    (if x.1.K = 1 then (M.strconv_Itoa x.1.N >>= fun r3 =>
    (M.impl_in (x.1.N, (-999999999), 999999999) >>= fun r4 =>
    some (r3, r4))) else
    (if x.1.K = 3 then some ((⟨⟨[60, 102, 117, 110, 99, 116, 105, 111, 110, 62]⟩⟩ : ByteArray), true) else
    (if x.1.K = 4 then some ((⟨⟨[60, 102, 97, 105, 108, 62]⟩⟩ : ByteArray), true) else
    (if x.1.K = 5 then some ((⟨⟨[60, 104, 111, 108, 101, 62]⟩⟩ : ByteArray), true) else
    (if x.1.K = 6 then some ((⟨⟨[60, 102, 117, 101, 108, 62]⟩⟩ : ByteArray), true) else
    (if x.1.K = 7 then some ((⟨⟨[46, 46, 46]⟩⟩ : ByteArray), true) else
    (if x.1.K = 2 then (f_impl_resText_L0 (x.2, x.1, x.1.S, 0) >>= fun s65 =>
    (match s65 with
    | .inl r66 => some r66
    | .inr v67 => some (v67, true))) else
    some ((⟨⟨[]⟩⟩ : ByteArray), false))))))))) = some r) : HCp P F.impl_resText [(Res.enc x.1), (.int .i64 x.2)] (HV.tup [(HV.str r.1), (HV.bool r.2)]) := by
  obtain ⟨p0, p1⟩ := x
  try dsimp only at h
  refine HCp.mkF S.impl_resText (by simp [H.impl_resText]) (by simp only [scT, esT, and_self, true_and, and_true]) ?_
  simp only [gE, ↓gT, ↓reduceIte, reduceCtorEq, reduceAdd, reduceEqDiff, reduceLeDiff, reduceLT, H.impl_resText]
  refine SemF.seq rfl ?_
  refine SemF.reg true rfl ?_
  try simp only [gE, ↓gT, ↓reduceIte, reduceCtorEq, reduceAdd, reduceEqDiff, reduceLeDiff, reduceLT]; (repeat intro (_ : _ ≤ lim))
  refine SemF.seq rfl ?_
  refine SemF.seq rfl ?_
  refine SemF.reg true rfl ?_
  try simp only [gE, ↓gT, ↓reduceIte, reduceCtorEq, reduceAdd, reduceEqDiff, reduceLeDiff, reduceLT]; (repeat intro (_ : _ ≤ lim))
  by_cases hc1 : 6 < p1
  · rw [if_pos hc1] at h
    refine SemF.cond rfl ?_
    simp only [gE, ↓gT, ↓reduceIte, reduceCtorEq, reduceAdd, reduceEqDiff, reduceLeDiff, reduceLT, eq_true hc1]
    refine SemF.seq rfl ?_
    refine SemF.reg true rfl ?_
    try simp only [gE, ↓gT, ↓reduceIte, reduceCtorEq, reduceAdd, reduceEqDiff, reduceLeDiff, reduceLT, eq_true hc1]; (repeat intro (_ : _ ≤ lim))
    refine SemF.ret rfl ?_
    try simp only [gE, ↓gT, ↓reduceIte, reduceCtorEq, reduceAdd, reduceEqDiff, reduceLeDiff, reduceLT, eq_true hc1]; (repeat intro (_ : _ ≤ lim))
    obtain rfl := Option.some.inj h
    simp only [gE, ↓gT, ↓reduceIte, reduceCtorEq, reduceAdd, reduceEqDiff, reduceLeDiff, reduceLT, RetP_def, eq_true hc1]
  · rw [if_neg hc1] at h
    refine SemF.cond rfl ?_
    simp only [gE, ↓gT, ↓reduceIte, reduceCtorEq, reduceAdd, reduceEqDiff, reduceLeDiff, reduceLT, eq_false hc1]
    refine SemF.skip rfl ?_
    simp only [gE, ↓gT, ↓reduceIte, reduceCtorEq, reduceAdd, reduceEqDiff, reduceLeDiff, reduceLT, eq_false hc1]
    refine SemF.seq rfl ?_
    refine SemF.seq rfl ?_
    refine SemF.reg true rfl ?_
    try simp only [gE, ↓gT, ↓reduceIte, reduceCtorEq, reduceAdd, reduceEqDiff, reduceLeDiff, reduceLT, eq_false hc1]; (repeat intro (_ : _ ≤ lim))
    refine SemF.block rfl ?_
    refine SemF.seq rfl ?_
    refine SemF.reg true rfl ?_
    try simp only [gE, ↓gT, ↓reduceIte, reduceCtorEq, reduceAdd, reduceEqDiff, reduceLeDiff, reduceLT, eq_false hc1]; (repeat intro (_ : _ ≤ lim))
    by_cases hc2 : p0.K = 1
    · rw [if_pos hc2] at h
      refine SemF.cond rfl ?_
      simp only [gE, ↓gT, ↓reduceIte, reduceCtorEq, reduceAdd, reduceEqDiff, reduceLeDiff, reduceLT, eq_false hc1, eq_true hc2]
      refine SemF.seq rfl ?_
      refine SemF.dreg true rfl ?_
      try simp only [gE, ↓gT, ↓reduceIte, reduceCtorEq, reduceAdd, reduceEqDiff, reduceLeDiff, reduceLT, eq_false hc1, eq_true hc2]; (repeat intro (_ : _ ≤ lim))
      obtain ⟨r3, h_r3, h⟩ := bs h
      refine HCp.callE (K.strconv_Itoa p0.N r3 h_r3) (by simp only [gE, ↓gT, ↓reduceIte, reduceCtorEq, reduceAdd, reduceEqDiff, reduceLeDiff, reduceLT, eq_false hc1, eq_true hc2]) (by simp only [scT, esT, and_self, true_and, and_true]) (by simp only [scT, esT, and_self, true_and, and_true]) ?_
      try simp only [gE, ↓gT, ↓reduceIte, reduceCtorEq, reduceAdd, reduceEqDiff, reduceLeDiff, reduceLT, eq_false hc1, eq_true hc2]; (repeat intro (_ : _ ≤ lim))
      obtain ⟨r4, h_r4, h⟩ := bs h
      refine HCp.callE (K.impl_in (p0.N, (-999999999), 999999999) r4 h_r4) (by simp only [gE, ↓gT, ↓reduceIte, reduceCtorEq, reduceAdd, reduceEqDiff, reduceLeDiff, reduceLT, eq_false hc1, eq_true hc2]) (by simp only [scT, esT, and_self, true_and, and_true]) (by simp only [scT, esT, and_self, true_and, and_true]) ?_
      try simp only [gE, ↓gT, ↓reduceIte, reduceCtorEq, reduceAdd, reduceEqDiff, reduceLeDiff, reduceLT, eq_false hc1, eq_true hc2]; (repeat intro (_ : _ ≤ lim))
      refine SemF.ret rfl ?_
      try simp only [gE, ↓gT, ↓reduceIte, reduceCtorEq, reduceAdd, reduceEqDiff, reduceLeDiff, reduceLT, eq_false hc1, eq_true hc2]; (repeat intro (_ : _ ≤ lim))
      obtain rfl := Option.some.inj h
      simp only [gE, ↓gT, ↓reduceIte, reduceCtorEq, reduceAdd, reduceEqDiff, reduceLeDiff, reduceLT, RetP_def, eq_false hc1, eq_true hc2]
    · rw [if_neg hc2] at h
      refine SemF.cond rfl ?_
      simp only [gE, ↓gT, ↓reduceIte, reduceCtorEq, reduceAdd, reduceEqDiff, reduceLeDiff, reduceLT, eq_false hc1, eq_false hc2]
      refine SemF.seq rfl ?_
      refine SemF.reg true rfl ?_
      try simp only [gE, ↓gT, ↓reduceIte, reduceCtorEq, reduceAdd, reduceEqDiff, reduceLeDiff, reduceLT, eq_false hc1, eq_false hc2]; (repeat intro (_ : _ ≤ lim))
      by_cases hc5 : p0.K = 3
      · rw [if_pos hc5] at h
        refine SemF.cond rfl ?_
        simp only [gE, ↓gT, ↓reduceIte, reduceCtorEq, reduceAdd, reduceEqDiff, reduceLeDiff, reduceLT, eq_false hc1, eq_false hc2, eq_true hc5]
        refine SemF.seq rfl ?_
        refine SemF.reg true rfl ?_
        try simp only [gE, ↓gT, ↓reduceIte, reduceCtorEq, reduceAdd, reduceEqDiff, reduceLeDiff, reduceLT, eq_false hc1, eq_false hc2, eq_true hc5]; (repeat intro (_ : _ ≤ lim))
        refine SemF.ret rfl ?_
        try simp only [gE, ↓gT, ↓reduceIte, reduceCtorEq, reduceAdd, reduceEqDiff, reduceLeDiff, reduceLT, eq_false hc1, eq_false hc2, eq_true hc5]; (repeat intro (_ : _ ≤ lim))
        obtain rfl := Option.some.inj h
        simp only [gE, ↓gT, ↓reduceIte, reduceCtorEq, reduceAdd, reduceEqDiff, reduceLeDiff, reduceLT, RetP_def, eq_false hc1, eq_false hc2, eq_true hc5]
      · rw [if_neg hc5] at h
        refine SemF.cond rfl ?_
        simp only [gE, ↓gT, ↓reduceIte, reduceCtorEq, reduceAdd, reduceEqDiff, reduceLeDiff, reduceLT, eq_false hc1, eq_false hc2, eq_false hc5]
        refine SemF.seq rfl ?_
        refine SemF.reg true rfl ?_
        try simp only [gE, ↓gT, ↓reduceIte, reduceCtorEq, reduceAdd, reduceEqDiff, reduceLeDiff, reduceLT, eq_false hc1, eq_false hc2, eq_false hc5]; (repeat intro (_ : _ ≤ lim))
        by_cases hc6 : p0.K = 4
        · rw [if_pos hc6] at h
          refine SemF.cond rfl ?_
          simp only [gE, ↓gT, ↓reduceIte, reduceCtorEq, reduceAdd, reduceEqDiff, reduceLeDiff, reduceLT, eq_false hc1, eq_false hc2, eq_false hc5, eq_true hc6]
          refine SemF.seq rfl ?_
          refine SemF.reg true rfl ?_
          try simp only [gE, ↓gT, ↓reduceIte, reduceCtorEq, reduceAdd, reduceEqDiff, reduceLeDiff, reduceLT, eq_false hc1, eq_false hc2, eq_false hc5, eq_true hc6]; (repeat intro (_ : _ ≤ lim))
          refine SemF.ret rfl ?_
          try simp only [gE, ↓gT, ↓reduceIte, reduceCtorEq, reduceAdd, reduceEqDiff, reduceLeDiff, reduceLT, eq_false hc1, eq_false hc2, eq_false hc5, eq_true hc6]; (repeat intro (_ : _ ≤ lim))
          obtain rfl := Option.some.inj h
          simp only [gE, ↓gT, ↓reduceIte, reduceCtorEq, reduceAdd, reduceEqDiff, reduceLeDiff, reduceLT, RetP_def, eq_false hc1, eq_false hc2, eq_false hc5, eq_true hc6]
        · rw [if_neg hc6] at h
          refine SemF.cond rfl ?_
          simp only [gE, ↓gT, ↓reduceIte, reduceCtorEq, reduceAdd, reduceEqDiff, reduceLeDiff, reduceLT, eq_false hc1, eq_false hc2, eq_false hc5, eq_false hc6]
          refine SemF.seq rfl ?_
          refine SemF.reg true rfl ?_
          try simp only [gE, ↓gT, ↓reduceIte, reduceCtorEq, reduceAdd, reduceEqDiff, reduceLeDiff, reduceLT, eq_false hc1, eq_false hc2, eq_false hc5, eq_false hc6]; (repeat intro (_ : _ ≤ lim))
          by_cases hc7 : p0.K = 5
          · rw [if_pos hc7] at h
            refine SemF.cond rfl ?_
            simp only [gE, ↓gT, ↓reduceIte, reduceCtorEq, reduceAdd, reduceEqDiff, reduceLeDiff, reduceLT, eq_false hc1, eq_false hc2, eq_false hc5, eq_false hc6, eq_true hc7]
            refine SemF.seq rfl ?_
            refine SemF.reg true rfl ?_
            try simp only [gE, ↓gT, ↓reduceIte, reduceCtorEq, reduceAdd, reduceEqDiff, reduceLeDiff, reduceLT, eq_false hc1, eq_false hc2, eq_false hc5, eq_false hc6, eq_true hc7]; (repeat intro (_ : _ ≤ lim))
            refine SemF.ret rfl ?_
            try simp only [gE, ↓gT, ↓reduceIte, reduceCtorEq, reduceAdd, reduceEqDiff, reduceLeDiff, reduceLT, eq_false hc1, eq_false hc2, eq_false hc5, eq_false hc6, eq_true hc7]; (repeat intro (_ : _ ≤ lim))
            obtain rfl := Option.some.inj h
            simp only [gE, ↓gT, ↓reduceIte, reduceCtorEq, reduceAdd, reduceEqDiff, reduceLeDiff, reduceLT, RetP_def, eq_false hc1, eq_false hc2, eq_false hc5, eq_false hc6, eq_true hc7]
          · rw [if_neg hc7] at h
            refine SemF.cond rfl ?_
            simp only [gE, ↓gT, ↓reduceIte, reduceCtorEq, reduceAdd, reduceEqDiff, reduceLeDiff, reduceLT, eq_false hc1, eq_false hc2, eq_false hc5, eq_false hc6, eq_false hc7]
            refine SemF.seq rfl ?_
            refine SemF.reg true rfl ?_
            try simp only [gE, ↓gT, ↓reduceIte, reduceCtorEq, reduceAdd, reduceEqDiff, reduceLeDiff, reduceLT, eq_false hc1, eq_false hc2, eq_false hc5, eq_false hc6, eq_false hc7]; (repeat intro (_ : _ ≤ lim))
            by_cases hc8 : p0.K = 6
            · rw [if_pos hc8] at h
              refine SemF.cond rfl ?_
              simp only [gE, ↓gT, ↓reduceIte, reduceCtorEq, reduceAdd, reduceEqDiff, reduceLeDiff, reduceLT, eq_false hc1, eq_false hc2, eq_false hc5, eq_false hc6, eq_false hc7, eq_true hc8]
              refine SemF.seq rfl ?_
              refine SemF.reg true rfl ?_
              try simp only [gE, ↓gT, ↓reduceIte, reduceCtorEq, reduceAdd, reduceEqDiff, reduceLeDiff, reduceLT, eq_false hc1, eq_false hc2, eq_false hc5, eq_false hc6, eq_false hc7, eq_true hc8]; (repeat intro (_ : _ ≤ lim))
              refine SemF.ret rfl ?_
              try simp only [gE, ↓gT, ↓reduceIte, reduceCtorEq, reduceAdd, reduceEqDiff, reduceLeDiff, reduceLT, eq_false hc1, eq_false hc2, eq_false hc5, eq_false hc6, eq_false hc7, eq_true hc8]; (repeat intro (_ : _ ≤ lim))
              obtain rfl := Option.some.inj h
              simp only [gE, ↓gT, ↓reduceIte, reduceCtorEq, reduceAdd, reduceEqDiff, reduceLeDiff, reduceLT, RetP_def, eq_false hc1, eq_false hc2, eq_false hc5, eq_false hc6, eq_false hc7, eq_true hc8]
            · rw [if_neg hc8] at h
              refine SemF.cond rfl ?_
              simp only [gE, ↓gT, ↓reduceIte, reduceCtorEq, reduceAdd, reduceEqDiff, reduceLeDiff, reduceLT, eq_false hc1, eq_false hc2, eq_false hc5, eq_false hc6, eq_false hc7, eq_false hc8]
              refine SemF.seq rfl ?_
              refine SemF.reg true rfl ?_
              try simp only [gE, ↓gT, ↓reduceIte, reduceCtorEq, reduceAdd, reduceEqDiff, reduceLeDiff, reduceLT, eq_false hc1, eq_false hc2, eq_false hc5, eq_false hc6, eq_false hc7, eq_false hc8]; (repeat intro (_ : _ ≤ lim))
              by_cases hc9 : p0.K = 7
              · rw [if_pos hc9] at h
                refine SemF.cond rfl ?_
                simp only [gE, ↓gT, ↓reduceIte, reduceCtorEq, reduceAdd, reduceEqDiff, reduceLeDiff, reduceLT, eq_false hc1, eq_false hc2, eq_false hc5, eq_false hc6, eq_false hc7, eq_false hc8, eq_true hc9]
                refine SemF.seq rfl ?_
                refine SemF.reg true rfl ?_
                try simp only [gE, ↓gT, ↓reduceIte, reduceCtorEq, reduceAdd, reduceEqDiff, reduceLeDiff, reduceLT, eq_false hc1, eq_false hc2, eq_false hc5, eq_false hc6, eq_false hc7, eq_false hc8, eq_true hc9]; (repeat intro (_ : _ ≤ lim))
                refine SemF.ret rfl ?_
                try simp only [gE, ↓gT, ↓reduceIte, reduceCtorEq, reduceAdd, reduceEqDiff, reduceLeDiff, reduceLT, eq_false hc1, eq_false hc2, eq_false hc5, eq_false hc6, eq_false hc7, eq_false hc8, eq_true hc9]; (repeat intro (_ : _ ≤ lim))
                obtain rfl := Option.some.inj h
                simp only [gE, ↓gT, ↓reduceIte, reduceCtorEq, reduceAdd, reduceEqDiff, reduceLeDiff, reduceLT, RetP_def, eq_false hc1, eq_false hc2, eq_false hc5, eq_false hc6, eq_false hc7, eq_false hc8, eq_true hc9]
              · rw [if_neg hc9] at h
                refine SemF.cond rfl ?_
                simp only [gE, ↓gT, ↓reduceIte, reduceCtorEq, reduceAdd, reduceEqDiff, reduceLeDiff, reduceLT, eq_false hc1, eq_false hc2, eq_false hc5, eq_false hc6, eq_false hc7, eq_false hc8, eq_false hc9]
                refine SemF.seq rfl ?_
                refine SemF.reg true rfl ?_
                try simp only [gE, ↓gT, ↓reduceIte, reduceCtorEq, reduceAdd, reduceEqDiff, reduceLeDiff, reduceLT, eq_false hc1, eq_false hc2, eq_false hc5, eq_false hc6, eq_false hc7, eq_false hc8, eq_false hc9]; (repeat intro (_ : _ ≤ lim))
                by_cases hc10 : p0.K = 2
                · rw [if_pos hc10] at h
                  refine SemF.cond rfl ?_
                  simp only [gE, ↓gT, ↓reduceIte, reduceCtorEq, reduceAdd, reduceEqDiff, reduceLeDiff, reduceLT, eq_false hc1, eq_false hc2, eq_false hc5, eq_false hc6, eq_false hc7, eq_false hc8, eq_false hc9, eq_true hc10]
                  refine SemF.seq rfl ?_
                  refine SemF.reg true rfl ?_
                  try simp only [gE, ↓gT, ↓reduceIte, reduceCtorEq, reduceAdd, reduceEqDiff, reduceLeDiff, reduceLT, eq_false hc1, eq_false hc2, eq_false hc5, eq_false hc6, eq_false hc7, eq_false hc8, eq_false hc9, eq_true hc10]; (repeat intro (_ : _ ≤ lim))
                  refine SemF.seq rfl ?_
                  refine SemF.seq rfl ?_
                  refine SemF.reg true rfl ?_
                  try simp only [gE, ↓gT, ↓reduceIte, reduceCtorEq, reduceAdd, reduceEqDiff, reduceLeDiff, reduceLT, eq_false hc1, eq_false hc2, eq_false hc5, eq_false hc6, eq_false hc7, eq_false hc8, eq_false hc9, eq_true hc10]; (repeat intro (_ : _ ≤ lim))
                  (repeat intro (_ : _ ≤ lim))
                  refine SemF.block rfl ?_
                  obtain ⟨s65, h_s65, h⟩ := bs h
                  rcases s65 with r66 | v67
                  · dsimp only at h
                    refine SemF.loop rfl ?_
                    refine SemL.weak (sel := []) ⟨by simp only [gE, ↓gT, ↓reduceIte, reduceCtorEq, reduceAdd, reduceEqDiff, reduceLeDiff, reduceLT, hwT, selS, erT, eq_false hc1, eq_false hc2, eq_false hc5, eq_false hc6, eq_false hc7, eq_false hc8, eq_false hc9, eq_true hc10], by decide, by decide, by simp only [gE, ↓gT, ↓reduceIte, reduceCtorEq, reduceAdd, reduceEqDiff, reduceLeDiff, reduceLT, hwT, selS, erT, subR, eq_false hc1, eq_false hc2, eq_false hc5, eq_false hc6, eq_false hc7, eq_false hc8, eq_false hc9, eq_true hc10], by simp only [gE, ↓gT, ↓reduceIte, reduceCtorEq, reduceAdd, reduceEqDiff, reduceLeDiff, reduceLT, hwT, selS, erT, scT, esT, eq_false hc1, eq_false hc2, eq_false hc5, eq_false hc6, eq_false hc7, eq_false hc8, eq_false hc9, eq_true hc10], by simp only [gE, ↓gT, ↓reduceIte, reduceCtorEq, reduceAdd, reduceEqDiff, reduceLeDiff, reduceLT, hwT, selS, erT, scT, esT, eq_false hc1, eq_false hc2, eq_false hc5, eq_false hc6, eq_false hc7, eq_false hc8, eq_false hc9, eq_true hc10]⟩ (ih_impl_resText_L0 (p1, p0, p0.S, 0) (.inl r66) h_s65 _ ?_ ?_)
                    · intro v hv; cases hv
                    · intro r' hr' env st hy
                      cases hr'
                      simp only [gE, ↓gT, ↓reduceIte, reduceCtorEq, reduceAdd, reduceEqDiff, reduceLeDiff, reduceLT]
                      obtain rfl := Option.some.inj h
                      exact hy
                  · dsimp only at h
                    refine SemF.loop rfl ?_
                    refine SemL.weak (sel := []) ⟨by simp only [gE, ↓gT, ↓reduceIte, reduceCtorEq, reduceAdd, reduceEqDiff, reduceLeDiff, reduceLT, hwT, selS, erT, eq_false hc1, eq_false hc2, eq_false hc5, eq_false hc6, eq_false hc7, eq_false hc8, eq_false hc9, eq_true hc10], by decide, by decide, by simp only [gE, ↓gT, ↓reduceIte, reduceCtorEq, reduceAdd, reduceEqDiff, reduceLeDiff, reduceLT, hwT, selS, erT, subR, eq_false hc1, eq_false hc2, eq_false hc5, eq_false hc6, eq_false hc7, eq_false hc8, eq_false hc9, eq_true hc10], by simp only [gE, ↓gT, ↓reduceIte, reduceCtorEq, reduceAdd, reduceEqDiff, reduceLeDiff, reduceLT, hwT, selS, erT, scT, esT, eq_false hc1, eq_false hc2, eq_false hc5, eq_false hc6, eq_false hc7, eq_false hc8, eq_false hc9, eq_true hc10], by simp only [gE, ↓gT, ↓reduceIte, reduceCtorEq, reduceAdd, reduceEqDiff, reduceLeDiff, reduceLT, hwT, selS, erT, scT, esT, eq_false hc1, eq_false hc2, eq_false hc5, eq_false hc6, eq_false hc7, eq_false hc8, eq_false hc9, eq_true hc10]⟩ (ih_impl_resText_L0 (p1, p0, p0.S, 0) (.inr v67) h_s65 _ ?_ ?_)
                    rotate_left
                    · intro r' hr'; cases hr'
                    intro v hv env st sel hw
                    cases hv
                    simp only [gE, ↓gT, ↓reduceIte, reduceCtorEq, reduceAdd, reduceEqDiff, reduceLeDiff, reduceLT]
                    first | refine SemF.weak hw ?_ | refine SemL.weak hw ?_
                    refine SemF.seq rfl ?_
                    refine SemF.reg true rfl ?_
                    try simp only [gE, ↓gT, ↓reduceIte, reduceCtorEq, reduceAdd, reduceEqDiff, reduceLeDiff, reduceLT, eq_false hc1, eq_false hc2, eq_false hc5, eq_false hc6, eq_false hc7, eq_false hc8, eq_false hc9, eq_true hc10]; (repeat intro (_ : _ ≤ lim))
                    refine SemF.ret rfl ?_
                    try simp only [gE, ↓gT, ↓reduceIte, reduceCtorEq, reduceAdd, reduceEqDiff, reduceLeDiff, reduceLT, eq_false hc1, eq_false hc2, eq_false hc5, eq_false hc6, eq_false hc7, eq_false hc8, eq_false hc9, eq_true hc10]; (repeat intro (_ : _ ≤ lim))
                    obtain rfl := Option.some.inj h
                    simp only [gE, ↓gT, ↓reduceIte, reduceCtorEq, reduceAdd, reduceEqDiff, reduceLeDiff, reduceLT, RetP_def, eq_false hc1, eq_false hc2, eq_false hc5, eq_false hc6, eq_false hc7, eq_false hc8, eq_false hc9, eq_true hc10]
                · rw [if_neg hc10] at h
                  refine SemF.cond rfl ?_
                  simp only [gE, ↓gT, ↓reduceIte, reduceCtorEq, reduceAdd, reduceEqDiff, reduceLeDiff, reduceLT, eq_false hc1, eq_false hc2, eq_false hc5, eq_false hc6, eq_false hc7, eq_false hc8, eq_false hc9, eq_false hc10]
                  refine SemF.skip rfl ?_
                  simp only [gE, ↓gT, ↓reduceIte, reduceCtorEq, reduceAdd, reduceEqDiff, reduceLeDiff, reduceLT, eq_false hc1, eq_false hc2, eq_false hc5, eq_false hc6, eq_false hc7, eq_false hc8, eq_false hc9, eq_false hc10]
                  refine SemF.seq rfl ?_
                  refine SemF.reg true rfl ?_
                  try simp only [gE, ↓gT, ↓reduceIte, reduceCtorEq, reduceAdd, reduceEqDiff, reduceLeDiff, reduceLT, eq_false hc1, eq_false hc2, eq_false hc5, eq_false hc6, eq_false hc7, eq_false hc8, eq_false hc9, eq_false hc10]; (repeat intro (_ : _ ≤ lim))
                  refine SemF.ret rfl ?_
                  try simp only [gE, ↓gT, ↓reduceIte, reduceCtorEq, reduceAdd, reduceEqDiff, reduceLeDiff, reduceLT, eq_false hc1, eq_false hc2, eq_false hc5, eq_false hc6, eq_false hc7, eq_false hc8, eq_false hc9, eq_false hc10]; (repeat intro (_ : _ ≤ lim))
                  obtain rfl := Option.some.inj h
                  simp only [gE, ↓gT, ↓reduceIte, reduceCtorEq, reduceAdd, reduceEqDiff, reduceLeDiff, reduceLT, RetP_def, eq_false hc1, eq_false hc2, eq_false hc5, eq_false hc6, eq_false hc7, eq_false hc8, eq_false hc9, eq_false hc10]
end K
end W
