/- strings.Join: by what the shelf of the kit proves of strings.Builder; as a contract of HL. -/
import Derived.Test.YtnhdobhfebiggaaLMir
import Derived.Test.YtnhdobhfebiggaaLCode
import Derived.Test.YtnhdobhfebiggaaLShelf
import Derived.Test.YtnhdobhfebiggaaHLP
namespace W
set_option linter.unusedSimpArgs false
set_option linter.unusedVariables false
set_option linter.unusedVariables false
set_option linter.unusedSimpArgs false
set_option maxRecDepth 100000
set_option maxHeartbeats 4000000
namespace J
open Go Go.RowKit
/-- kept out of simp's sight -/
inductive Kept (p : Prop) : Prop
  | mk (h : p)
theorem Kept.get {p : Prop} : Kept p → p | ⟨h⟩ => h
theorem tl_size (sep : ByteArray) : ∀ l, (M.joinT sep l).size = sep.size * l.length + M.joinZ l
  | [] => rfl
  | y :: r => by rw [M.joinT, ByteArray.size_append, ByteArray.size_append, tl_size sep r, M.joinZ, List.length_cons, Nat.mul_add]; omega
theorem sz_take_le : ∀ (l : List ByteArray) (k : Nat), M.joinZ (l.take k) ≤ M.joinZ l
  | [], k => by simp
  | x :: l, 0 => by simp [M.joinZ]
  | x :: l, k + 1 => by have := sz_take_le l k; simp only [List.take_succ_cons, M.joinZ]; omega
theorem sz_take_succ : ∀ (l : List ByteArray) (k : Nat) (x : ByteArray), l[k]? = some x → M.joinZ (l.take (k + 1)) = M.joinZ (l.take k) + x.size
  | [], k, x, h => by simp at h
  | y :: l, 0, x, h => by simp at h; subst h; simp [M.joinZ]
  | y :: l, k + 1, x, h => by
    have := sz_take_succ l k x (by simpa using h)
    simp only [List.take_succ_cons, M.joinZ] at this ⊢
    omega
theorem app_assoc (a b c : ByteArray) : (a ++ b) ++ c = a ++ (b ++ c) := by
  apply ByteArray.ext; simp [ByteArray.data_append, Array.append_assoc]
theorem app_nil (a : ByteArray) : a ++ (⟨#[]⟩ : ByteArray) = a := by
  apply ByteArray.ext; simp [ByteArray.data_append]
theorem tl_take_succ (sep : ByteArray) : ∀ (l : List ByteArray) (k : Nat) (x : ByteArray), l[k]? = some x → M.joinT sep (l.take (k + 1)) = M.joinT sep (l.take k) ++ (sep ++ x)
  | [], k, x, h => by simp at h
  | y :: l, 0, x, h => by simp at h; subst h; simp only [List.take_succ_cons, List.take_zero, M.joinT, app_nil]; apply ByteArray.ext; simp [ByteArray.data_append]
  | y :: l, k + 1, x, h => by
    have := tl_take_succ sep l k x (by simpa using h)
    simp only [List.take_succ_cons, M.joinT]
    rw [this, app_assoc, app_assoc]
/-- a text's bytes as a builder holds them -/
def cellsOf (s : ByteArray) : List Value := Lib.byteCells s.data.toList
theorem cellsOf_app (a b : ByteArray) : cellsOf (a ++ b) = cellsOf a ++ Lib.strCells b := by
  unfold cellsOf
  rw [Lib.strCells_eq, ← Lib.byteCells_append, ByteArray.data_append, Array.toList_append]
theorem cellsOf_len (a : ByteArray) : (cellsOf a).length = a.size := by
  unfold cellsOf; rw [Lib.byteCells_length]; rfl
theorem cellsOf_nil (a : ByteArray) : ([] : List Value) ++ Lib.strCells a = cellsOf a := by
  unfold cellsOf; rw [Lib.strCells_eq]; rfl
theorem join0 (a : Option Addr) (c : Nat) (sep : ByteArray) (w : World) : Calls Go.Proofs.Try.prog 114 #[.slice a 0 c, .string sep] w fun e w' => e = .returned (.string (M.joinB sep [])) ∧ w' = w := by
  go_enter Go.Proofs.Try.func114, Go.Proofs.Try.ntmps114
  go_wp2
  go_ret
  exact ⟨rfl, rfl⟩
theorem join1 (b i c : Nat) (x sep : ByteArray) (w : World) (hc : w.cell? ⟨b, i, none⟩ = some (.string x)) : Calls Go.Proofs.Try.prog 114 #[.slice (some ⟨b, i, none⟩) 1 c, .string sep] w fun e w' => e = .returned (.string x) ∧ w' = w := by
  go_enter Go.Proofs.Try.func114, Go.Proofs.Try.ntmps114
  go_wp2
  go_ret
  exact ⟨rfl, rfl⟩
theorem joinN (b o c : Nat) (x y : ByteArray) (r : List ByteArray) (sep : ByteArray) (w : World) (cell : Kept (∀ (j : Nat) z, (x :: y :: r)[j]? = some z → w.cell? ⟨b, o + j, none⟩ = some (.string z)))
    (hb : b < w.heap.size) (N V T : Nat) (hc : N ≤ c) (hN : N = r.length + 2) (hM : V = sep.size * (r.length + 1)) (hT : T = M.joinZ (x :: y :: r)) (hlen : V + T ≤ 140737488355328) (hN2 : N ≤ 140737488355328) :
    Calls Go.Proofs.Try.prog 114 #[.slice (some ⟨b, o, none⟩) N c, .string sep] w fun e w' => e = .returned (.string (M.joinB sep (x :: y :: r))) ∧ Below w.heap.size w w' := by
  have n0 : ((N : Int) == 0) = false := beq_eq_false_iff_ne.2 (by omega)
  have n1 : ((N : Int) == 1) = false := beq_eq_false_iff_ne.2 (by omega)
  have q0 : sep.size < 9223372036854775807 / (N - 1) := by
    have : sep.size + 1 ≤ 9223372036854775807 / (N - 1) := by
      rw [Nat.le_div_iff_mul_le (by omega), Nat.add_mul, show N - 1 = r.length + 1 by omega, ← hM]
      omega
    omega
  have q1 : ¬ (9223372036854775807 / ((N : Int) - 1) ≤ (sep.size : Int)) := by
    rw [show ((N : Int) - 1) = ((N - 1 : Nat) : Int) by omega, show (9223372036854775807 : Int) / ((N - 1 : Nat) : Int) = ((9223372036854775807 / (N - 1) : Nat) : Int) from rfl]
    generalize 9223372036854775807 / (N - 1) = q at q0
    omega
  have q2 : wrap64 ((sep.size : Int) * ((N : Int) - 1)) = (V : Int) := by
    rw [show ((N : Int) - 1) = ((r.length + 1 : Nat) : Int) by omega, ← Int.natCast_mul, ← hM]
    exact IntWalk.wrap64_in _ ⟨by omega, by omega⟩
  have q3 : sep.size = 0 → V = 0 := fun h => by rw [hM, h, Nat.zero_mul]
  have hN3 : 2 ≤ N := by omega
  have kN := Kept.mk hN
  have kT := Kept.mk hT
  have kM := Kept.mk hM
  clear q0 hN hT hM
  go_enter Go.Proofs.Try.func114, Go.Proofs.Try.ntmps114
  go_wp2_with fail
  all_goals first
    | (exfalso; omega)
    | skip
  all_goals (
    go_loop [5, 41] (fun n i => ∃ k : Nat, k ≤ N ∧ i = .int .i64 k ∧ n = .int .i64 ((V + M.joinZ ((x :: y :: r).take k) : Nat) : Int)) (fun _ i => N - (intOf i).toNat)
    case atStart => exact ⟨0, Nat.zero_le _, rfl, by first | (simp [M.joinZ]; done) | (have := q3 (by omega); simp [M.joinZ, this])⟩
    case round =>
      obtain ⟨k, hk, rfl, rfl⟩ := hrel
      by_cases hkN : k < N
      · have hkl : k < (x :: y :: r).length := by simp; have := kN.get; omega
        have hz := List.getElem?_eq_getElem hkl
        generalize (x :: y :: r)[k] = z at hz
        have hcell := cell.get k z hz
        have e1 := sz_take_succ _ k z hz
        have e2 := sz_take_le (x :: y :: r) (k + 1)
        rw [← kT.get] at e2
        generalize hA : M.joinZ ((x :: y :: r).take (k + 1)) = A1 at e1 e2
        generalize M.joinZ ((x :: y :: r).take k) = A0 at e1
        have kA := Kept.mk hA
        clear hA hz hkl
        go_wp2
        exact ⟨⟨k + 1, by omega, by go_num, by rw [kA.get]; refine congrArg _ ?_; omega⟩, by simp [intOf]; omega⟩
      · have hkN' : k = N := by omega
        obtain rfl : N = k := hkN'.symm
        have hall : (x :: y :: r).take N = x :: y :: r := List.take_of_length_le (by simp; have := kN.get; omega)
        rw [hall, ← kT.get]
        clear hall
        go_wp2_with fail
        rw [show (V : Int) + (T : Int) = ((V + T : Nat) : Int) by omega]
        refine (Go.Proofs.Try.Builder_Grow_fresh w.heap.size w.heap.size (V + T) _ (Nat.le_refl _) (heap_alloc_new w _) (by simp) (by omega)).mono ?_
        rintro e w1 ⟨rfl, g1, g2⟩
        have l1 : Below w.heap.size w w1 := ((Below.refl w.heap.size w).alloc (Nat.le_refl _) _).trans g2
        have c0 : w1.cell? ⟨b, o, none⟩ = some (.string x) := by
          rw [l1.cell (p := ⟨b, o, none⟩) hb]
          exact cell.get 0 x rfl
        have z1 := l1.size
        have k1 := Kept.mk (Or.inr g1 : Lib.IsBuilder 176 5 w.heap.size w.heap.size [] w1)
        have k2 := Kept.mk l1
        have acc : Kept (∀ j, (x ++ M.joinT sep ((y :: r).take j)).size ≤ 140737488355328) := .mk fun j => by
          have e1 := sz_take_le (y :: r) j
          have e2 := kT.get
          have e3 := kM.get
          have e4 : ((y :: r).take j).length ≤ r.length + 1 := by rw [List.length_take, List.length_cons]; omega
          have e5 := Nat.mul_le_mul_left sep.size e4
          rw [ByteArray.size_append, tl_size]
          rw [M.joinZ] at e2
          omega
        clear g1 g2 l1
        go_wp2_with fail
        refine (Go.Proofs.Try.Builder_WriteString w.heap.size w.heap.size [] x w1 k1.get (by have := acc.get 0; simp [M.joinT, app_nil] at this ⊢; omega) z1).mono ?_
        rintro e w2 ⟨rfl, g3, g4⟩
        rw [cellsOf_nil] at g3
        have k3 : Kept (Lib.IsBuilder 176 5 w.heap.size w.heap.size (cellsOf (x ++ M.joinT sep ((y :: r).take 0))) w2) := .mk (by rw [List.take_zero, M.joinT, app_nil]; exact Or.inr g3)
        have k4 := Kept.mk (k2.get.trans g4)
        have nr : r.length + 1 = N - 1 := by have := kN.get; omega
        clear g3 g4
        go_wp2_with fail
        go_loopw [65] (fun i wr => ∃ j : Nat, j ≤ r.length + 1 ∧ i = .int .i64 j ∧ Kept (Lib.IsBuilder 176 5 w.heap.size w.heap.size (cellsOf (x ++ M.joinT sep ((y :: r).take j))) wr) ∧ Kept (Below w.heap.size w wr)) (fun i _ => r.length + 1 - (intOf i).toNat)
        case atStart => exact ⟨0, Nat.zero_le _, rfl, k3, k4⟩
        case round =>
          obtain ⟨j, hj, rfl, k5, k6⟩ := hrel
          by_cases hjr : j < r.length + 1
          · have hjl : j < (y :: r).length := by simpa using hjr
            have hz := List.getElem?_eq_getElem hjl
            generalize (y :: r)[j] = z at hz
            have cj : wr.cell? ⟨b, o + 1 + j, none⟩ = some (.string z) := by
              rw [k6.get.cell (p := ⟨b, o + 1 + j, none⟩) hb, show o + 1 + j = o + (j + 1) by omega]
              exact cell.get (j + 1) z (by simpa using hz)
            have zr := k6.get.size
            have step := tl_take_succ sep (y :: r) j z hz
            have hl := acc.get (j + 1)
            rw [step] at hl
            have kS := Kept.mk step
            simp only [ByteArray.size_append] at hl
            have hc0 : (cellsOf (x ++ M.joinT sep ((y :: r).take j))).length = x.size + (M.joinT sep ((y :: r).take j)).size := by rw [cellsOf_len, ByteArray.size_append]
            generalize (M.joinT sep ((y :: r).take j)).size = Z at hl hc0
            clear step hz hjl
            go_wp2_with fail
            refine (Go.Proofs.Try.Builder_WriteString w.heap.size w.heap.size _ sep wr k5.get (by rw [hc0]; omega) zr).mono ?_
            rintro e w3 ⟨rfl, g5, g6⟩
            have z3 : w.heap.size ≤ w3.heap.size := Nat.le_trans zr g6.size
            have k7 := Kept.mk (Or.inr g5 : Lib.IsBuilder 176 5 w.heap.size w.heap.size _ w3)
            have k8 := Kept.mk g6
            clear g5 g6
            go_wp2_with fail
            refine (Go.Proofs.Try.Builder_WriteString w.heap.size w.heap.size _ z w3 k7.get (by rw [List.length_append, hc0, Lib.strCells_length]; omega) z3).mono ?_
            rintro e w4 ⟨rfl, g7, g8⟩
            rw [← cellsOf_app, ← cellsOf_app, app_assoc, app_assoc, ← kS.get] at g7
            have k9 := Kept.mk (Or.inr g7 : Lib.IsBuilder 176 5 w.heap.size w.heap.size _ w4)
            have k10 := Kept.mk ((k6.get.trans k8.get).trans g8)
            clear g7 g8
            go_wp2
            exact ⟨⟨j + 1, by omega, by go_num, k9, k10⟩, by simp [intOf]; omega⟩
          · have hjr' : j = r.length + 1 := by omega
            subst hjr'
            have hall : (y :: r).take (r.length + 1) = y :: r := List.take_of_length_le (by simp)
            have hB := k5.get
            rw [hall] at hB
            have zr := k6.get.size
            go_wp2_with fail
            refine (Go.Proofs.Try.Builder_String_any w.heap.size w.heap.size _ wr hB zr).mono ?_
            rintro e w5 ⟨rfl, g9⟩
            have k11 := Kept.mk (k6.get.trans g9)
            clear g9 hB
            go_wp2
            go_ret
            exact ⟨rfl, k11.get⟩)
end J
open Go HL S Go.RowKit
namespace K
theorem strings_Join : ∀ (x : List ByteArray × ByteArray) (r : ByteArray), M.strings_Join x = some r → HCp P F.strings_Join [(.sl (List.map HV.str x.1)), (.str x.2)] (HV.str r) := by
  intro x r h
  obtain ⟨xs, sep⟩ := x
  rw [M.strings_Join] at h
  split at h
  rotate_left
  · cases h
  rename_i hx
  cases h
  obtain ⟨hx1, hx2⟩ := hx
  dsimp only at hx1 hx2 ⊢
  refine ⟨⟨_, Go.Proofs.Try.func114, rfl, by kernel_rfl⟩, fun G w vs hrel hR => ?_⟩
  obtain ⟨v, u, rfl, r1, r2⟩ : ∃ v u, vs = [v, u] ∧ R G (.val v (.sl (List.map HV.str xs))) ∧ R G (.val u (.str sep)) := by
    cases hR with
    | vcons h1 h2 => cases h2 with
      | vcons h2 h3 => cases h3; exact ⟨_, _, rfl, h1, h2⟩
  cases r2
  have hs0 : G.s = [] := List.eq_nil_of_length_eq_zero (by rw [hrel.len]; rfl)
  have hjsz : (M.joinB sep xs).size ≤ 140737488355328 := by
    cases xs with
    | nil => rw [M.joinB]; exact Nat.zero_le _
    | cons y l => rw [M.joinB, ByteArray.size_append, J.tl_size]; simp only [M.joinZ, List.length_cons, Nat.add_sub_cancel] at hx2; omega
  have fin : ∀ {a : Option Addr} {c n : Nat}, Calls P F.strings_Join #[.slice a n c, .string sep] w (fun e w' => e = .returned (.string (M.joinB sep xs)) ∧ Below w.heap.size w w') →
      Calls P F.strings_Join #[.slice a n c, .string sep] w fun e w' => ∃ v r st' G', e = .returned v ∧ (r = HV.str (M.joinB sep xs) ∧ st' = []) ∧ Rel P G' st' w' ∧ R G' (.val v r) ∧ Step G w G' w' := fun hc => hc.mono fun e w' ⟨he, hw⟩ => by
    have step : Step G w G w' := ⟨fun _ _ _ h => h, fun _ _ _ h => .inl h, fun _ i hi => ⟨i, hi, Nat.le_refl _, rfl, fun _ => rfl⟩, hw.os, hw.tape, hw.output, hw.size, fun j hj _ => hw.block j hj, fun _ h => .inl h⟩
    exact ⟨_, _, [], G, he, ⟨rfl, rfl⟩, ⟨hrel.len, fun b i u hk => cell_same (hw.block b (hrel.K_lt hk)) (hrel.kc b i u hk), fun id info o hi => by rw [hs0] at hi; simp at hi, fun id id' info info' o o' b b' hi => by rw [hs0] at hi; simp at hi, hrel.tab.step step⟩, .str hjsz, step⟩
  have empty : ∀ {a : Option Addr} {c : Nat}, xs = [] → Calls P F.strings_Join #[.slice a 0 c, .string sep] w (fun e w' => e = .returned (.string (M.joinB sep xs)) ∧ Below w.heap.size w w') := fun h => by
    subst h
    exact (J.join0 _ _ sep w).mono fun e w' ⟨he, hw⟩ => ⟨he, hw ▸ Below.refl _ _⟩
  generalize hl : List.map HV.str xs = l at r1
  cases r1 with
  | sl0 => exact fin (empty (by cases xs with | nil => rfl | cons y l => simp at hl))
  | sl us hu hr hk hf hc hn hlm =>
    rename_i sz b base cap n
    subst hl
    have hcell : ∀ (j : Nat) z, xs[j]? = some z → w.cell? ⟨b, base + j, none⟩ = some (.string z) := by
      intro j z hz
      have h1 : (flatL (List.map HV.str xs))[j]? = some (.str z) := by
        have : ∀ (xs : List ByteArray), flatL (List.map HV.str xs) = List.map HV.str xs := by
          intro xs; induction xs with
          | nil => rfl
          | cons y l ih => simp only [List.map_cons, flatL, List.flatMap_cons] at ih ⊢; rw [ih]; rfl
        rw [this, List.getElem?_map, hz]; rfl
      obtain ⟨u, q1, q2⟩ := hr.vals_get j _ h1
      have := hrel.kc _ _ _ (hk j u q1)
      cases q2
      exact this
    rw [List.length_map] at hc hn hlm
    subst hn
    cases xs with
    | nil => exact fin (empty rfl)
    | cons y l =>
      cases l with
      | nil =>
        refine fin ((J.join1 b base cap y sep w (hcell 0 y rfl)).mono fun e w' ⟨he, hw⟩ => ⟨?_, hw ▸ Below.refl _ _⟩)
        rw [he, M.joinB, M.joinT, J.app_nil]
      | cons z l =>
        obtain ⟨u, q1, q2⟩ := hr.vals_get 0 (.str y) rfl
        exact fin (J.joinN b base cap y z l sep w (.mk hcell) (hrel.K_lt (hk 0 u q1)) _ _ _ hc rfl rfl rfl (by simpa using hx2) hx1)
end K
end W
