/- What the library's Grow, Itoa, Join and Repeat do: by the shelf's contracts, in the words of HX. -/
import Derived.Test.YtjlpikjofjhafaaGreatDoorSTab
import Derived.Test.YtjlpikjofjhafaaGreatDoorSShelf
import Derived.Test.YtjlpikjofjhafaaGreatDoorHLP
import Derived.Tactics
set_option linter.unusedSimpArgs false
set_option linter.unusedVariables false
set_option linter.unusedSectionVars false
namespace W
set_option linter.unusedVariables false
set_option linter.unusedSimpArgs false
set_option maxRecDepth 100000
set_option maxHeartbeats 4000000
namespace J
open Go Go.RowKit Go.Sort Go.Proofs HL.X
/-- kept out of simp's sight -/
inductive Kept (p : Prop) : Prop
  | mk (h : p)
theorem Kept.get {p : Prop} : Kept p → p | ⟨h⟩ => h
theorem tl_size (sep : ByteArray) : ∀ l, (joinT sep l).size = sep.size * l.length + joinZ l
  | [] => rfl
  | y :: r => by rw [joinT, ByteArray.size_append, ByteArray.size_append, tl_size sep r, joinZ, List.length_cons, Nat.mul_add]; omega
theorem sz_take_le : ∀ (l : List ByteArray) (k : Nat), joinZ (l.take k) ≤ joinZ l
  | [], k => by simp
  | x :: l, 0 => by simp [joinZ]
  | x :: l, k + 1 => by have := sz_take_le l k; simp only [List.take_succ_cons, joinZ]; omega
theorem sz_take_succ : ∀ (l : List ByteArray) (k : Nat) (x : ByteArray), l[k]? = some x → joinZ (l.take (k + 1)) = joinZ (l.take k) + x.size
  | [], k, x, h => by simp at h
  | y :: l, 0, x, h => by simp at h; subst h; simp [joinZ]
  | y :: l, k + 1, x, h => by
    have := sz_take_succ l k x (by simpa using h)
    simp only [List.take_succ_cons, joinZ] at this ⊢
    omega
theorem app_assoc (a b c : ByteArray) : (a ++ b) ++ c = a ++ (b ++ c) := by
  apply ByteArray.ext; simp [ByteArray.data_append, Array.append_assoc]
theorem app_nil (a : ByteArray) : a ++ (⟨#[]⟩ : ByteArray) = a := by
  apply ByteArray.ext; simp [ByteArray.data_append]
theorem tl_take_succ (sep : ByteArray) : ∀ (l : List ByteArray) (k : Nat) (x : ByteArray), l[k]? = some x → joinT sep (l.take (k + 1)) = joinT sep (l.take k) ++ (sep ++ x)
  | [], k, x, h => by simp at h
  | y :: l, 0, x, h => by simp at h; subst h; simp only [List.take_succ_cons, List.take_zero, joinT, app_nil]; apply ByteArray.ext; simp [ByteArray.data_append]
  | y :: l, k + 1, x, h => by
    have := tl_take_succ sep l k x (by simpa using h)
    simp only [List.take_succ_cons, joinT]
    rw [this, app_assoc, app_assoc]
/-- a text's bytes as a builder holds them -/
def cellsOf (s : ByteArray) : List Value := Lib.byteCells s.data.toList
theorem cellsOf_app (a b : ByteArray) : cellsOf (a ++ b) = cellsOf a ++ Lib.strCells b := by
  unfold cellsOf
  rw [Lib.strCells_eq, ← Lib.byteCells_append, ByteArray.data_append, Array.toList_append]
theorem cellsOf_len (a : ByteArray) : (cellsOf a).length = a.size := by
  unfold cellsOf; rw [Lib.byteCells_length]; rfl
theorem cellsOf_nil (a : ByteArray) : ([] : List Value) ++ Lib.strCells a = cellsOf a := by
  unfold cellsOf; rw [Lib.strCells_eq]; rfl
theorem join0 (a : Option Addr) (c : Nat) (sep : ByteArray) (w : World) : Calls Tryz.prog 18 #[.slice a 0 c, .string sep] w fun e w' => e = .returned (.string (joinB sep [])) ∧ w' = w := by
  go_enter Tryz.func18, Tryz.ntmps18
  go_wp2
  go_ret
  exact ⟨rfl, rfl⟩
theorem join1 (b i c : Nat) (x sep : ByteArray) (w : World) (hc : w.cell? ⟨b, i, none⟩ = some (.string x)) : Calls Tryz.prog 18 #[.slice (some ⟨b, i, none⟩) 1 c, .string sep] w fun e w' => e = .returned (.string x) ∧ w' = w := by
  go_enter Tryz.func18, Tryz.ntmps18
  go_wp2
  go_ret
  exact ⟨rfl, rfl⟩
theorem joinN (b o c : Nat) (x y : ByteArray) (r : List ByteArray) (sep : ByteArray) (w : World) (cell : Kept (∀ (j : Nat) z, (x :: y :: r)[j]? = some z → w.cell? ⟨b, o + j, none⟩ = some (.string z)))
    (hb : b < w.heap.size) (N V T : Nat) (hc : N ≤ c) (hN : N = r.length + 2) (hM : V = sep.size * (r.length + 1)) (hT : T = joinZ (x :: y :: r)) (hlen : V + T ≤ 140737488355328) (hN2 : N ≤ 140737488355328) :
    Calls Tryz.prog 18 #[.slice (some ⟨b, o, none⟩) N c, .string sep] w fun e w' => e = .returned (.string (joinB sep (x :: y :: r))) ∧ Below w.heap.size w w' := by
  have n0 : ((N : Int) == 0) = false := beq_eq_false_iff_ne.2 (by omega)
  have n1 : ((N : Int) == 1) = false := beq_eq_false_iff_ne.2 (by omega)
  have q0 : sep.size < 9223372036854775807 / (N - 1) := by
    have : sep.size + 1 ≤ 9223372036854775807 / (N - 1) := by
      rw [Nat.le_div_iff_mul_le (by omega), Nat.add_mul, show N - 1 = r.length + 1 by omega, ← hM]
      omega
    omega
  have q1 : ¬ (9223372036854775807 / ((N : Int) - 1) ≤ (sep.size : Int)) := by
    rw [show ((N : Int) - 1) = ((N - 1 : Nat) : Int) by omega, show (9223372036854775807 : Int) / ((N - 1 : Nat) : Int) = ((9223372036854775807 / (N - 1) : Nat) : Int) from rfl]
    generalize 9223372036854775807 / (N - 1) = q at q0
    omega
  have q2 : wrap64 ((sep.size : Int) * ((N : Int) - 1)) = (V : Int) := by
    rw [show ((N : Int) - 1) = ((r.length + 1 : Nat) : Int) by omega, ← Int.natCast_mul, ← hM]
    exact IntWalk.wrap64_in _ ⟨by omega, by omega⟩
  have q3 : sep.size = 0 → V = 0 := fun h => by rw [hM, h, Nat.zero_mul]
  have hN3 : 2 ≤ N := by omega
  have kN := Kept.mk hN
  have kT := Kept.mk hT
  have kM := Kept.mk hM
  clear q0 hN hT hM
  go_enter Tryz.func18, Tryz.ntmps18
  go_wp2_with fail
  all_goals first
    | (exfalso; omega)
    | skip
  all_goals (
    go_loop [5, 41] (fun n i => ∃ k : Nat, k ≤ N ∧ i = .int .i64 k ∧ n = .int .i64 ((V + joinZ ((x :: y :: r).take k) : Nat) : Int)) (fun _ i => N - (intOf i).toNat)
    case atStart => exact ⟨0, Nat.zero_le _, rfl, by first | (simp [joinZ]; done) | (have := q3 (by omega); simp [joinZ, this])⟩
    case round =>
      obtain ⟨k, hk, rfl, rfl⟩ := hrel
      by_cases hkN : k < N
      · have hkl : k < (x :: y :: r).length := by simp; have := kN.get; omega
        have hz := List.getElem?_eq_getElem hkl
        generalize (x :: y :: r)[k] = z at hz
        have hcell := cell.get k z hz
        have e1 := sz_take_succ _ k z hz
        have e2 := sz_take_le (x :: y :: r) (k + 1)
        rw [← kT.get] at e2
        generalize hA : joinZ ((x :: y :: r).take (k + 1)) = A1 at e1 e2
        generalize joinZ ((x :: y :: r).take k) = A0 at e1
        have kA := Kept.mk hA
        clear hA hz hkl
        go_wp2
        exact ⟨⟨k + 1, by omega, by go_num, by rw [kA.get]; refine congrArg _ ?_; omega⟩, by simp [intOf]; omega⟩
      · have hkN' : k = N := by omega
        obtain rfl : N = k := hkN'.symm
        have hall : (x :: y :: r).take N = x :: y :: r := List.take_of_length_le (by simp; have := kN.get; omega)
        rw [hall, ← kT.get]
        clear hall
        go_wp2_with fail
        rw [show (V : Int) + (T : Int) = ((V + T : Nat) : Int) by omega]
        refine (Tryz.Builder_Grow_fresh w.heap.size w.heap.size (V + T) _ (Nat.le_refl _) (heap_alloc_new w _) (by simp) (by omega)).mono ?_
        rintro e w1 ⟨rfl, g1, g2⟩
        have l1 : Below w.heap.size w w1 := ((Below.refl w.heap.size w).alloc (Nat.le_refl _) _).trans g2
        have c0 : w1.cell? ⟨b, o, none⟩ = some (.string x) := by
          rw [l1.cell (p := ⟨b, o, none⟩) hb]
          exact cell.get 0 x rfl
        have z1 := l1.size
        have k1 := Kept.mk (Or.inr g1 : Lib.IsBuilder 89 5 w.heap.size w.heap.size [] w1)
        have k2 := Kept.mk l1
        have acc : Kept (∀ j, (x ++ joinT sep ((y :: r).take j)).size ≤ 140737488355328) := .mk fun j => by
          have e1 := sz_take_le (y :: r) j
          have e2 := kT.get
          have e3 := kM.get
          have e4 : ((y :: r).take j).length ≤ r.length + 1 := by rw [List.length_take, List.length_cons]; omega
          have e5 := Nat.mul_le_mul_left sep.size e4
          rw [ByteArray.size_append, tl_size]
          rw [joinZ] at e2
          omega
        clear g1 g2 l1
        go_wp2_with fail
        refine (Tryz.Builder_WriteString w.heap.size w.heap.size [] x w1 k1.get (by have := acc.get 0; simp [joinT, app_nil] at this ⊢; omega) z1).mono ?_
        rintro e w2 ⟨rfl, g3, g4⟩
        rw [cellsOf_nil] at g3
        have k3 : Kept (Lib.IsBuilder 89 5 w.heap.size w.heap.size (cellsOf (x ++ joinT sep ((y :: r).take 0))) w2) := .mk (by rw [List.take_zero, joinT, app_nil]; exact Or.inr g3)
        have k4 := Kept.mk (k2.get.trans g4)
        have nr : r.length + 1 = N - 1 := by have := kN.get; omega
        clear g3 g4
        go_wp2_with fail
        go_loopw [65] (fun i wr => ∃ j : Nat, j ≤ r.length + 1 ∧ i = .int .i64 j ∧ Kept (Lib.IsBuilder 89 5 w.heap.size w.heap.size (cellsOf (x ++ joinT sep ((y :: r).take j))) wr) ∧ Kept (Below w.heap.size w wr)) (fun i _ => r.length + 1 - (intOf i).toNat)
        case atStart => exact ⟨0, Nat.zero_le _, rfl, k3, k4⟩
        case round =>
          obtain ⟨j, hj, rfl, k5, k6⟩ := hrel
          by_cases hjr : j < r.length + 1
          · have hjl : j < (y :: r).length := by simpa using hjr
            have hz := List.getElem?_eq_getElem hjl
            generalize (y :: r)[j] = z at hz
            have cj : wr.cell? ⟨b, o + 1 + j, none⟩ = some (.string z) := by
              rw [k6.get.cell (p := ⟨b, o + 1 + j, none⟩) hb, show o + 1 + j = o + (j + 1) by omega]
              exact cell.get (j + 1) z (by simpa using hz)
            have zr := k6.get.size
            have step := tl_take_succ sep (y :: r) j z hz
            have hl := acc.get (j + 1)
            rw [step] at hl
            have kS := Kept.mk step
            simp only [ByteArray.size_append] at hl
            have hc0 : (cellsOf (x ++ joinT sep ((y :: r).take j))).length = x.size + (joinT sep ((y :: r).take j)).size := by rw [cellsOf_len, ByteArray.size_append]
            generalize (joinT sep ((y :: r).take j)).size = Z at hl hc0
            clear step hz hjl
            go_wp2_with fail
            refine (Tryz.Builder_WriteString w.heap.size w.heap.size _ sep wr k5.get (by rw [hc0]; omega) zr).mono ?_
            rintro e w3 ⟨rfl, g5, g6⟩
            have z3 : w.heap.size ≤ w3.heap.size := Nat.le_trans zr g6.size
            have k7 := Kept.mk (Or.inr g5 : Lib.IsBuilder 89 5 w.heap.size w.heap.size _ w3)
            have k8 := Kept.mk g6
            clear g5 g6
            go_wp2_with fail
            refine (Tryz.Builder_WriteString w.heap.size w.heap.size _ z w3 k7.get (by rw [List.length_append, hc0, Lib.strCells_length]; omega) z3).mono ?_
            rintro e w4 ⟨rfl, g7, g8⟩
            rw [← cellsOf_app, ← cellsOf_app, app_assoc, app_assoc, ← kS.get] at g7
            have k9 := Kept.mk (Or.inr g7 : Lib.IsBuilder 89 5 w.heap.size w.heap.size _ w4)
            have k10 := Kept.mk ((k6.get.trans k8.get).trans g8)
            clear g7 g8
            go_wp2
            exact ⟨⟨j + 1, by omega, by go_num, k9, k10⟩, by simp [intOf]; omega⟩
          · have hjr' : j = r.length + 1 := by omega
            subst hjr'
            have hall : (y :: r).take (r.length + 1) = y :: r := List.take_of_length_le (by simp)
            have hB := k5.get
            rw [hall] at hB
            have zr := k6.get.size
            go_wp2_with fail
            refine (Tryz.Builder_String_any w.heap.size w.heap.size _ wr hB zr).mono ?_
            rintro e w5 ⟨rfl, g9⟩
            have k11 := Kept.mk (k6.get.trans g9)
            clear g9 hB
            go_wp2
            go_ret
            exact ⟨rfl, k11.get⟩)
end J
namespace K
open Go HL HL.X Go.RowKit Go.Proofs
theorem strings_Join : ∀ (x : List ByteArray × ByteArray) (r : ByteArray), joinS x = some r → HCp P 18 [(.sl (List.map HV.str x.1)), (.str x.2)] (HV.str r) := by
  intro x r h
  obtain ⟨xs, sep⟩ := x
  rw [joinS] at h
  split at h
  rotate_left
  · cases h
  rename_i hx
  cases h
  obtain ⟨hx1, hx2⟩ := hx
  dsimp only at hx1 hx2 ⊢
  refine ⟨⟨_, Tryz.func18, by kernel_rfl, by kernel_rfl⟩, fun G w vs hrel hR => ?_⟩
  obtain ⟨v, u, rfl, r1, r2⟩ : ∃ v u, vs = [v, u] ∧ R G (.val v (.sl (List.map HV.str xs))) ∧ R G (.val u (.str sep)) := by
    cases hR with
    | vcons h1 h2 => cases h2 with
      | vcons h2 h3 => cases h3; exact ⟨_, _, rfl, h1, h2⟩
  cases r2
  have hs0 : G.s = [] := List.eq_nil_of_length_eq_zero (by rw [hrel.len]; rfl)
  have hjsz : (joinB sep xs).size ≤ 140737488355328 := by
    cases xs with
    | nil => rw [joinB]; exact Nat.zero_le _
    | cons y l => rw [joinB, ByteArray.size_append, J.tl_size]; simp only [joinZ, List.length_cons, Nat.add_sub_cancel] at hx2; omega
  have fin : ∀ {a : Option Addr} {c n : Nat}, Calls P 18 #[.slice a n c, .string sep] w (fun e w' => e = .returned (.string (joinB sep xs)) ∧ Below w.heap.size w w') →
      Calls P 18 #[.slice a n c, .string sep] w fun e w' => ∃ v r st' G', e = .returned v ∧ (r = HV.str (joinB sep xs) ∧ st' = []) ∧ Rel P G' st' w' ∧ R G' (.val v r) ∧ Step G w G' w' := fun hc => hc.mono fun e w' ⟨he, hw⟩ => by
    have step : Step G w G w' := ⟨rfl, fun _ _ _ h => h, fun _ _ _ h => .inl h, fun _ i hi => ⟨i, hi, Nat.le_refl _, rfl, fun _ => rfl⟩, hw.os, hw.tape, hw.output, hw.size, fun j hj _ => hw.block j hj, fun _ h => .inl h⟩
    exact ⟨_, _, [], G, he, ⟨rfl, rfl⟩, ⟨hrel.len, fun b i u hk => cell_same (hw.block b (hrel.K_lt hk)) (hrel.kc b i u hk), fun id info o hi => by rw [hs0] at hi; simp at hi, fun id id' info info' o o' b b' hi => by rw [hs0] at hi; simp at hi, hrel.tab.step step⟩, .str hjsz, step⟩
  have empty : ∀ {a : Option Addr} {c : Nat}, xs = [] → Calls P 18 #[.slice a 0 c, .string sep] w (fun e w' => e = .returned (.string (joinB sep xs)) ∧ Below w.heap.size w w') := fun h => by
    subst h
    exact (J.join0 _ _ sep w).mono fun e w' ⟨he, hw⟩ => ⟨he, hw ▸ Below.refl _ _⟩
  generalize hl : List.map HV.str xs = l at r1
  cases r1 with
  | sl0 => exact fin (empty (by cases xs with | nil => rfl | cons y l => simp at hl))
  | sl us hu hr hk hf hc hn hlm =>
    rename_i sz b base cap n
    subst hl
    have hcell : ∀ (j : Nat) z, xs[j]? = some z → w.cell? ⟨b, base + j, none⟩ = some (.string z) := by
      intro j z hz
      have h1 : (flatL (List.map HV.str xs))[j]? = some (.str z) := by
        have : ∀ (xs : List ByteArray), flatL (List.map HV.str xs) = List.map HV.str xs := by
          intro xs; induction xs with
          | nil => rfl
          | cons y l ih => simp only [List.map_cons, flatL, List.flatMap_cons] at ih ⊢; rw [ih]; rfl
        rw [this, List.getElem?_map, hz]; rfl
      obtain ⟨u, q1, q2⟩ := hr.vals_get j _ h1
      have := hrel.kc _ _ _ (hk j u q1)
      cases q2
      exact this
    rw [List.length_map] at hc hn hlm
    subst hn
    cases xs with
    | nil => exact fin (empty rfl)
    | cons y l =>
      cases l with
      | nil =>
        refine fin ((J.join1 b base cap y sep w (hcell 0 y rfl)).mono fun e w' ⟨he, hw⟩ => ⟨?_, hw ▸ Below.refl _ _⟩)
        rw [he, joinB, joinT, J.app_nil]
      | cons z l =>
        obtain ⟨u, q1, q2⟩ := hr.vals_get 0 (.str y) rfl
        exact fin (J.joinN b base cap y z l sep w (.mk hcell) (hrel.K_lt (hk 0 u q1)) _ _ _ hc rfl rfl rfl (by simpa using hx2) hx1)
theorem strconv_Itoa : ∀ (x : Int) (r : ByteArray), itoaB x = some r → HCp P 74 [HV.int .i64 x] (HV.str r) := by
  intro x r h
  rw [itoaB] at h
  split at h
  rotate_left
  · cases h
  rename_i hx
  cases h
  obtain ⟨g, hg⟩ : ∃ g, P.globalNamed "internal/strconv.uint64pow10" = some g := ⟨_, Tryz.laysM171.m17⟩
  refine ⟨⟨_, Tryz.func74, by kernel_rfl, by kernel_rfl⟩, fun G w vs hrel hR => ?_⟩
  obtain ⟨v, vs', rfl, r1, r2⟩ : ∃ v vs', vs = v :: vs' ∧ R G (.val v (.int .i64 x)) ∧ R G (.vals vs' []) := by
    cases hR with
    | vcons h1 h2 => exact ⟨_, _, rfl, h1, h2⟩
  cases r1
  cases r2
  refine (Any.strconv_Itoa Tryz.laysM171 x hx.1 hx.2 w (hrel.tab.2 g hg).1).mono fun e w' ⟨he, k, os, hw⟩ => ?_
  subst hw
  have hsz : w.heap.size ≤ (Go.Sort.grow (w.drewN k) os).heap.size := by simp [Go.Sort.grow, World.drewN]
  have hheap : ∀ j, j < w.heap.size → (Go.Sort.grow (w.drewN k) os).heap[j]? = w.heap[j]? := fun j hj => by
    simp only [Go.Sort.grow, World.drewN]
    exact Array.getElem?_append_left hj
  have hlen : (Lib.itoa x).length ≤ 140737488355328 := by
    have := itoa_len hx
    omega
  have hs0 : G.s = [] := List.eq_nil_of_length_eq_zero (by rw [hrel.len]; rfl)
  have step : Step G w G (Go.Sort.grow (w.drewN k) os) := ⟨rfl, fun _ _ _ h => h, fun _ _ _ h => .inl h, fun _ i hi => ⟨i, hi, Nat.le_refl _, rfl, fun _ => rfl⟩, rfl, rfl, rfl, hsz, fun j hj _ => hheap j hj, fun _ h => .inl h⟩
  refine ⟨_, _, [], G, he, ⟨rfl, rfl⟩, ⟨hrel.len, fun b i u hk => cell_same (hheap b (hrel.K_lt hk)) (hrel.kc b i u hk), fun id info o hi => by rw [hs0] at hi; simp at hi, fun id id' info info' o o' b b' hi => by rw [hs0] at hi; simp at hi, hrel.tab.step step⟩, .str ?_, step⟩
  show (Lib.itoa x).toArray.size ≤ lim
  rw [List.size_toArray]
  exact hlen

theorem strings_Repeat : ∀ (x : ByteArray × Int) (r : ByteArray), repB x = some r → HCp P 73 [.str x.1, .int .i64 x.2] (HV.str r) := by
  intro x r h
  obtain ⟨s, c⟩ := x
  rw [repB] at h
  split at h
  rotate_left
  · cases h
  rename_i hx
  cases h
  obtain ⟨hx1, hx2⟩ := hx
  dsimp only at hx1 hx2 ⊢
  refine ⟨⟨_, Tryz.func73, by kernel_rfl, by kernel_rfl⟩, fun G w vs hrel hR => ?_⟩
  obtain ⟨v, u, rfl, r1, r2⟩ : ∃ v u, vs = [v, u] ∧ R G (.val v (.str s)) ∧ R G (.val u (.int .i64 c)) := by
    cases hR with
    | vcons h1 h2 => cases h2 with
      | vcons h2 h3 => cases h3; exact ⟨_, _, rfl, h1, h2⟩
  cases r1
  cases r2
  obtain ⟨m, rfl⟩ : ∃ m : Nat, c = (m : Int) := ⟨c.toNat, by omega⟩
  rw [Int.toNat_natCast] at hx2 ⊢
  have hs0 : G.s = [] := List.eq_nil_of_length_eq_zero (by rw [hrel.len]; rfl)
  have hm : m ≤ 9223372036854775807 := by omega
  refine (Any.strings_Repeat Tryz.lays105 Tryz.Builder_Extra_105 s m w hm hx2).mono fun e w' ⟨he, hw⟩ => ?_
  have step : Step G w G w' := ⟨rfl, fun _ _ _ h => h, fun _ _ _ h => .inl h, fun _ i hi => ⟨i, hi, Nat.le_refl _, rfl, fun _ => rfl⟩, hw.os, hw.tape, hw.output, hw.size, fun j hj _ => hw.block j hj, fun _ h => .inl h⟩
  refine ⟨_, _, [], G, he, ⟨rfl, rfl⟩, ⟨hrel.len, fun b i u hk => cell_same (hw.block b (hrel.K_lt hk)) (hrel.kc b i u hk), fun id info o hi => by rw [hs0] at hi; simp at hi, fun id id' info info' o o' b b' hi => by rw [hs0] at hi; simp at hi, hrel.tab.step step⟩, .str ?_, step⟩
  show ((Lib.repeatL s.data.toList m).toArray).size ≤ lim
  rw [List.size_toArray, Lib.repeatL_length]
  have : s.data.toList.length = s.size := by rw [Array.length_toList]; rfl
  rw [this]
  have hlim : lim = 140737488355328 := rfl
  rw [Nat.mul_comm]
  omega
end K
namespace J
open Go Go.RowKit Go.Sort Go.Proofs HL HL.X
theorem ha_old (w : World) (o : Obj) (k : Nat) (h : k < w.heap.size) : (w.alloc o).heap[k]? = w.heap[k]? := by
  show (w.heap.push o)[k]? = _
  rw [Array.getElem?_push_lt h, Array.getElem?_eq_getElem h]
theorem ha_new (w : World) (o : Obj) : (w.alloc o).heap[w.heap.size]? = some o := by
  show (w.heap.push o)[w.heap.size]? = _
  simp

/-- One object goes, another one comes. -/
theorem two {P : Program} {G : Gh} {w w' : World} {o : HO} {info info1 : Info} {l' : List HV} (h : Rel P G [o] w) (hs : G.s = [info]) (hkc : ∀ b i u, G.K b i = some u → w'.cell? ⟨b, i, none⟩ = some u)
    (hz : info1.sz = 1) (hr : RLive ⟨G.base, G.K, [info, info1]⟩ w' info1 l' true) (e1 : w'.os = w.os) (e2 : w'.tape = w.tape) (e3 : w'.output = w.output) (e4 : w.heap.size ≤ w'.heap.size)
    (e5 : ∀ k, k < w.heap.size → ¬ inS G.s k → w'.heap[k]? = w.heap[k]?) (e6 : ∀ b, info1.blk = some b → info.blk = some b ∨ w.heap.size ≤ b) :
    Rel P ⟨G.base, G.K, [info, info1]⟩ [.dead, .arr 1 l' true] w' ∧ Step G w ⟨G.base, G.K, [info, info1]⟩ w' := by
  refine h.mk2 rfl hkc (fun id i o' hi ho => ?_) (fun id id' i i' o' o'' b b' hi hi' ho ho' l1 l2 hne => ?_) ⟨rfl, fun _ _ _ q => q, fun _ _ _ q => .inl q, fun id i hi => ?_, e1, e2, e3, e4, e5, fun b q => ?_⟩
  · match id, hi, ho with
    | 0, hi, ho =>
      simp only [List.getElem?_cons_zero, Option.some.injEq] at ho
      subst ho
      exact ⟨trivial, fun l m q => by cases q⟩
    | 1, hi, ho =>
      simp only [List.getElem?_cons_succ, List.getElem?_cons_zero, Option.some.injEq] at ho hi
      subst ho hi
      exact ⟨hz, fun l m q => by cases q; exact hr⟩
    | id + 2, hi, ho => simp at hi
  · have z : ∀ id o', ([HO.dead, .arr 1 l' true] : List HO)[id]? = some o' → o'.live.isSome → id = 1 := by
      intro id o' ho l
      match id, ho with
      | 0, ho =>
        simp only [List.getElem?_cons_zero, Option.some.injEq] at ho
        subst ho
        cases l
      | 1, ho => rfl
      | id + 2, ho => simp at ho
    exact absurd ((z _ _ ho l1).trans (z _ _ ho' l2).symm) hne
  · rw [hs] at hi
    match id, hi with
    | 0, hi => exact ⟨i, hi, Nat.le_refl _, rfl, fun _ => rfl⟩
    | id + 1, hi => simp at hi
  · obtain ⟨id, i, hi, hb⟩ := q
    match id, hi with
    | 0, hi =>
      simp only [List.getElem?_cons_zero, Option.some.injEq] at hi
      subst hi
      exact .inl ⟨0, info, by rw [hs]; rfl, hb⟩
    | 1, hi =>
      simp only [List.getElem?_cons_succ, List.getElem?_cons_zero, Option.some.injEq] at hi
      subst hi
      rcases e6 b hb with q | q
      · exact .inl ⟨0, info, by rw [hs]; rfl, q⟩
      · exact .inr q
    | id + 2, hi => simp at hi

theorem one_obj {P : Program} {G : Gh} {w : World} {l : List HV} (h : Rel P G [.arr 1 l true] w) : ∃ info, G.s = [info] ∧ info.sz = 1 ∧ RLive G w info l true := by
  have hl := h.len
  match hs : G.s, hl with
  | [info], _ =>
    obtain ⟨a, b⟩ := h.obj 0 info (.arr 1 l true) (by rw [hs]; rfl) rfl
    exact ⟨info, rfl, a, b l true rfl⟩
  | [], hl => simp at hl
  | _ :: _ :: _, hl => simp at hl

/-- What a list of one's own is, as an argument. -/
theorem own_arg {G : Gh} {w : World} {info : Info} {l : List HV} {v : Value} {n : Nat} (hs : G.s = [info]) (hr : RLive G w info l true) (hn : n = l.length) (h : R G (.val v (.own 0 n))) :
    ∃ a, v = .slice a n info.cap ∧ ∀ b, info.blk = some b → a = some ⟨b, 0, none⟩ := by
  cases h with
  | own hi hle hp =>
    rename_i a cap inf
    rw [hs] at hi
    simp only [List.getElem?_cons_zero, Option.some.injEq] at hi
    subst hi
    obtain ⟨h1, h2⟩ := hp (by rw [hr.n, hn])
    exact ⟨a, by rw [h2], h1⟩

/-- Room behind an empty list of one's own. -/
theorem grow_hc {n : Int} (h0 : 0 ≤ n) (h1 : n ≤ 1099511627776) : HC P 100 [.own 0 0, .int .i64 n] [.arr 1 [] true] fun r st => r = .own 1 0 ∧ st = [.dead, .arr 1 [] true] := by
  refine ⟨⟨_, Tryz.func100, by kernel_rfl, by kernel_rfl⟩, fun G w vs hr hR => ?_⟩
  obtain ⟨info, hs, hz, hl⟩ := one_obj hr
  cases hR with
  | vcons hv hnil =>
  cases hnil with
  | vcons hv2 hnil =>
  cases hnil
  cases hv2
  obtain ⟨a, rfl, ha⟩ := own_arg hs hl rfl hv
  have hn0 : info.n = 0 := hl.n
  obtain ⟨m, rfl⟩ : ∃ m : Nat, n = (m : Int) := ⟨n.toNat, by omega⟩
  show Calls Tryz.prog 100 #[.slice a 0 info.cap, .int .i64 (m : Int)] w _
  by_cases hroom : m ≤ info.cap
  · refine (Any8.slices_Grow_room Tryz.growS a 0 info.cap m w (Nat.zero_le _) hl.nil.2 (by omega) (by omega)).mono ?_
    rintro e w' ⟨rfl, rfl⟩
    have hr' : RLive ⟨G.base, G.K, [info, info]⟩ w' info [] true := ⟨hl.n, hl.cap, hl.lm, hl.uni, hl.flat, hl.nil, fun b hb => by
      obtain ⟨c, t, us, g1, g2, g3, g4, g5, g6, g7⟩ := hl.row b hb
      refine ⟨c, t, us, g1, g2, ?_, g4, g5, g6, g7⟩
      have : us = [] := List.length_eq_zero_iff.1 g3.vals_length
      subst this
      exact .vnil⟩
    obtain ⟨q1, q2⟩ := two hr hs hr.kc hz hr' rfl rfl rfl (Nat.le_refl _) (fun _ _ _ => rfl) (fun b hb => .inl hb)
    exact ⟨_, _, _, _, rfl, ⟨rfl, rfl⟩, q1, .own (info := info) rfl (by rw [hn0]; exact Nat.le_refl _) fun _ => ⟨ha, rfl⟩, q2⟩
  · have e1 : (Tryz.prog.info? (Tryz.growS_ren.t 25)).map (fun i => (i.size, i.bytes, i.zero)) = some (1, 16, some (.string ⟨⟨[]⟩⟩)) := by kernel_rfl
    obtain ⟨i0, hi0, hi⟩ := Option.map_eq_some_iff.1 e1
    simp only [Prod.mk.injEq] at hi
    obtain ⟨hi1, hi2, hi3⟩ := hi
    obtain ⟨cs, hcl, hcs⟩ : ∃ cs : List Value, cs.length = info.cap * i0.size ∧ ∀ a', a = some a' → ∀ j v, cs[j]? = some v → w.cell? (a'.add j) = some v := by
      cases hb : info.blk with
      | none =>
        have h0 := hl.nil.1 hb
        exact ⟨[], by rw [h0]; simp, fun a' _ j v hj => by simp at hj⟩
      | some b =>
        obtain ⟨c, t, us, g1, g2, g3, g4, g5, g6, g7⟩ := hl.row b hb
        rw [hz, Nat.mul_one] at g2
        refine ⟨c.toList.take info.cap, by rw [hi1]; simp; omega, fun a' ha' j v hj => ?_⟩
        rw [ha b hb] at ha'
        cases ha'
        rw [List.getElem?_take] at hj
        split at hj
        · rw [addr_add]
          simp only [World.cell?, g1, Nat.zero_add]
          simpa using hj
        · cases hj
    refine (Any8.slices_Grow_grow Tryz.growS i0 _ hi0 hi3 (by omega) a 0 info.cap m cs w (Nat.zero_le _) (by omega) (by rw [hi2]; omega) (by omega) hcl (fun hnone => ?_) hcs).mono ?_
    · cases hb : info.blk with
      | none => exact hl.nil.1 hb
      | some b => rw [ha b hb] at hnone; cases hnone
    rintro e w' ⟨rfl, rfl⟩
    have hge := grownCap_ge w (0 + m) info.cap (Tryz.growS_ren.t 25)
    have hle := grownCap_le_maxLen w (0 + m) info.cap (Tryz.growS_ren.t 25) (by unfold Go.maxLen; omega)
    unfold Go.maxLen at hle
    generalize hgc : grownCap w (0 + m) info.cap (Tryz.growS_ren.t 25) = gc at hge hle
    generalize hcc : cs.toArray ++ Builtin.zeroCells (Value.string ⟨⟨[]⟩⟩).cells (0 + m - info.cap) ++ Builtin.zeroCells (Value.string ⟨⟨[]⟩⟩).cells (gc - (0 + m)) = cc
    have hccs : cc.size = gc := by
      rw [← hcc, Array.size_append, Array.size_append, size_zeroCells, size_zeroCells, List.size_toArray, hcl, hi1]
      simp only [Value.cells, List.size_toArray, List.length_cons, List.length_nil]
      omega
    let info1 : Info := ⟨some w.heap.size, 1, 0, gc⟩
    have hr' : RLive ⟨G.base, G.K, [info, info1]⟩ (w.drew.alloc (.cells cc (Tryz.growS_ren.t 25))) info1 [] true := ⟨rfl, Nat.zero_le _, by simp, (fun x hx => by cases hx), (fun c hc => by simp at hc), ⟨fun q => (by cases q), hle⟩, fun b hb => by
      cases hb
      exact ⟨cc, _, [], ha_new w.drew _, by simp [info1, hccs], .vnil, fun k u hu => by simp at hu, fun k _ _ => K_new hr k, fun _ k _ => K_new hr k, fun q => by cases q⟩⟩
    obtain ⟨q1, q2⟩ := two hr hs (fun b i u hk => cell_same (ha_old w.drew _ _ (hr.K_lt hk)) (hr.kc _ _ _ hk)) rfl hr' rfl rfl rfl (by simp) (fun k hk _ => ha_old w.drew _ k hk) (fun b hb => by cases hb; exact .inr (Nat.le_refl _))
    exact ⟨_, _, _, _, rfl, ⟨rfl, rfl⟩, q1, .own (info := info1) rfl (Nat.le_refl _) fun _ => ⟨fun b hb => by cases hb; rfl, rfl⟩, q2⟩

theorem grow_claim (x : Int × List ByteArray) (o : List ByteArray) (h : growB x.1 x.2 = some o) : ClaimF P s_slices_Grow_string x o := by
  obtain ⟨n, l⟩ := x
  simp only [growB] at h
  cases hb : (decide (l = []) && (decide (0 ≤ n) && decide (n ≤ 1099511627776))) with
  | false => rw [hb] at h; cases h
  | true =>
    rw [hb] at h
    cases h
    simp only [Bool.and_eq_true, decide_eq_true_eq] at hb
    obtain ⟨rfl, h1, h2⟩ := hb
    intro _ _
    exact ⟨grow_hc h1 h2, rfl, rfl, trivial, by decide⟩

theorem itoa_claim (x : Int) (o : ByteArray) (h : itoaB x = some o) : ClaimF P s_strconv_Itoa x o := by
  intro _ _
  exact ⟨K.strconv_Itoa x o h, rfl, rfl, trivial, by decide⟩
theorem join_claim (x : List ByteArray × ByteArray) (o : ByteArray) (h : joinS x = some o) : ClaimF P s_strings_Join x o := by
  intro _ _
  exact ⟨K.strings_Join x o h, rfl, rfl, trivial, by decide⟩
theorem rep_claim (x : ByteArray × Int) (o : ByteArray) (h : repB x = some o) : ClaimF P s_strings_Repeat x o := by
  intro _ _
  exact ⟨K.strings_Repeat x o h, rfl, rfl, trivial, by decide⟩
end J
end W
