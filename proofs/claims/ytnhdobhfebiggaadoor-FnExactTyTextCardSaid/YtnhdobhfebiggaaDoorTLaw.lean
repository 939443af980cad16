import Derived.Test.YtnhdobhfebiggaaDoorTFam
import Derived.Lib.ItoaNum
namespace W
set_option linter.unusedSimpArgs false
set_option linter.unusedVariables false
open Go HL
set_option linter.unusedVariables false
set_option maxRecDepth 100000
set_option maxHeartbeats 4000000
namespace Q
theorem wrap8 {n : Int} (h : 0 ≤ n) (h' : n < 256) : IntKind.u8.wrap n = n := by
  simp only [IntKind.wrap, IntKind.bits, IntKind.signed]
  first | omega | (simp; omega)
theorem digit {d : Int} (h0 : 0 ≤ d) (h1 : d < 10) : bsOf [IntKind.u8.wrap (IntKind.i64.wrap (48 + d))] = ⟨#[UInt8.ofNat (48 + d.toNat)]⟩ := by
  rw [wrap_ok (by omega), wrap8 (by omega) (by omega)]
  have : (48 + d).toNat = 48 + d.toNat := by omega
  show ByteArray.push ByteArray.empty (UInt8.ofNat (48 + d).toNat) = _
  rw [this]
  rfl
theorem l5Num : ∀ u : Nat, u ≤ 9223372036854775807 → M.spec_l5Num (u : Int) = some ⟨(Lib.decDigits u).toArray⟩ := by
  have hlim : lim = 140737488355328 := rfl
  intro u
  induction u using Nat.strongRecOn with
  | ind u ih =>
    intro hu
    rw [M.spec_l5Num]
    by_cases h : u < 10
    · rw [if_pos (by omega), digit (by omega) (by omega), Lib.decDigits, dif_pos h]
      rfl
    · have hq : Int.tdiv (u : Int) 10 = ((u / 10 : Nat) : Int) := rfl
      have hm : Int.tmod (u : Int) 10 = ((u % 10 : Nat) : Int) := rfl
      rw [if_neg (by omega), hq, hm, wrap_ok (by omega), ih (u / 10) (by omega) (by omega), bind_some', digit (by omega) (by omega)]
      have hlen := decLen 19 (u / 10) (by omega)
      rw [gd_t (by
        show (Lib.decDigits (u / 10)).toArray.size + 1 ≤ lim
        rw [List.size_toArray]; omega), bind_some', Lib.decDigits.eq_def u, dif_neg h]
      congr 1
theorem ba_cat (a b : ByteArray) : (a ++ b).size = a.size + b.size := ByteArray.size_append
theorem itoa_ok {n : Int} (h : i64 n) : ∃ s : ByteArray, M.strconv_Itoa n = some s ∧ s.size ≤ 21 ∧ (0 ≤ n → s = ⟨(Lib.decDigits n.toNat).toArray⟩) := by
  unfold i64 at h
  refine ⟨_, by rw [M.strconv_Itoa, if_pos h], ?_, fun h0 => ?_⟩
  · show (Lib.itoa n).toArray.size ≤ 21
    rw [List.size_toArray]
    unfold Lib.itoa
    split
    · have := decLen 19 n.natAbs (by omega)
      simp only [List.length_cons]
      omega
    · have := decLen 19 n.toNat (by omega)
      omega
  · unfold Lib.itoa
    rw [if_neg (by omega)]
theorem tyText : ∀ t : Ty, t.small → t.cost ≤ 1048576 → ∀ d : Nat, d ≤ 13 → ∃ s s' b, M.impl_tyText (t, (d : Int)) = some (s, b) ∧ M.spec_l9Text (t, (d : Int)) = some (s', b) ∧ (b = true → s = s') ∧ s.size ≤ 32 * (1 + t.cost) ∧ s'.size ≤ 32 * (1 + t.cost) := by
  have hlim : lim = 140737488355328 := rfl
  intro t
  refine Ty.ind (M0 := fun t => t.small → t.cost ≤ 1048576 → ∀ d : Nat, d ≤ 13 → ∃ s s' b, M.impl_tyText (t, (d : Int)) = some (s, b) ∧ M.spec_l9Text (t, (d : Int)) = some (s', b) ∧ (b = true → s = s') ∧ s.size ≤ 32 * (1 + t.cost) ∧ s'.size ≤ 32 * (1 + t.cost)) ?_ t
  intro t ih hs hc d hd
  have hsm := (Ty.small_eq t).1 hs
  have hce := Ty.cost_eq t
  have z0 : (⟨⟨[]⟩⟩ : ByteArray).size = 0 := rfl
  have z1 : (⟨⟨[40]⟩⟩ : ByteArray).size = 1 := rfl
  have z2 : (⟨⟨[41]⟩⟩ : ByteArray).size = 1 := rfl
  have z3 : (⟨⟨[32, 45, 62, 32]⟩⟩ : ByteArray).size = 4 := rfl
  have z4 : (⟨⟨[116]⟩⟩ : ByteArray).size = 1 := rfl
  have z5 : (⟨⟨[73, 110, 116]⟩⟩ : ByteArray).size = 3 := rfl
  have z6 : (⟨⟨[66, 111, 111, 108]⟩⟩ : ByteArray).size = 4 := rfl
  rw [M.impl_tyText, M.spec_l9Text]; dsimp only
  by_cases h0 : 12 < (d : Int)
  · rw [if_pos h0, if_pos h0]
    exact ⟨_, _, _, rfl, rfl, fun _ => rfl, by omega, by omega⟩
  rw [if_neg h0, if_neg h0]
  by_cases h1 : t.K = 1
  · rw [if_pos h1, if_pos h1]
    exact ⟨_, _, _, rfl, rfl, fun _ => rfl, by omega, by omega⟩
  rw [if_neg h1, if_neg h1]
  by_cases h2 : t.K = 2
  · rw [if_pos h2, if_pos h2]
    exact ⟨_, _, _, rfl, rfl, fun _ => rfl, by omega, by omega⟩
  rw [if_neg h2, if_neg h2]
  by_cases h3 : t.K = 3
  · rw [if_pos h3, if_pos h3]
    exact ⟨_, _, _, rfl, rfl, fun _ => rfl, by omega, by omega⟩
  rw [if_neg h3, if_neg h3]
  by_cases h5 : t.K = 5
  · rw [if_pos h5, if_pos h5]
    obtain ⟨s, e1, e2, e3⟩ := itoa_ok (n := t.N) hsm.2.2.1
    rw [e1, bind_some', gd_t (by omega), bind_some']
    by_cases hn : 0 ≤ t.N
    · have hN : t.N = ((t.N.toNat : Nat) : Int) := by omega
      have hi := hsm.2.2.1
      unfold i64 at hi
      have e4 : M.spec_l5Num t.N = some s := by rw [e3 hn, hN, l5Num _ (by omega)]; congr 3
      rw [if_pos hn, e4, bind_some', gd_t (by omega), bind_some']
      exact ⟨_, _, _, rfl, by rw [decide_eq_true hn], fun _ => rfl, by rw [ba_cat]; omega, by rw [ba_cat]; omega⟩
    · rw [if_neg hn, if_neg (by omega)]
      exact ⟨_, _, _, rfl, by rw [decide_eq_false hn], (fun h => by rw [decide_eq_false hn] at h; cases h), by rw [ba_cat]; omega, by omega⟩
  rw [if_neg h5, if_neg h5]
  by_cases h4 : t.K = 4
  rotate_left
  · rw [if_neg h4, if_neg h4]
    exact ⟨_, _, _, rfl, rfl, fun _ => rfl, by omega, by omega⟩
  rw [if_pos h4, if_pos h4]
  by_cases hl : ((t.L.length : Nat) : Int) = 2
  rotate_left
  · rw [if_neg hl, if_neg hl]
    exact ⟨_, _, _, rfl, rfl, fun _ => rfl, by omega, by omega⟩
  rw [if_pos hl, if_pos hl]
  obtain ⟨a, c, hL⟩ : ∃ a c, t.L = [a, c] := by
    match h : t.L, hl with
    | [a, c], _ => exact ⟨a, c, rfl⟩
    | [], hl => simp at hl
    | [_], hl => simp at hl
    | _ :: _ :: _ :: _, hl => simp at hl; omega
  have hcc : t.cost = t.S.size + 2 + (a.cost + c.cost) := by rw [hce, hL]; simp [sumC]; omega
  have ma : a ∈ t.L := by rw [hL]; simp
  have mc : c ∈ t.L := by rw [hL]; simp
  have i0 : ix t.L 0 = some a := by rw [hL]; rfl
  have i1 : ix t.L 1 = some c := by rw [hL]; rfl
  have hm := hsm.2.2.2.2
  obtain ⟨s1, s1', b1, p1, p2, p3, p4, p5⟩ := ih a ma (hm a ma) (by omega) (d + 1) (by omega)
  obtain ⟨s2, s2', b2, r1, r2, r3, r4, r5⟩ := ih c mc (hm c mc) (by omega) (d + 1) (by omega)
  have hw : IntKind.i64.wrap ((d : Int) + 1) = ((d + 1 : Nat) : Int) := by rw [wrap_ok (by omega)]; omega
  simp only [i0, i1, bind_some', hw, p1, p2, r1, r2]
  by_cases hk : a.K = 4
  · rw [if_pos hk, if_pos hk, gd_t (by omega), bind_some', gd_t (by rw [ba_cat]; omega), bind_some', gd_t (by rw [ba_cat, ba_cat]; omega), bind_some', gd_t (by rw [ba_cat, ba_cat, ba_cat]; omega), bind_some',
      gd_t (by omega), bind_some', gd_t (by rw [ba_cat]; omega), bind_some', gd_t (by rw [ba_cat, ba_cat]; omega), bind_some', gd_t (by rw [ba_cat, ba_cat, ba_cat]; omega), bind_some']
    cases b1 with
    | true =>
      rw [if_pos rfl, if_pos rfl]
      exact ⟨_, _, _, rfl, rfl, fun h => by rw [p3 rfl, r3 h], by rw [ba_cat, ba_cat, ba_cat, ba_cat]; omega, by rw [ba_cat, ba_cat, ba_cat, ba_cat]; omega⟩
    | false =>
      rw [if_neg (by simp), if_neg (by simp)]
      exact ⟨_, _, _, rfl, rfl, (fun h => by cases h), by rw [ba_cat, ba_cat, ba_cat, ba_cat]; omega, by rw [ba_cat, ba_cat, ba_cat, ba_cat]; omega⟩
  · rw [if_neg hk, if_neg hk, gd_t (by omega), bind_some', gd_t (by rw [ba_cat]; omega), bind_some', gd_t (by omega), bind_some', gd_t (by rw [ba_cat]; omega), bind_some']
    cases b1 with
    | true =>
      rw [if_pos rfl, if_pos rfl]
      exact ⟨_, _, _, rfl, rfl, fun h => by rw [p3 rfl, r3 h], by rw [ba_cat, ba_cat]; omega, by rw [ba_cat, ba_cat]; omega⟩
    | false =>
      rw [if_neg (by simp), if_neg (by simp)]
      exact ⟨_, _, _, rfl, rfl, (fun h => by cases h), by rw [ba_cat, ba_cat]; omega, by rw [ba_cat, ba_cat]; omega⟩
theorem lawTyText (a : Ty) (ha : a.small) : M.laws_FnExactTyText a = some true := by
  rw [M.laws_FnExactTyText]; try dsimp only
  rw [szTy a ha 1048576 (by omega) (by omega), bind_some']
  by_cases h1 : (a.cost : Int) ≤ 1048576
  rotate_left
  · rw [rest_neg h1, if_pos (by omega)]
  rw [rest_pos h1, if_neg (by omega)]
  obtain ⟨s, s', b, p1, p2, p3, p4, p5⟩ := tyText a ha (by omega) 1 (by omega)
  have p1' : M.impl_tyText (a, 1) = some (s, b) := p1
  have p2' : M.spec_l9Text (a, 1) = some (s', b) := p2
  have hi : M.impl_TyText a = M.spec_TyText a ∧ ∃ r, M.spec_TyText a = some r := by
    rw [M.impl_TyText, M.spec_TyText, p1', p2', bind_some', bind_some']; dsimp only
    cases b with
    | true => rw [if_pos rfl, if_pos rfl, p3 rfl]; exact ⟨rfl, _, rfl⟩
    | false => rw [if_neg (by simp), if_neg (by simp)]; exact ⟨rfl, _, rfl⟩
  obtain ⟨e1, r, e2⟩ := hi
  rw [toTy a (by omega), bind_some', e2, bind_some', bind_some', e1, e2, bind_some', if_pos rfl, bind_some', eqTy a ha a, bind_some', if_pos (by simp)]
end Q
end W
