import Derived.Test.YtnhdobhfebiggaaDoorUFam
import Derived.Lib.ItoaNum
namespace W
set_option linter.unusedSimpArgs false
set_option linter.unusedVariables false
open Go HL
set_option linter.unusedVariables false
set_option maxRecDepth 100000
set_option maxHeartbeats 4000000
namespace Q
theorem wrap8 {n : Int} (h : 0 ≤ n) (h' : n < 256) : IntKind.u8.wrap n = n := by
  simp only [IntKind.wrap, IntKind.bits, IntKind.signed]
  first | omega | (simp; omega)
theorem digit {d : Int} (h0 : 0 ≤ d) (h1 : d < 10) : bsOf [IntKind.u8.wrap (IntKind.i64.wrap (48 + d))] = ⟨#[UInt8.ofNat (48 + d.toNat)]⟩ := by
  rw [wrap_ok (by omega), wrap8 (by omega) (by omega)]
  have : (48 + d).toNat = 48 + d.toNat := by omega
  show ByteArray.push ByteArray.empty (UInt8.ofNat (48 + d).toNat) = _
  rw [this]
  rfl
theorem l5Num : ∀ u : Nat, u ≤ 9223372036854775807 → M.spec_l5Num (u : Int) = some ⟨(Lib.decDigits u).toArray⟩ := by
  have hlim : lim = 140737488355328 := rfl
  intro u
  induction u using Nat.strongRecOn with
  | ind u ih =>
    intro hu
    rw [M.spec_l5Num]
    by_cases h : u < 10
    · rw [if_pos (by omega), digit (by omega) (by omega), Lib.decDigits, dif_pos h]
      rfl
    · have hq : Int.tdiv (u : Int) 10 = ((u / 10 : Nat) : Int) := rfl
      have hm : Int.tmod (u : Int) 10 = ((u % 10 : Nat) : Int) := rfl
      rw [if_neg (by omega), hq, hm, wrap_ok (by omega), ih (u / 10) (by omega) (by omega), bind_some', digit (by omega) (by omega)]
      have hlen := decLen 19 (u / 10) (by omega)
      rw [gd_t (by
        show (Lib.decDigits (u / 10)).toArray.size + 1 ≤ lim
        rw [List.size_toArray]; omega), bind_some', Lib.decDigits.eq_def u, dif_neg h]
      congr 1
theorem ba_cat (a b : ByteArray) : (a ++ b).size = a.size + b.size := ByteArray.size_append
theorem itoa_ok {n : Int} (h : i64 n) : ∃ s : ByteArray, M.strconv_Itoa n = some s ∧ s.size ≤ 21 ∧ (0 ≤ n → s = ⟨(Lib.decDigits n.toNat).toArray⟩) := by
  unfold i64 at h
  refine ⟨_, by rw [M.strconv_Itoa, if_pos h], ?_, fun h0 => ?_⟩
  · show (Lib.itoa n).toArray.size ≤ 21
    rw [List.size_toArray]
    unfold Lib.itoa
    split
    · have := decLen 19 n.natAbs (by omega)
      simp only [List.length_cons]
      omega
    · have := decLen 19 n.toNat (by omega)
      omega
  · unfold Lib.itoa
    rw [if_neg (by omega)]

theorem loop2 {α : Type} {l : List α} (hl : l.length ≤ lim) (c : α → Nat) {L L' : ByteArray → Int → Option (Sum (ByteArray × Bool) ByteArray)} {e : ByteArray}
    (hL : ∀ (i : Nat) (x : α) (acc : ByteArray), x ∈ l → ix l i = some x → (i : Int) < (l.length : Nat) → IntKind.i64.wrap ((i : Int) + 1) = ((i + 1 : Nat) : Int) → acc.size + c x ≤ 1099511627776 →
      (L acc i = some (.inl (e, false)) ∧ L' acc i = some (.inl (e, false))) ∨ ∃ p : ByteArray, p.size ≤ c x ∧ L acc i = L (acc ++ p) ((i + 1 : Nat) : Int) ∧ L' acc i = L' (acc ++ p) ((i + 1 : Nat) : Int))
    (hend : ∀ acc, L acc (l.length : Nat) = some (.inr acc)) (hend' : ∀ acc, L' acc (l.length : Nat) = some (.inr acc)) (acc : ByteArray) (ha : acc.size + sumC c l ≤ 1099511627776) :
    (L acc 0 = some (.inl (e, false)) ∧ L' acc 0 = some (.inl (e, false))) ∨ ∃ s, L acc 0 = some (.inr s) ∧ L' acc 0 = some (.inr s) ∧ s.size ≤ acc.size + sumC c l := by
  have key : ∀ (n i : Nat) (acc : ByteArray), i + n = l.length → acc.size + sumC c (l.drop i) ≤ 1099511627776 →
      (L acc i = some (.inl (e, false)) ∧ L' acc i = some (.inl (e, false))) ∨ ∃ s, L acc i = some (.inr s) ∧ L' acc i = some (.inr s) ∧ s.size ≤ acc.size + sumC c (l.drop i) := by
    intro n
    induction n with
    | zero =>
      intro i acc h ha
      have : i = l.length := by omega
      subst this
      exact .inr ⟨acc, hend acc, hend' acc, by omega⟩
    | succ n ih =>
      intro i acc h ha
      have hi : i < l.length := by omega
      have hx : l[i]? = some l[i] := List.getElem?_eq_getElem hi
      rw [List.drop_eq_getElem_cons hi] at ha ⊢
      simp only [sumC] at ha ⊢
      rcases hL i l[i] acc (List.getElem_mem _) (ix_of hx) (by omega) (wrap_succ hi hl) (by omega) with h1 | ⟨p, h1, h2, h3⟩
      · exact .inl h1
      · have hs : (acc ++ p).size = acc.size + p.size := ba_cat _ _
        rcases ih (i + 1) (acc ++ p) (by omega) (by omega) with h4 | ⟨s, h4, h5, h6⟩
        · exact .inl ⟨h2.trans h4.1, h3.trans h4.2⟩
        · exact .inr ⟨s, h2.trans h4, h3.trans h5, by omega⟩
  simpa using key l.length 0 acc (by omega) (by simpa using ha)

/-- does a text begin with a '-'? -/
def minus (s : ByteArray) : Prop := s.data[0]? = some 45
instance (s : ByteArray) : Decidable (minus s) := inferInstanceAs (Decidable (_ = _))
theorem prefix_minus (s : ByteArray) : M.strings_HasPrefix (s, (⟨⟨[45]⟩⟩ : ByteArray)) = some (decide (minus s)) := by
  rw [M.strings_HasPrefix, M.internal_stringslite_HasPrefix]; dsimp only
  have z : (⟨⟨[45]⟩⟩ : ByteArray).size = 1 := rfl
  rw [z]
  obtain ⟨⟨l⟩⟩ := s
  cases l with
  | nil =>
    rw [if_neg (by show ¬ ((1 : Nat) : Int) ≤ ((0 : Nat) : Int); omega), bind_some']
    rfl
  | cons a l =>
    have hs : (⟨⟨a :: l⟩⟩ : ByteArray).size = l.length + 1 := by simp [ByteArray.size]
    rw [hs, if_pos (by omega), gd_t (by omega), bind_some', gd_t (by omega), bind_some', bind_some']
    congr 1
    apply decide_eq_decide.2
    have e1 : (⟨⟨a :: l⟩⟩ : ByteArray).extract (0 : Int).toNat ((1 : Nat) : Int).toNat = ⟨⟨[a]⟩⟩ := by
      apply ByteArray.ext
      simp [ByteArray.data_extract]
    rw [e1]
    unfold minus
    simp
theorem bx0 {s : ByteArray} (h : 0 < s.size) : ∃ c : UInt8, bx s 0 = some ((c.toNat : Nat) : Int) ∧ (((c.toNat : Nat) : Int) = 45 ↔ minus s) := by
  obtain ⟨⟨l⟩⟩ := s
  cases l with
  | nil => simp [ByteArray.size] at h
  | cons a l =>
    refine ⟨a, rfl, ?_⟩
    unfold minus
    constructor
    · intro h
      have : a.toNat = 45 := by omega
      have : a = 45 := UInt8.toNat_inj.1 this
      simp [this]
    · intro h
      have : a = 45 := by simpa using h
      subst this
      rfl
theorem minus_pos {s : ByteArray} (h : minus s) : 0 < s.size := by
  unfold minus at h
  obtain ⟨⟨l⟩⟩ := s
  cases l with
  | nil => simp at h
  | cons a l => simp [ByteArray.size]
theorem num13 {n : Int} (h : i64 n) : ∃ s s' b, M.strconv_Itoa n = some s ∧ M.impl_in (n, (-999999999), 999999999) = some b ∧ M.spec_l13Num n = some s' ∧ M.spec_l1In (n, (-999999999), 999999999) = some b ∧ (b = true → s = s') ∧ s.size ≤ 21 ∧ s'.size ≤ 21 := by
  have hlim : lim = 140737488355328 := rfl
  have z4 : (⟨⟨[45]⟩⟩ : ByteArray).size = 1 := rfl
  unfold i64 at h
  have hlen := itoa_len h
  have hsz : (⟨(Lib.itoa n).toArray⟩ : ByteArray).size = (Lib.itoa n).length := List.size_toArray
  have hI : M.strconv_Itoa n = some ⟨(Lib.itoa n).toArray⟩ := by rw [M.strconv_Itoa, if_pos h]
  rw [M.impl_in, M.spec_l1In, M.spec_l13Num, hI]; dsimp only
  by_cases h0 : n < 0
  · rw [if_pos h0]
    by_cases h1 : -1000000000 < n
    · have e1 : (0 : Int) - n = ((n.natAbs : Nat) : Int) := by omega
      have hl : (Lib.decDigits n.natAbs).length ≤ 20 := decLen 19 n.natAbs (by omega)
      have hs : (⟨(Lib.decDigits n.natAbs).toArray⟩ : ByteArray).size = (Lib.decDigits n.natAbs).length := List.size_toArray
      rw [if_pos h1, wrap_ok (by omega), e1, l5Num _ (by omega), bind_some', gd_t (by omega), bind_some', if_pos (by omega)]
      refine ⟨_, _, _, rfl, rfl, rfl, rfl, fun _ => ?_, by omega, by rw [ba_cat]; omega⟩
      unfold Lib.itoa
      rw [if_pos h0]
      apply ByteArray.ext
      simp [ByteArray.data_append]
    · rw [if_neg h1, if_neg (by omega)]
      exact ⟨_, _, _, rfl, rfl, rfl, rfl, (fun h => by cases h), by omega, by omega⟩
  · have e1 : M.spec_l5Num n = some ⟨(Lib.itoa n).toArray⟩ := by
      have hn : n = ((n.toNat : Nat) : Int) := by omega
      unfold Lib.itoa
      rw [if_neg h0, hn, l5Num _ (by omega)]
      congr 3
    rw [if_neg h0, e1, bind_some', if_pos (by omega)]
    exact ⟨_, _, _, rfl, rfl, rfl, rfl, fun _ => rfl, by omega, by omega⟩
/-- what stands between, and the piece -/
theorem resText : ∀ t : Res, t.small → t.cost ≤ 1048576 → ∀ d : Nat, d ≤ 7 → ∃ s s' b, M.impl_resText (t, (d : Int)) = some (s, b) ∧ M.spec_l13Text (t, (d : Int)) = some (s', b) ∧ (b = true → s = s') ∧ s.size ≤ 32 + 40 * t.cost ∧ s'.size ≤ 32 + 40 * t.cost := by
  have hlim : lim = 140737488355328 := rfl
  intro t
  refine Res.ind (M0 := fun t => t.small → t.cost ≤ 1048576 → ∀ d : Nat, d ≤ 7 → ∃ s s' b, M.impl_resText (t, (d : Int)) = some (s, b) ∧ M.spec_l13Text (t, (d : Int)) = some (s', b) ∧ (b = true → s = s') ∧ s.size ≤ 32 + 40 * t.cost ∧ s'.size ≤ 32 + 40 * t.cost) ?_ t
  intro t ih hs hc d hd
  obtain ⟨hK, hS, hN, hl, hm⟩ := (Res.small_eq t).1 hs
  have hce := Res.cost_eq t
  have z0 : (⟨⟨[]⟩⟩ : ByteArray).size = 0 := rfl
  have z1 : (⟨⟨[40]⟩⟩ : ByteArray).size = 1 := rfl
  have z2 : (⟨⟨[41]⟩⟩ : ByteArray).size = 1 := rfl
  have z3 : (⟨⟨[32]⟩⟩ : ByteArray).size = 1 := rfl
  have z5 : (⟨⟨[60, 102, 117, 110, 99, 116, 105, 111, 110, 62]⟩⟩ : ByteArray).size = 10 := rfl
  have z6 : (⟨⟨[60, 102, 97, 105, 108, 62]⟩⟩ : ByteArray).size = 6 := rfl
  have z7 : (⟨⟨[60, 104, 111, 108, 101, 62]⟩⟩ : ByteArray).size = 6 := rfl
  have z8 : (⟨⟨[60, 102, 117, 101, 108, 62]⟩⟩ : ByteArray).size = 6 := rfl
  have z9 : (⟨⟨[46, 46, 46]⟩⟩ : ByteArray).size = 3 := rfl
  rw [M.impl_resText, M.spec_l13Text]; dsimp only
  by_cases h0 : 6 < (d : Int)
  · rw [if_pos h0, if_pos h0]
    exact ⟨_, _, _, rfl, rfl, fun _ => rfl, by omega, by omega⟩
  rw [if_neg h0, if_neg h0]
  by_cases h1 : t.K = 1
  · rw [if_pos h1, if_pos h1]
    obtain ⟨s, s', b, e1, e2, e3, e4, e5, e6, e7⟩ := num13 hN
    rw [e1, e2, e3, e4, bind_some', bind_some', bind_some', bind_some']
    exact ⟨_, _, _, rfl, rfl, e5, by omega, by omega⟩
  rw [if_neg h1, if_neg h1]
  by_cases h3 : t.K = 3
  · rw [if_pos h3, if_pos h3]
    exact ⟨_, _, _, rfl, rfl, fun _ => rfl, by omega, by omega⟩
  rw [if_neg h3, if_neg h3]
  by_cases h4 : t.K = 4
  · rw [if_pos h4, if_pos h4]
    exact ⟨_, _, _, rfl, rfl, fun _ => rfl, by omega, by omega⟩
  rw [if_neg h4, if_neg h4]
  by_cases h5 : t.K = 5
  · rw [if_pos h5, if_pos h5]
    exact ⟨_, _, _, rfl, rfl, fun _ => rfl, by omega, by omega⟩
  rw [if_neg h5, if_neg h5]
  by_cases h6 : t.K = 6
  · rw [if_pos h6, if_pos h6]
    exact ⟨_, _, _, rfl, rfl, fun _ => rfl, by omega, by omega⟩
  rw [if_neg h6, if_neg h6]
  by_cases h7 : t.K = 7
  · rw [if_pos h7, if_pos h7]
    exact ⟨_, _, _, rfl, rfl, fun _ => rfl, by omega, by omega⟩
  rw [if_neg h7, if_neg h7]
  by_cases h2 : t.K = 2
  rotate_left
  · rw [if_neg h2, if_neg h2]
    exact ⟨_, _, _, rfl, rfl, fun _ => rfl, by omega, by omega⟩
  rw [if_pos h2, if_pos h2]
  have hsum : sumC (fun c : Res => 35 + 40 * c.cost) t.L = 35 * t.L.length + 40 * sumC Res.cost t.L := by
    generalize t.L = l
    induction l with
    | nil => rfl
    | cons x l ih => simp only [sumC, List.length_cons, ih]; omega
  have hw1 : IntKind.i64.wrap ((d : Int) + 1) = ((d + 1 : Nat) : Int) := by rw [wrap_ok (by omega)]; omega
  have hloop := loop2 (l := t.L) (by omega) (fun c : Res => 35 + 40 * c.cost) (e := (⟨⟨[]⟩⟩ : ByteArray)) (L := fun acc i => M.impl_resText_L0 ((d : Int), t, acc, i)) (L' := fun acc i => M.spec_l13Text_L0 ((d : Int), t, acc, i)) (fun i x acc hx hix hi hw hacc => by
    show (M.impl_resText_L0 ((d : Int), t, acc, (i : Int)) = _ ∧ M.spec_l13Text_L0 ((d : Int), t, acc, (i : Int)) = _) ∨ ∃ p : ByteArray, _ ∧ M.impl_resText_L0 ((d : Int), t, acc, (i : Int)) = M.impl_resText_L0 ((d : Int), t, acc ++ p, ((i + 1 : Nat) : Int)) ∧ M.spec_l13Text_L0 ((d : Int), t, acc, (i : Int)) = M.spec_l13Text_L0 ((d : Int), t, acc ++ p, ((i + 1 : Nat) : Int))
    have hxc := sumC_mem (c := Res.cost) hx
    obtain ⟨s, s', b, p1, p2, p3, p4, p5⟩ := ih x hx (hm x hx) (by omega) (d + 1) (by omega)
    have hacc' : acc.size + (35 + 40 * x.cost) ≤ 1099511627776 := hacc
    have e1 : M.impl_resText_L0 ((d : Int), t, acc, (i : Int)) = if b = true then (if (0 < x.L.length ∨ minus s) then M.impl_resText_L0 ((d : Int), t, acc ++ ((⟨⟨[32]⟩⟩ : ByteArray) ++ (((⟨⟨[40]⟩⟩ : ByteArray) ++ s) ++ (⟨⟨[41]⟩⟩ : ByteArray))), ((i + 1 : Nat) : Int)) else M.impl_resText_L0 ((d : Int), t, acc ++ ((⟨⟨[32]⟩⟩ : ByteArray) ++ s), ((i + 1 : Nat) : Int))) else some (.inl ((⟨⟨[]⟩⟩ : ByteArray), false)) := by
      rw [M.impl_resText_L0]; dsimp only
      rw [if_pos hi, hix, bind_some', hw1, p1, bind_some', hw]; dsimp only
      cases b with
      | false => rw [if_neg (by simp), if_neg (by simp)]
      | true =>
        rw [if_pos rfl, if_pos rfl]
        by_cases c1 : 0 < ((x.L.length : Nat) : Int)
        · rw [if_pos c1, gd_t (by omega), bind_some', gd_t (by rw [ba_cat]; omega), bind_some', gd_t (by rw [ba_cat, ba_cat]; omega), bind_some', gd_t (by rw [ba_cat, ba_cat, ba_cat]; omega), bind_some', if_pos (.inl (by omega))]
        · rw [if_neg c1, prefix_minus, bind_some']
          by_cases c2 : minus s
          · rw [if_pos (decide_eq_true c2), gd_t (by omega), bind_some', gd_t (by rw [ba_cat]; omega), bind_some', gd_t (by rw [ba_cat, ba_cat]; omega), bind_some', gd_t (by rw [ba_cat, ba_cat, ba_cat]; omega), bind_some', if_pos (.inr c2)]
          · rw [if_neg (by simpa using c2), gd_t (by omega), bind_some', gd_t (by rw [ba_cat]; omega), bind_some', if_neg (fun h => h.elim (fun h => by omega) c2)]
    have e2 : M.spec_l13Text_L0 ((d : Int), t, acc, (i : Int)) = if b = true then (if (0 < x.L.length ∨ minus s') then M.spec_l13Text_L0 ((d : Int), t, acc ++ ((⟨⟨[32]⟩⟩ : ByteArray) ++ (((⟨⟨[40]⟩⟩ : ByteArray) ++ s') ++ (⟨⟨[41]⟩⟩ : ByteArray))), ((i + 1 : Nat) : Int)) else M.spec_l13Text_L0 ((d : Int), t, acc ++ ((⟨⟨[32]⟩⟩ : ByteArray) ++ s'), ((i + 1 : Nat) : Int))) else some (.inl ((⟨⟨[]⟩⟩ : ByteArray), false)) := by
      rw [M.spec_l13Text_L0]; dsimp only
      rw [if_pos hi, hix, bind_some', hw1, p2, bind_some', hw]; dsimp only
      cases b with
      | false => rw [if_neg (by simp), if_neg (by simp)]
      | true =>
        rw [if_pos rfl, if_pos rfl, ← ByteArray.append_assoc (b := (⟨⟨[32]⟩⟩ : ByteArray)), ← ByteArray.append_assoc (b := (⟨⟨[32]⟩⟩ : ByteArray))]
        by_cases c1 : 0 < ((x.L.length : Nat) : Int)
        · rw [if_pos c1, gd_t (by omega), bind_some', gd_t (by rw [ba_cat]; omega), bind_some', gd_t (by omega), bind_some', gd_t (by rw [ba_cat, ba_cat, ba_cat]; omega), bind_some', if_pos (.inl (by omega))]
        · rw [if_neg c1]
          by_cases c3 : 0 < ((s'.size : Nat) : Int)
          · obtain ⟨c, q1, q2⟩ := bx0 (s := s') (by omega)
            rw [if_pos c3, q1, bind_some']
            by_cases c2 : minus s'
            · rw [if_pos (q2.2 c2), gd_t (by omega), bind_some', gd_t (by rw [ba_cat]; omega), bind_some', gd_t (by omega), bind_some', gd_t (by rw [ba_cat, ba_cat, ba_cat]; omega), bind_some', if_pos (.inr c2)]
            · rw [if_neg (fun h => c2 (q2.1 h)), gd_t (by omega), bind_some', gd_t (by rw [ba_cat]; omega), bind_some', if_neg (fun h => h.elim (fun h => by omega) c2)]
          · have c2 : ¬ minus s' := fun h => by have := minus_pos h; omega
            rw [if_neg c3, gd_t (by omega), bind_some', gd_t (by rw [ba_cat]; omega), bind_some', if_neg (fun h => h.elim (fun h => by omega) c2)]
    rw [e1, e2]
    cases b with
    | false =>
      left
      exact ⟨if_neg (by simp), if_neg (by simp)⟩
    | true =>
      right
      obtain rfl := p3 rfl
      rw [if_pos rfl, if_pos rfl]
      by_cases c1 : 0 < x.L.length ∨ minus s
      · rw [if_pos c1, if_pos c1]
        exact ⟨_, by rw [ba_cat, ba_cat, ba_cat]; omega, rfl, rfl⟩
      · rw [if_neg c1, if_neg c1]
        exact ⟨_, by rw [ba_cat]; omega, rfl, rfl⟩) (fun acc => by
    show M.impl_resText_L0 ((d : Int), t, acc, _) = _
    rw [M.impl_resText_L0]; try dsimp only
    rw [if_neg (by omega)]) (fun acc => by
    show M.spec_l13Text_L0 ((d : Int), t, acc, _) = _
    rw [M.spec_l13Text_L0]; try dsimp only
    rw [if_neg (by omega)]) t.S (by omega)
  have hloop' : (M.impl_resText_L0 ((d : Int), t, t.S, 0) = some (.inl ((⟨⟨[]⟩⟩ : ByteArray), false)) ∧ M.spec_l13Text_L0 ((d : Int), t, t.S, 0) = some (.inl ((⟨⟨[]⟩⟩ : ByteArray), false))) ∨ ∃ s, M.impl_resText_L0 ((d : Int), t, t.S, 0) = some (.inr s) ∧ M.spec_l13Text_L0 ((d : Int), t, t.S, 0) = some (.inr s) ∧ s.size ≤ t.S.size + sumC (fun c : Res => 35 + 40 * c.cost) t.L := hloop
  rcases hloop' with ⟨g1, g2⟩ | ⟨s, g1, g2, g3⟩
  · rw [g1, g2, bind_some']
    exact ⟨_, _, _, rfl, rfl, fun _ => rfl, by omega, by omega⟩
  · rw [g1, g2, bind_some']
    exact ⟨_, _, _, rfl, rfl, fun _ => rfl, by omega, by omega⟩
theorem lawResText (a : Res) (ha : a.small) : M.laws_FnExactResText a = some true := by
  rw [M.laws_FnExactResText]; try dsimp only
  rw [szRes a ha 1048576 (by omega) (by omega), bind_some']
  by_cases h1 : (a.cost : Int) ≤ 1048576
  rotate_left
  · rw [rest_neg h1, if_pos (by omega)]
  rw [rest_pos h1, if_neg (by omega)]
  obtain ⟨s, s', b, p1, p2, p3, p4, p5⟩ := resText a ha (by omega) 1 (by omega)
  have p1' : M.impl_resText (a, 1) = some (s, b) := p1
  have p2' : M.spec_l13Text (a, 1) = some (s', b) := p2
  have hi : M.impl_ResText a = M.spec_ResText a ∧ ∃ r, M.spec_ResText a = some r := by
    rw [M.impl_ResText, M.spec_ResText, p1', p2', bind_some', bind_some']; dsimp only
    cases b with
    | true => rw [if_pos rfl, if_pos rfl, p3 rfl]; exact ⟨rfl, _, rfl⟩
    | false => rw [if_neg (by simp), if_neg (by simp)]; exact ⟨rfl, _, rfl⟩
  obtain ⟨e1, r, e2⟩ := hi
  rw [toRes a (by omega), bind_some', e2, bind_some', bind_some', e1, e2, bind_some', if_pos rfl, bind_some', eqRes a ha a, bind_some', if_pos (by simp)]
end Q
end W
