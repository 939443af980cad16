/- HL: all operations; regions; code; functions. -/
import Derived.Laws.StructEq
import Derived.Test.YtamneeogomklgaaGreatHLSound8
import Derived.Laws.Cover3
import Derived.Laws.BytesString
set_option linter.unusedSimpArgs false
set_option linter.unusedVariables false
set_option linter.unusedSectionVars false
namespace HL
open Go
section
variable {P : Program} {N : Nat} {fz : Bool} {env : Env} {st : St} {k : HV → St → Prop} {G : Gh} {w : World} {a : Act} {o : Oper}
theorem do_cap {t e : TypeId} {x : Operand} {hx : HArg} {as : Array Operand} {ts : Array TypeId} (ho : o.op = .call { callee := .builtin .cap, args := as, argTypes := ts }) (h1 : as[0]? = some x) (h2 : ts[0]? = some t) (ht : elemT P t = some e) (ha : arg x = some hx)
    (hv : vcOp P fz env st (.cap hx) k) (hr : Rel P G st w) (he : REnv N G a env) : Does P o a G w k := by
  have hu := elem_of ht
  have key : ∀ p n cap, a.eval x = .slice p n cap → (execOp a.eval o).run P w = .ok (.value (.int .i64 cap)) w := by
    intro p n cap hx'
    simp [execOp, ho, resolve, invoke, builtin, Builtin.cap_, h1, h2, run_underlying hu, hx', goInt]
  simp only [vcOp] at hv
  split at hv
  · rename_i e1
    have r := he.ev ha e1
    cases hx' : a.eval x with
    | slice p n cap =>
      rw [hx'] at r
      cases r
      exact .val (key _ _ _ hx') hv hr .int
    | _ => rw [hx'] at r; cases r
  · rename_i id n e1
    split at hv
    · rename_i sz l hst
      obtain ⟨rfl, hv⟩ := hv
      obtain ⟨info, g1, g2, g3, p, g4, gp⟩ := own_of he hr ha e1 hst
      exact .val (key _ _ _ g4) (hv _ g3.cap) hr .int
    · exact hv.elim
  · exact hv.elim
theorem do_snil {op : BinOp} {t yt e : TypeId} {x y : Operand} {hx : HArg} {ne : Bool} (ho : o.op = .binOp op t x y yt) (hu : P.underlying t = some (.slice e)) (hy : nilS y = true) (hop : eqNe op = some ne) (ha : arg x = some hx)
    (hv : vcOp P fz env st (.snil ne hx) k) (hr : Rel P G st w) (he : REnv N G a env) : Does P o a G w k := by
  obtain rfl : y = .const (.slice none 0 0) := by
    unfold nilS at hy
    split at hy
    · rfl
    · cases hy
  have key : ∀ (p : Option Addr) (n c : Nat), a.eval x = .slice p n c → (∀ b : Bool, ne.xor p.isNone = b → k (.bool b) st) → Does P o a G w k := by
    intro p n c hx' hk
    have eq : (Op.equal t (.slice p n c) (.slice none 0 0)).run P w = .ok p.isNone w := run_equalIn_slice_nil w 9999 t e p n c hu
    have hne : (∀ z, a.eval x ≠ .agg z) ∧ a.eval x ≠ .nilIface := ⟨by simp [hx'], by simp [hx']⟩
    refine does_bin (r := .bool (ne.xor p.isNone)) ho hr (hk _ rfl) ?_ hne
    rw [hx']
    simp only [Act.eval]
    cases op <;> simp [eqNe] at hop <;> subst hop
    · refine ⟨.bool (p.isNone), ?_, by simpa using R.bool⟩
      show ((do pure (.bool (← Op.equal t (.slice p n c) (.slice none 0 0))) : Sem Value).run P w) = _
      simp only [Sem.run_bind, eq, Result.andThen_ok]
      rfl
    · refine ⟨.bool (!p.isNone), ?_, by simpa using R.bool⟩
      show ((do pure (.bool (!(← Op.equal t (.slice p n c) (.slice none 0 0)))) : Sem Value).run P w) = _
      simp only [Sem.run_bind, eq, Result.andThen_ok]
      rfl
  simp only [vcOp] at hv
  split at hv
  · rename_i e1
    have r := he.ev ha e1
    cases hx' : a.eval x with
    | slice p n c => exact key p n c hx' fun b _ => hv b
    | _ => rw [hx'] at r; cases r
  · rename_i l e1
    rcases sl_of he ha e1 with ⟨⟨p, hx'⟩, rfl⟩ | ⟨b, base, cap, sz', us, hxv, _⟩
    · exact key _ _ _ hx' fun b _ => hv b (fun h => absurd rfl h)
    · exact key _ _ _ hxv fun b hb => hv b (fun _ => by simpa using hb.symm)
  · rename_i id n e1
    split at hv
    · rename_i sz l m hst
      obtain ⟨rfl, hv⟩ := hv
      obtain ⟨info, g1, g2, g3, p, g4, gp⟩ := own_of he hr ha e1 hst
      refine key _ _ _ g4 fun b hb => hv b ?_
      cases hb' : info.blk with
      | none =>
        have h0 := g3.nil.1 hb'
        exact fun h => absurd (List.eq_nil_of_length_eq_zero (by have := g3.cap; omega)) h
      | some q => rw [gp q hb'] at hb; exact fun _ => by simpa using hb.symm
    · exact hv.elim
  · exact hv.elim
theorem do_bmark {s e : TypeId} {x : Operand} {hx : HArg} (ho : o.op = .convert s s x) (hs : elemT P s = some e) (hi : intT P e = some .u8) (ha : arg x = some hx)
    (hv : vcOp P fz env st (.bmark hx) k) (hr : Rel P G st w) (he : REnv N G a env) : Does P o a G w k := by
  have hu := elem_of hs
  have hue : P.underlying e = some (.int .u8) := by
    unfold intT at hi
    simp only [Option.bind_eq_some_iff] at hi
    obtain ⟨q, h1, h2⟩ := hi
    split at h2
    · cases h2; exact h1
    · cases h2
  simp only [vcOp] at hv
  split at hv
  · rename_i id n e1
    split at hv
    · rename_i sz l hst
      obtain ⟨rfl, hne, hk⟩ := hv
      obtain ⟨info, g1, g2, g3, p, g4, gp⟩ := own_of he hr ha e1 hst
      cases hb : info.blk with
      | none =>
        have h0 := g3.nil.1 hb
        exact absurd (List.eq_nil_of_length_eq_zero (by have := g3.cap; omega)) hne
      | some b =>
        obtain ⟨c, t, us, h1, h2, h3, h4, h5, h6, h7⟩ := g3.row b hb
        obtain ⟨K', f1, f2, f3⟩ := hr.freeze g1 hst
        have hR := f3 _ (he.ev ha e1)
        have hkill := f1.kill id
        rw [List.set_set] at hkill
        have hhb : (w.freeze ⟨b, c.size, none⟩ 1).heap[b]? = some (.cells c t (c.size, c.size + 1)) := by
          simp [World.freeze, Array.getElem?_modify, h1]
        have hho : ∀ j, j ≠ b → (w.freeze ⟨b, c.size, none⟩ 1).heap[j]? = w.heap[j]? := fun j hj => by
          simp [World.freeze, Array.getElem?_modify, Ne.symm hj]
        obtain ⟨m1, m2⟩ := hkill.mark (w' := w.freeze ⟨b, c.size, none⟩ 1) (b := b) (fun j i o' q1 q2 q3 q4 => by
            by_cases e : id = j
            · subst e
              have hlt : id < st.length := (List.getElem?_eq_some_iff.1 hst).1
              simp [hlt] at q2
              subst q2
              simp [HO.live] at q3
            · rw [List.getElem?_set_ne e] at q2
              exact hr.dis j id i info o' _ b b q1 g1 q2 hst q3 (by simp [HO.live]) (fun e' => e e'.symm) q4 hb rfl) ⟨id, info, g1, hb⟩
          (by simp [World.freeze]) (by simp [World.freeze]) (by simp [World.freeze]) (by simp [World.freeze]) hho
          (fun i u hu' => by
            simp only [World.cell?, hhb]
            simpa [World.cell?, h1] using hu')
        refine ⟨.slice p l.length info.cap, _, .inl ?_, .sl l, ⟨G.base, K', G.s⟩, _, hk, m1, by rw [← g4]; exact hR.mono m2, f2.trans m2⟩
        have hsh : w.shape? b = some (t, c.size) := by simp [World.shape?, h1]
        rw [gp b hb]
        simp [execOp, ho, g4, gp b hb, convert, run_underlying hu, run_underlying hue, markStringish, hsh]
    · exact hv.elim
  · exact hv.elim
theorem do_clr {t e : TypeId} {x : Operand} {hx : HArg} {as : Array Operand} {ts : Array TypeId} {sz : Nat} {z : HV} (ho : o.op = .call { callee := .builtin .clear, args := as, argTypes := ts }) (h1 : as[0]? = some x) (h2 : ts[0]? = some t) (ht : elemT P t = some e) (hz : szT P e = some sz) (hze : zeroT P e = some z) (ha : arg x = some hx)
    (hv : vcOp P fz env st (.clr sz z hx) k) (hr : Rel P G st w) (he : REnv N G a env) : Does P o a G w k := by
  have hu := elem_of ht
  simp only [vcOp] at hv
  split at hv
  · rename_i id n i e1
    split at hv
    · rename_i sz' l hst
      obtain ⟨rfl, rfl, hzl, hzt, hk⟩ := hv
      have r := he.ev ha e1
      generalize hq : a.eval x = u at r
      cases r with
      | otl hi hn hp =>
        rename_i m p cap info
        obtain ⟨hzz, hf⟩ := hr.obj id _ _ hi hst
        have rl := hf l true rfl
        have hsz : info.sz = sz' := by simpa [szOf] using hzz
        obtain ⟨hin, hm, hpp⟩ := hp rl.n
        -- the zero value
        obtain ⟨iv, q1, q2⟩ := Option.bind_eq_some_iff.1 (show (P.info? e).bind (fun i => i.zero.bind hvOf) = some z from hze)
        obtain ⟨zv, q3, q4⟩ := Option.bind_eq_some_iff.1 q2
        obtain ⟨zR, zF⟩ := hvOf_not_tup_cells (G := G) q4 hzt
        obtain ⟨zR', zF', zL⟩ := zfz_ok (G := G) fz zR zF hzt
        by_cases hm0 : m = 0
        · subst hm0
          have hl : l.take i ++ List.replicate (l.length - i) (zfz fz z) = l := by
            rw [show l.length - i = 0 by omega, List.take_of_length_le (by omega)]; simp
          have hsame : st.set id (.arr sz' l true) = st := by
            apply List.ext_getElem?
            intro j
            by_cases e : id = j
            · subst e
              have hlt : id < st.length := (List.getElem?_eq_some_iff.1 hst).1
              rw [List.getElem?_set_self hlt, hst]
            · rw [List.getElem?_set_ne e]
          rw [hl, hsame] at hk
          refine .val (v := .tuple #[]) ?_ hk hr (.tup (vs := []) .vnil)
          cases p <;> simp [execOp, ho, resolve, invoke, builtin, h1, h2, hq, Builtin.clear_, run_underlying hu]
        have hrl : (List.replicate m zv.cells.toList).flatten.length = m * sz' := by
          have := zR'.vals_length
          simp [zL, hzl] at this
          simp [List.length_flatten, this]
        have hul0 : (flatL l).length = l.length * info.sz := flatL_length rl.uni
        have hUn : Uni info.sz (l.take i ++ List.replicate (l.length - i) (zfz fz z)) := by
          intro y hy
          rcases List.mem_append.1 hy with hy | hy
          · exact rl.uni y (List.mem_of_mem_take hy)
          · rw [List.eq_of_mem_replicate hy, zL, hzl, hsz]
        have hfl : flatL (l.take i ++ List.replicate (l.length - i) (zfz fz z)) = (flatL l).take (i * info.sz) ++ flatL (List.replicate (l.length - i) (zfz fz z)) := by
          rw [← flatL_take i rl.uni]; simp [flatL]
        have hFn : ∀ c ∈ flatL (l.take i ++ List.replicate (l.length - i) (zfz fz z)), c.flat = true := by
          rw [hfl]
          intro c hc
          rcases List.mem_append.1 hc with hc | hc
          · exact rl.flat c (List.mem_of_mem_take hc)
          · obtain ⟨y, hy, hc'⟩ := List.mem_flatMap.1 hc
            rw [List.eq_of_mem_replicate hy] at hc'
            exact zF' c hc'
        have hlen : (l.take i ++ List.replicate (l.length - i) (zfz fz z)).length = l.length := by simp; omega
        have hset : G.s.set id info = G.s := set_same hi
        cases hb : info.blk with
        | none =>
          have h0 := rl.nil.1 hb
          have := rl.cap
          exact absurd (show m = 0 by omega) hm0
        | some b =>
          obtain ⟨c, t', us, r1, r2, r3, r4, r5, r6, r7⟩ := rl.row b hb
          have hul : us.length = l.length * info.sz := by rw [r3.vals_length, hul0]
          have hcap : l.length * info.sz ≤ info.cap * info.sz := Nat.mul_le_mul_right _ rl.cap
          have him : i * info.sz + m * sz' = l.length * info.sz := by rw [hsz, ← Nat.add_mul]; congr 1; omega
          generalize hzs : (List.replicate m zv.cells.toList).flatten = zs at hrl
          have hone : ∀ u ∈ zs, u.oneCell' = true := by
            rw [← hzs]
            intro u hu'
            obtain ⟨y, hy, hu''⟩ := List.mem_flatten.1 hu'
            rw [List.eq_of_mem_replicate hy] at hu''
            obtain ⟨j, hj⟩ := List.getElem?_of_mem hu''
            obtain ⟨hh, hj1, hj2⟩ := zR'.vals_get' j u hj
            exact hj2.one (zF' hh (List.mem_of_getElem? hj1))
          have hst' := run_storeCells_at P b (i * info.sz) t' zs 0 c w r1 (by rw [hrl]; omega) hone
          simp only [Nat.add_zero] at hst'
          have hzc : (Builtin.zeroCells zv.cells m).toList = zs := by
            rw [← hzs]; exact madeCells_toList zv.cells m
          generalize hcc : (c.toList.take (i * info.sz) ++ zs ++ c.toList.drop (i * info.sz + zs.length)) = cc at hst'
          have hccl : cc.length = c.size := by
            rw [← hcc]
            simp only [List.length_append, List.length_take, List.length_drop, Array.length_toList, hrl]
            omega
          have hrun : (execOp a.eval o).run P w = .ok (.value (.tuple #[])) (w.setRow b cc.toArray) := by
            rw [hpp hm0 b hb] at hq
            obtain ⟨mm, rfl⟩ : ∃ mm, m = mm + 1 := ⟨m - 1, by omega⟩
            simp [execOp, ho, resolve, invoke, builtin, h1, h2, hq, Builtin.clear_, run_underlying hu, zeroValue, typeInfo, q1, q3, hzc]
            rw [show (Go.storeCells ⟨b, i * info.sz, none⟩ zs) = Go.storeCells ⟨b, i * info.sz, none⟩ zs 0 from rfl, hst']
            simp
          let us' := us.take (i * info.sz) ++ zs
          have hR' : R G (.vals us' (flatL (l.take i ++ List.replicate (l.length - i) (zfz fz z)))) := by
            rw [hfl, ← hm]
            exact (r3.vals_take _).vals_append (hzs ▸ R_replicate zR' m)
          have hcell : ∀ (k : Nat) (u : Value), us'[k]? = some u → cc.toArray[k]? = some u := by
            intro k u hku
            rw [← hcc]
            simp only [us', List.getElem?_append, List.length_take, List.getElem?_take] at hku
            simp only [List.getElem?_toArray, List.getElem?_append, List.length_append, List.length_take, List.getElem?_take, List.getElem?_drop, hrl, Array.length_toList, Array.getElem?_toList]
            have m1 : min (i * info.sz) us.length = i * info.sz := by omega
            have m2 : min (i * info.sz) c.size = i * info.sz := by omega
            rw [m1] at hku
            rw [m2]
            by_cases q2 : k < i * info.sz
            · rw [if_pos q2, if_pos q2] at hku
              rw [if_pos (by omega), if_pos q2, if_pos q2]
              exact r4 k u hku
            · rw [if_neg q2] at hku
              have : k - i * info.sz < zs.length := (List.getElem?_eq_some_iff.1 hku).1
              rw [if_pos (by omega), if_neg q2]
              exact hku
          have hKb : ∀ i' u, G.K b i' = some u → (w.setRow b cc.toArray).cell? ⟨b, i', none⟩ = some u := by
            intro i' u hu
            have hno : ¬ i' < info.cap * info.sz := by
              intro hlt
              by_cases q : i' < l.length * info.sz
              · rw [r6 rfl i' q] at hu; cases hu
              · rw [r5 i' (by omega) hlt] at hu; cases hu
            have hcell0 := hr.kc _ _ _ hu
            have hc0 : c[i']? = some u := by simpa [World.cell?, r1] using hcell0
            refine cell_of_row (setRow_heap w b c _ t' _ r1) ?_
            rw [← hcc]
            simp only [List.getElem?_toArray, List.getElem?_append, List.length_append, List.length_take, List.getElem?_drop, hrl, Array.length_toList, Array.getElem?_toList]
            have m2 : min (i * info.sz) c.size = i * info.sz := by omega
            rw [m2, if_neg (by omega), show i * info.sz + m * sz' + (i' - (i * info.sz + m * sz')) = i' by omega]
            exact hc0
          have hput := Rel.put hr (w' := w.setRow b cc.toArray) (K' := G.K) (info' := info) (o' := .arr sz' (l.take i ++ List.replicate (l.length - i) (zfz fz z)) true) hi hst rfl rfl (by simpa [szOf] using hzz)
            rfl rfl rfl (by simp) (fun j hj hne => setRow_other w b j _ (fun e => hne (by rw [hb, e])))
            (fun _ _ _ h => h) (fun _ _ _ h => .inl h)
            (fun b' i' u hu hb' => by
              have : b' = b := by rcases hb' with e | e <;> (rw [hb] at e; exact (Option.some.inj e).symm)
              subst this
              exact hKb i' u hu)
            (.inl rfl) (Nat.le_refl _) rfl (fun _ => rfl)
            ⟨by rw [hlen]; exact rl.n, by rw [hlen]; exact rl.cap, by rw [hlen]; exact rl.lm, hUn, hFn, rl.nil, fun b' hb' => by
              rw [hb] at hb'
              cases hb'
              refine ⟨cc.toArray, t', us', setRow_heap w b c _ t' _ r1, by simp [hccl]; omega, by rw [hset]; exact hR', hcell, ?_, ?_, fun e => by cases e⟩
              · intro j hj1 hj2
                rw [hlen] at hj1
                exact r5 j hj1 hj2
              · intro _ j hj
                rw [hlen] at hj
                exact r6 rfl j hj⟩
          rw [hset] at hput
          exact ⟨_, _, .inl hrun, undefH, _, _, hk, hput.1, .tup (vs := []) .vnil, hput.2⟩
    · exact hv.elim
  · exact hv.elim
theorem eqC_sound {v u : Value} {x y : HV} {b : Bool} {t : TypeId} {kd : Nat} (d : Nat) (hp : plainT P t = some kd) (hv : R G (.val v x)) (hu : R G (.val u y)) (h : eqC kd x y = some b) : (Op.equalIn (d + 1) t v u).run P w = .ok b w := by
  unfold plainT at hp
  unfold eqC at h
  split at hp
  · rename_i k' hq
    cases hp
    split at h
    · split at h
      · rename_i hk
        subst hk
        cases h
        cases hv
        cases hu
        rw [run_equalIn_int w d t _ k' _ _ hq]
        simp [beq_iff_eq, BEq.beq]
      · cases h
    · simp_all
    · simp_all
    · cases h
  · rename_i hq
    cases hp
    split at h
    · simp_all
    · cases h
      cases hv
      cases hu
      exact run_equalIn_bool' w d t _ _ hq
    · simp_all
    · cases h
  · rename_i hq
    cases hp
    split at h
    · simp_all
    · simp_all
    · cases h
      cases hv
      cases hu
      rw [run_equalIn_string w d t _ _ hq, ba_eq]
    · cases h
  · cases hp
theorem eqF_sound (d : Nat) (xs ys : Array Value) : ∀ (fs : List Field) (ks : List Nat) (cs ds : List HV) (j : Nat) (b : Bool), (∀ f ∈ fs, f.name ≠ "_") → fs.map (·.offset) = List.range' j fs.length → fs.mapM (fun f => plainT P f.type) = some ks →
    R G (.vals (xs.toList.drop j) cs) → R G (.vals (ys.toList.drop j) ds) → eqL ks cs ds = some b → (Op.eqFields (d + 1) xs ys fs).run P w = .ok b w
  | [], ks, cs, ds, j, b, _, _, hk, _, _, h => by
    simp at hk
    subst hk
    cases cs <;> cases ds <;> simp [eqL] at h
    subst h
    simp [Op.eqFields]
  | f :: fs, ks, cs, ds, j, b, hn, ho, hk, hx, hy, h => by
    rw [List.mapM_cons] at hk
    simp only [bind, Option.bind_eq_some_iff, pure, Option.some.injEq] at hk
    obtain ⟨k, hk1, ks', hk2, rfl⟩ := hk
    cases cs with
    | nil => simp [eqL] at h
    | cons c cs => cases ds with
      | nil => simp [eqL] at h
      | cons e ds =>
        simp only [eqL] at h
        split at h
        · rename_i x y e1 e2
          cases h
          simp only [List.map_cons, List.length_cons, List.range'_succ, List.cons.injEq] at ho
          obtain ⟨o1, o2⟩ := ho
          have hxl := hx.vals_length
          have hyl := hy.vals_length
          obtain ⟨v, v1, v2⟩ := hx.vals_get 0 c rfl
          obtain ⟨u, u1, u2⟩ := hy.vals_get 0 e rfl
          rw [List.getElem?_drop] at v1 u1
          have hxr := hx.vals_drop 1
          have hyr := hy.vals_drop 1
          rw [List.drop_drop] at hxr hyr
          have ih := eqF_sound d xs ys fs ks' cs ds (j + 1) y (fun g hg => hn g (by simp [hg])) o2 hk2 (by simpa using hxr) (by simpa using hyr) e2
          have hag : (isAgg f.type).run P w = .ok false w := by
            refine run_isAgg ?_
            unfold aggT
            unfold plainT at hk1
            split at hk1 <;> simp_all
          have p1 : (part f.type xs f.offset).run P w = .ok v w := by
            simp only [part, Sem.run_bind, hag, Result.andThen_ok, Bool.false_eq_true, if_false]
            rw [o1]
            simp at v1
            simp [v1]
          have p2 : (part f.type ys f.offset).run P w = .ok u w := by
            simp only [part, Sem.run_bind, hag, Result.andThen_ok, Bool.false_eq_true, if_false]
            rw [o1]
            simp at u1
            simp [u1]
          have p3 := eqC_sound (P := P) (w := w) d hk1 v2 u2 e1
          simp only [Op.eqFields, hn f (by simp), ne_eq, not_false_eq_true, if_true, Sem.run_bind, p1, p2, p3, Result.andThen_ok]
          cases x
          · simp
          · simpa using ih
        · cases h
theorem do_abin {op : BinOp} {t yt : TypeId} {x y : Operand} {hx hy : HArg} {fs : Array Field} {ks : List Nat} {ne : Bool} (ho : o.op = .binOp op t x y yt) (hu : P.underlying t = some (.struct fs)) (hp : plainS P t fs = some ks) (hop : eqNe op = some ne) (ha : arg x = some hx) (hb : arg y = some hy)
    (hv : vcOp P fz env st (.abin ks ne hx hy) k) (hr : Rel P G st w) (he : REnv N G a env) : Does P o a G w k := by
  simp only [vcOp] at hv
  split at hv
  · rename_i p q e1 e2
    split at hv
    · rename_i r hbin
      have r1 := he.ev ha e1
      have r2 := he.ev hb e2
      unfold abinF at hbin
      split at hbin
      · rename_i cs ds
        simp only [Option.map_eq_some_iff] at hbin
        obtain ⟨b, hbin, rfl⟩ := hbin
        unfold plainS at hp
        split at hp
        · rename_i hc
          simp only [Bool.and_eq_true, List.all_eq_true, bne_iff_ne, ne_eq, beq_iff_eq, Bool.not_eq_true'] at hc
          obtain ⟨⟨⟨c1, c2⟩, c3⟩, c4⟩ := hc
          generalize hq1 : a.eval x = ux at r1
          generalize hq2 : a.eval y = uy at r2
          cases r1 with
          | agg hf1 h1 => cases r2 with
            | agg hf2 h2 =>
              rename_i vs us
              have hfs : P.fieldsOf t = fs := by simp [Program.fieldsOf, hu]
              have hrun := eqF_sound (P := P) (w := w) 9998 vs.toArray us.toArray fs.toList ks cs ds 0 b c1 (by rw [c2, List.range_eq_range']; simp) hp (by simpa using h1) (by simpa using h2) hbin
              have heq : (Op.equalIn 10000 t (.agg vs.toArray) (.agg us.toArray)).run P w = .ok b w := by
                rw [run_equalIn_struct w 9999 t _ _ (by rw [hfs]; exact hu) c3, hfs]
                exact hrun
              have hg := run_eqGuard_agg w op t x y vs.toArray us.toArray c4
              refine .val (v := .bool (b != ne)) ?_ hv hr .bool
              unfold eqNe at hop
              split at hop
              · cases hop
                simp [execOp, ho, hq1, hq2, hg, run_eql_struct, heq]
              · cases hop
                simp [execOp, ho, hq1, hq2, hg, run_neq_struct, heq]
              · cases hop
        · cases hp
      · cases hbin
    · exact hv.elim
  · exact hv.elim
theorem bytesF_spec {G : Gh} : ∀ {l : List HV} {ns : List Int} {us : List Value}, bytesF l = some ns → R G (.vals us (flatL l)) → us = ns.map (Value.int .u8) ∧ l.length = ns.length := by
  intro l
  induction l with
  | nil => intro ns us h r; cases h; cases r; exact ⟨rfl, rfl⟩
  | cons x l ih =>
    intro ns us h r
    unfold bytesF at h
    split at h
    · rename_i heq
      cases heq
    · rename_i n r' heq
      cases heq
      simp only [Option.map_eq_some_iff] at h
      obtain ⟨ns', h1, rfl⟩ := h
      simp only [List.flatMap_cons, HV.cells, List.cons_append, List.nil_append] at r
      cases r with
      | vcons r1 r2 =>
        cases r1
        obtain ⟨e1, e2⟩ := ih h1 r2
        exact ⟨by rw [e1]; rfl, by simp [e2]⟩
    · cases h
theorem bsOf_size (l : List Int) : (bsOf l).size = l.length := by
  have : ∀ (l : List Int) (s : ByteArray), (l.foldl (fun r n => r.push (UInt8.ofNat n.toNat)) s).size = s.size + l.length := by
    intro l
    induction l with
    | nil => intro s; simp
    | cons x l ih => intro s; simp only [List.foldl_cons, ih, ByteArray.size_push, List.length_cons]; omega
  have h := this l ByteArray.empty
  simpa [bsOf] using h
theorem do_bstr {s d e : TypeId} {x : Operand} {hx : HArg} (ho : o.op = .convert s d x) (hd : strT P d = true) (hs : elemT P s = some e) (hi : intT P e = some .u8) (ha : arg x = some hx)
    (hv : vcOp P fz env st (.bstr hx) k) (hr : Rel P G st w) (he : REnv N G a env) : Does P o a G w k := by
  have hu := elem_of hs
  have hud := str_of hd
  have hue : P.underlying e = some (.int .u8) := by
    unfold intT at hi
    simp only [Option.bind_eq_some_iff] at hi
    obtain ⟨q, h1, h2⟩ := hi
    split at h2
    · cases h2; exact h1
    · cases h2
  simp only [vcOp] at hv
  split at hv
  · rename_i v e1
    split at hv
    · rename_i h hb
      unfold bstrF at hb
      split at hb
      · rename_i l hl
        simp only [Option.map_eq_some_iff] at hb
        obtain ⟨ns, hn, rfl⟩ := hb
        rcases elemsOf_sound he hr ha e1 hl with ⟨p, hx', _, rfl⟩ | ⟨b, base, cap, sz, us, hx', hU, hR, hc, _, hcap, hlim⟩
        · cases hn
          refine .val (v := .string (bsOf [])) ?_ hv hr (.str (by simp [bsOf_size, lim]))
          have main : (Conv.bytesToString (.slice p 0 0)).run P w = .ok (.string (bsOf [])) w := by
            cases p with
            | none => rfl
            | some q => exact run_bytesToString w q 0 0 [] (by simpa using run_loadCells_list w q [] (by simp))
          simp [execOp, ho, hx', run_convert_bytes_string w s d e p 0 0 hu hue hud, main]
        · obtain ⟨rfl, hlen⟩ := bytesF_spec hn hR
          refine .val (v := .string (bsOf ns)) ?_ hv hr (.str (by rw [bsOf_size, ← hlen]; exact hlim))
          have main : (Conv.bytesToString (.slice (some ⟨b, base, none⟩) l.length cap)).run P w = .ok (.string (bsOf ns)) w := by
            refine run_bytesToString w _ _ _ ns ?_
            have := run_loadCells_list (P := P) w ⟨b, base, none⟩ (ns.map (Value.int .u8)) (fun j v hv => by
              have := hc j v hv
              unfold Addr.add
              split
              · rename_i e; subst e; simpa using this
              · exact this)
            rw [hlen]
            simpa using this
          simp [execOp, ho, hx', run_convert_bytes_string w s d e _ _ _ hu hue hud, main]
      · cases hb
    · exact hv.elim
  · exact hv.elim
theorem Does.wp {next : Act → World → Prop} {Q : Exit → Act → World → Prop} (h : Does P o a G w k) (hn : ∀ v w', After P G w k v w' → next (a.put o.dst v) w') : o.wp P a w next Q := by
  obtain ⟨v, w', h1, h2⟩ := h
  rcases h1 with h1 | ⟨h1, rfl⟩
  · exact wp_value h1 (hn v w' h2)
  · exact wp_skip' h1 (hn _ w' h2)
theorem call_wp {f : Operand} {hf : HArg} {as : Array Operand} {ts : Array TypeId} {has : List HArg} {next : Act → World → Prop} {Q : Exit → Act → World → Prop}
    (ho : o.op = .call { callee := .value f, args := as, argTypes := ts }) (ha : arg f = some hf) (hb : as.toList.mapM arg = some has)
    (hv : vcOp P fz env st (.call hf has) k) (hr : Rel P G st w) (he : REnv N G a env) (hn : ∀ v w', After P G w k v w' → next (a.put o.dst v) w') : o.wp P a w next Q := by
  simp only [vcOp] at hv
  split at hv
  · rename_i g first caps vs e1 e2
    obtain ⟨⟨fn, c1, c2, c3⟩, hc⟩ := hv
    have r := he.ev ha e1
    have rs := he.evs hb e2
    cases hx' : a.eval f with
    | func q fs cs =>
      rw [hx'] at r
      obtain ⟨fs', cs', rfl, rfl, rfl, rf, rc⟩ : ∃ fs' cs', q = .func g ∧ fs = fs'.toArray ∧ cs = cs'.toArray ∧ R G (.vals fs' first) ∧ R G (.vals cs' caps) := by
        cases r with
        | fn h1 h2 => exact ⟨_, _, rfl, rfl, rfl, h1, h2⟩
      have hargs : R G (.vals (fs' ++ as.toList.map a.eval ++ cs') (first ++ vs ++ caps)) := (rf.vals_append rs).vals_append rc
      have hcall := hc G w _ hr hargs
      have harr : (fs'.toArray ++ Array.map a.eval as ++ cs'.toArray) = (fs' ++ as.toList.map a.eval ++ cs').toArray := by
        apply Array.ext'
        simp
      have hrun : (execOp a.eval o).run P w = .ok (.enter g (fs' ++ as.toList.map a.eval ++ cs').toArray) w := by
        have c2' : ¬ fn.body = none := by cases hb : fn.body <;> simp [hb] at c2 ⊢
        have c3' : ¬ fn.name = "runtime.NumGoroutine" := by simpa using c3
        rw [← harr]
        simp [execOp, ho, resolve, Deferred.ofValue, hx', invoke, callFunc, c1, c2', c3']
      unfold Oper.wp
      rw [hrun, Oper.upon_enter]
      refine hcall.mono fun e w' ⟨v, r, st', G', he', hp, h1, h2, h3⟩ => ?_
      subst he'
      exact hn v w' ⟨r, G', st', hp, h1, h2, h3⟩
    | _ => rw [hx'] at r; cases r
  · exact hv.elim
theorem vcOp_sound {hop : HOp} {next : Act → World → Prop} {Q : Exit → Act → World → Prop} (hs : stripOp P o = some hop) (hv : vcOp P fz env st hop k) (hr : Rel P G st w) (he : REnv N G a env)
    (hn : ∀ v w', After P G w k v w' → next (a.put o.dst v) w') : o.wp P a w next Q := by
  unfold stripOp at hs
  split at hs
  all_goals rename_i ho
  all_goals try simp only [Option.bind_eq_bind, Option.bind_eq_some_iff, Option.pure_def, Option.map_eq_some_iff] at hs
  · obtain ⟨x, h1, rfl⟩ := hs
    exact (do_move (.inl ho) h1 hv hr he).wp hn
  · obtain ⟨x, h1, rfl⟩ := hs
    exact (do_move (.inr ho) h1 hv hr he).wp hn
  · obtain ⟨x, h1, y, h2, z, h3, h⟩ := hs
    cases h
    exact (do_pick ho h1 h2 h3 hv hr he).wp hn
  · obtain ⟨x, h1, rfl⟩ := hs
    exact (do_alloc ho h1 hv hr).wp hn
  · obtain ⟨x, h1, rfl⟩ := hs
    exact (do_box ho h1 hv hr he).wp hn
  · obtain ⟨z, h1, fs, h2, szs, h3, ps, h4, h⟩ := hs
    split at h
    · rename_i hag
      cases h
      exact (do_build ho h1 h2 h3 (by simpa [Option.bind_eq_some_iff] using h4) hag hv hr he).wp hn
    · cases h
  · obtain ⟨e, h1, z, h2, ps, h3, sz, h4, h⟩ := hs
    cases h
    exact (do_bslice ho h1 h2 h4 (by simpa using h3) hv hr he).wp hn
  · obtain ⟨ag, h1, n, h2, x, h3, h⟩ := hs
    cases h
    exact (do_load ho h1 h2 h3 hv hr he).wp hn
  · obtain ⟨n, h1, x, h2, y, h3, h⟩ := hs
    cases h
    exact (do_store ho h1 h2 h3 hv hr he).wp hn
  · obtain ⟨x, h1, rfl⟩ := hs
    exact (do_nilchk ho h1 hv hr he).wp hn
  · split at hs
    all_goals try simp only [Option.bind_eq_some_iff] at hs
    · split at hs
      · simp only [Option.bind_eq_some_iff] at hs
        obtain ⟨x, h1, y, h2, h⟩ := hs
        cases h
        exact (do_shft ho h1 h2 hv hr he).wp hn
      simp only [Option.bind_eq_some_iff] at hs
      obtain ⟨x, h1, y, h2, h⟩ := hs
      cases h
      exact (do_bin ho h1 h2 hv hr he).wp hn
    · obtain ⟨x, h1, y, h2, h⟩ := hs
      cases h
      exact (do_bin ho h1 h2 hv hr he).wp hn
    · rename_i hu
      obtain ⟨x, h1, y, h2, h⟩ := hs
      cases h
      exact (do_bbin ho hu h1 h2 hv hr he).wp hn
    · rename_i hu
      obtain ⟨x, h1, y, h2, h⟩ := hs
      cases h
      exact (do_pbin ho hu h1 h2 hv hr he).wp hn
    · rename_i hu
      split at hs
      · rename_i hny
        simp only [Option.bind_eq_some_iff] at hs
        obtain ⟨ne, h1, x, h2, h⟩ := hs
        cases h
        exact (do_snil ho hu hny h1 h2 hv hr he).wp hn
      · cases hs
    · rename_i hu
      obtain ⟨ks, h1, ne, h2, x, h3, y, h4, h⟩ := hs
      cases h
      exact (do_abin ho hu h1 h2 h3 h4 hv hr he).wp hn
    · cases hs
  · obtain ⟨x, h1, rfl⟩ := hs
    exact (do_not ho h1 hv hr he).wp hn
  · obtain ⟨x, h1, rfl⟩ := hs
    exact (do_neg ho h1 hv hr he).wp hn
  · split at hs
    · rename_i hstr
      simp only [Option.bind_eq_some_iff] at hs
      obtain ⟨e, h1, hs⟩ := hs
      split at hs
      · rename_i h8
        simp only [Option.map_eq_some_iff] at hs
        obtain ⟨x, h2, rfl⟩ := hs
        exact (do_bstr ho hstr h1 h8 h2 hv hr he).wp hn
      · cases hs
    · split at hs
      · rename_i hsd
        obtain ⟨rfl, hb⟩ := hsd
        simp only [Option.bind_eq_some_iff, Option.map_eq_some_iff] at hs hb
        obtain ⟨e, h1, h8⟩ := hb
        obtain ⟨x, h2, rfl⟩ := hs
        exact (do_bmark ho h1 h8 h2 hv hr he).wp hn
      simp only [Option.bind_eq_some_iff] at hs
      obtain ⟨ks, h1, kd, h2, x, h3, h⟩ := hs
      cases h
      exact (do_conv ho h1 h2 h3 hv hr he).wp hn
  · obtain ⟨x, h1, y, h2, h⟩ := hs
    cases h
    exact (do_mkfn ho h1 h2 hv hr he).wp hn
  · obtain ⟨e, h1, sz, h2, by', h3, z, h4, x, h5, y, h6, h⟩ := hs
    cases h
    exact (do_mkslice ho h1 h2 h3 h4 h5 h6 hv hr he).wp hn
  · split at hs
    · rename_i hstr
      split at hs
      · cases hs
      · rename_i hm
        simp only [Option.bind_eq_some_iff] at hs
        obtain ⟨x, h1, lo, h2, hi, h3, h⟩ := hs
        cases h
        rename_i mx
        cases mx with
        | none => exact (do_substr ho hstr h1 h2 h3 hv hr he).wp hn
        | some q => simp at hm
    · simp only [Option.bind_eq_some_iff] at hs
      obtain ⟨e, h1, sz, h2, x, h3, lo, h4, hi, h5, mx, h6, h⟩ := hs
      cases h
      exact (do_slice ho h1 h2 h3 h4 h5 h6 hv hr he).wp hn
  · obtain ⟨fs, h1, fd, h2, h⟩ := hs
    split at h
    · cases h
    · rename_i hsz
      simp only [Option.bind_eq_some_iff] at h
      obtain ⟨x, h3, h⟩ := h
      cases h
      cases hq : szT P fd.type with
      | none => exact absurd (.inl hq) hsz
      | some n =>
        exact (do_faddr ho h1 h2 hq (fun e => by subst e; exact hsz (.inr hq)) h3 hv hr he).wp hn
  · obtain ⟨fs, h1, fd, h2, ag, h3, n, h4, x, h5, h⟩ := hs
    cases h
    exact (do_fld ho h1 h2 h3 h4 h5 hv hr he).wp hn
  · obtain ⟨e, h1, sz, h2, x, h3, y, h4, h⟩ := hs
    cases h
    exact (do_iaddr ho h1 h2 h3 h4 hv hr he).wp hn
  · split at hs
    · rename_i hstr
      simp only [Option.bind_eq_some_iff] at hs
      obtain ⟨x, h1, y, h2, h⟩ := hs
      cases h
      exact (do_idx ho hstr h1 h2 hv hr he).wp hn
    · cases hs
  · obtain ⟨x, h1, rfl⟩ := hs
    exact (do_ext ho h1 hv hr he).wp hn
  · obtain ⟨x, h1, t, h2, h⟩ := hs
    split at h
    · rename_i hstr
      simp only [Option.map_eq_some_iff] at h
      obtain ⟨y, h3, rfl⟩ := h
      exact (do_slen ho h1 h2 hstr h3 hv hr he).wp hn
    · simp only [Option.bind_eq_some_iff, Option.map_eq_some_iff] at h
      obtain ⟨e, h4, y, h3, rfl⟩ := h
      exact (do_len ho h1 h2 h4 h3 hv hr he).wp hn
  · obtain ⟨x, h1, t, h2, e, h4, y, h3, rfl⟩ := hs
    exact (do_cap ho h1 h2 h4 h3 hv hr he).wp hn
  · obtain ⟨x, h1, y, h2, t, h3, e, h4, z, h5, h⟩ := hs
    split at h
    · cases h
    · rename_i hc
      simp only [not_or, ne_eq, Decidable.not_not] at hc
      obtain ⟨c1, c2, c3⟩ := hc
      simp only [Option.bind_eq_some_iff] at h
      obtain ⟨sz, h6, by', h7, hx, h8, hy, h9, h⟩ := h
      cases h
      rw [c1] at ho
      exact (do_append ho c2 h1 h2 h4 h6 h7 h5 c3 h8 h9 hv hr he).wp hn
  · obtain ⟨x, h1, t, h2, e, h3, sz, h4, z, h5, y, h6, h⟩ := hs
    cases h
    exact (do_clr ho h1 h2 h3 h4 h5 h6 hv hr he).wp hn
  · split at hs
    · cases hs
    · rename_i hsz
      simp only [Option.bind_eq_some_iff] at hs
      obtain ⟨t, _, kd, _, x, h1, hx, h2, y, h3, hy, h4, h⟩ := hs
      cases h
      exact (do_max ho (by simpa using hsz) h1 h3 h2 h4 hv hr he).wp hn
  · split at hs
    · cases hs
    · rename_i hsz
      simp only [Option.bind_eq_some_iff] at hs
      obtain ⟨t, _, kd, _, x, h1, hx, h2, y, h3, hy, h4, h⟩ := hs
      cases h
      exact (do_min ho (by simpa using hsz) h1 h3 h2 h4 hv hr he).wp hn
  · obtain ⟨hf, h1, has, h2, h⟩ := hs
    cases h
    exact call_wp ho h1 h2 hv hr he hn
  · cases hs
end
end HL
