/- HL: all operations; regions; code; functions. -/
import Derived.Test.YtnhdobhfebiggaaHLSound8
import Derived.Laws.Cover3
import Derived.Laws.BytesString
namespace HL
set_option linter.unusedSimpArgs false
set_option linter.unusedVariables false
open Go

section
variable {P : Program} {N : Nat} {fz : Bool} {env : Env} {st : St} {k : HV → St → Prop} {G : Gh} {w : World} {a : Act} {o : Oper}

theorem do_cap {t e : TypeId} {x : Operand} {hx : HArg} {as : Array Operand} {ts : Array TypeId} (ho : o.op = .call { callee := .builtin .cap, args := as, argTypes := ts }) (h1 : as[0]? = some x) (h2 : ts[0]? = some t) (ht : elemT P t = some e) (ha : arg x = some hx)
    (hv : vcOp P fz env st (.cap hx) k) (hr : Rel P G st w) (he : REnv N G a env) : Does P o a G w k := by
  have hu := elem_of ht
  have key : ∀ p n cap, a.eval x = .slice p n cap → (execOp a.eval o).run P w = .ok (.value (.int .i64 cap)) w := by
    intro p n cap hx'
    simp [execOp, ho, resolve, invoke, builtin, Builtin.cap_, h1, h2, run_underlying hu, hx', goInt]
  simp only [vcOp] at hv
  split at hv
  · rename_i e1
    have r := he.ev ha e1
    cases hx' : a.eval x with
    | slice p n cap =>
      rw [hx'] at r
      cases r
      exact .val (key _ _ _ hx') hv hr .int
    | _ => rw [hx'] at r; cases r
  · rename_i id n e1
    split at hv
    · rename_i sz l hst
      obtain ⟨rfl, hv⟩ := hv
      obtain ⟨info, g1, g2, g3, p, g4, gp⟩ := own_of he hr ha e1 hst
      exact .val (key _ _ _ g4) (hv _ g3.cap) hr .int
    · exact hv.elim
  · exact hv.elim

theorem do_snil {op : BinOp} {t yt e : TypeId} {x y : Operand} {hx : HArg} {ne : Bool} (ho : o.op = .binOp op t x y yt) (hu : P.underlying t = some (.slice e)) (hy : nilS y = true) (hop : eqNe op = some ne) (ha : arg x = some hx)
    (hv : vcOp P fz env st (.snil ne hx) k) (hr : Rel P G st w) (he : REnv N G a env) : Does P o a G w k := by
  obtain rfl : y = .const (.slice none 0 0) := by
    unfold nilS at hy
    split at hy
    · rfl
    · cases hy
  have key : ∀ (p : Option Addr) (n c : Nat), a.eval x = .slice p n c → (∀ b : Bool, ne.xor p.isNone = b → k (.bool b) st) → Does P o a G w k := by
    intro p n c hx' hk
    have eq : (Op.equal t (.slice p n c) (.slice none 0 0)).run P w = .ok p.isNone w := run_equalIn_slice_nil w 9999 t e p n c hu
    have hne : (∀ z, a.eval x ≠ .agg z) ∧ a.eval x ≠ .nilIface := ⟨by simp [hx'], by simp [hx']⟩
    refine does_bin (r := .bool (ne.xor p.isNone)) ho hr (hk _ rfl) ?_ hne
    rw [hx']
    simp only [Act.eval]
    cases op <;> simp [eqNe] at hop <;> subst hop
    · refine ⟨.bool (p.isNone), ?_, by simpa using R.bool⟩
      show ((do pure (.bool (← Op.equal t (.slice p n c) (.slice none 0 0))) : Sem Value).run P w) = _
      simp only [Sem.run_bind, eq, Result.andThen_ok]
      rfl
    · refine ⟨.bool (!p.isNone), ?_, by simpa using R.bool⟩
      show ((do pure (.bool (!(← Op.equal t (.slice p n c) (.slice none 0 0)))) : Sem Value).run P w) = _
      simp only [Sem.run_bind, eq, Result.andThen_ok]
      rfl
  simp only [vcOp] at hv
  split at hv
  · rename_i e1
    have r := he.ev ha e1
    cases hx' : a.eval x with
    | slice p n c => exact key p n c hx' fun b _ => hv b
    | _ => rw [hx'] at r; cases r
  · rename_i l e1
    rcases sl_of he ha e1 with ⟨⟨p, hx'⟩, rfl⟩ | ⟨b, base, cap, sz', us, hxv, _⟩
    · exact key _ _ _ hx' fun b _ => hv b (fun h => absurd rfl h)
    · exact key _ _ _ hxv fun b hb => hv b (fun _ => by simpa using hb.symm)
  · rename_i id n e1
    split at hv
    · rename_i sz l m hst
      obtain ⟨rfl, hv⟩ := hv
      obtain ⟨info, g1, g2, g3, p, g4, gp⟩ := own_of he hr ha e1 hst
      refine key _ _ _ g4 fun b hb => hv b ?_
      cases hb' : info.blk with
      | none =>
        have h0 := g3.nil hb'
        exact fun h => absurd (List.eq_nil_of_length_eq_zero (by have := g3.cap; omega)) h
      | some q => rw [gp q hb'] at hb; exact fun _ => by simpa using hb.symm
    · exact hv.elim
  · exact hv.elim

theorem do_bmark {s e : TypeId} {x : Operand} {hx : HArg} (ho : o.op = .convert s s x) (hs : elemT P s = some e) (hi : intT P e = some .u8) (ha : arg x = some hx)
    (hv : vcOp P fz env st (.bmark hx) k) (hr : Rel P G st w) (he : REnv N G a env) : Does P o a G w k := by
  have hu := elem_of hs
  have hue : P.underlying e = some (.int .u8) := by
    unfold intT at hi
    simp only [Option.bind_eq_some_iff] at hi
    obtain ⟨q, h1, h2⟩ := hi
    split at h2
    · cases h2; exact h1
    · cases h2
  simp only [vcOp] at hv
  split at hv
  · rename_i id n e1
    split at hv
    · rename_i sz l hst
      obtain ⟨rfl, hne, hk⟩ := hv
      obtain ⟨info, g1, g2, g3, p, g4, gp⟩ := own_of he hr ha e1 hst
      cases hb : info.blk with
      | none =>
        have h0 := g3.nil hb
        exact absurd (List.eq_nil_of_length_eq_zero (by have := g3.cap; omega)) hne
      | some b =>
        obtain ⟨c, t, us, h1, h2, h3, h4, h5, h6, h7⟩ := g3.row b hb
        obtain ⟨K', f1, f2, f3⟩ := hr.freeze g1 hst
        have hR := f3 _ (he.ev ha e1)
        have hkill := f1.kill id
        rw [List.set_set] at hkill
        have hhb : (w.freeze ⟨b, c.size, none⟩ 1).heap[b]? = some (.cells c t (c.size, c.size + 1)) := by
          simp [World.freeze, Array.getElem?_modify, h1]
        have hho : ∀ j, j ≠ b → (w.freeze ⟨b, c.size, none⟩ 1).heap[j]? = w.heap[j]? := fun j hj => by
          simp [World.freeze, Array.getElem?_modify, Ne.symm hj]
        obtain ⟨m1, m2⟩ := hkill.mark (w' := w.freeze ⟨b, c.size, none⟩ 1) (b := b) (fun j i o' q1 q2 q3 q4 => by
            by_cases e : id = j
            · subst e
              have hlt : id < st.length := (List.getElem?_eq_some_iff.1 hst).1
              simp [hlt] at q2
              subst q2
              simp [HO.live] at q3
            · rw [List.getElem?_set_ne e] at q2
              exact hr.dis j id i info o' _ b b q1 g1 q2 hst q3 (by simp [HO.live]) (fun e' => e e'.symm) q4 hb rfl) ⟨id, info, g1, hb⟩
          (by simp [World.freeze]) (by simp [World.freeze]) (by simp [World.freeze]) (by simp [World.freeze]) hho
          (fun i u hu' => by
            simp only [World.cell?, hhb]
            simpa [World.cell?, h1] using hu')
        refine ⟨.slice p l.length info.cap, _, .inl ?_, .sl l, ⟨K', G.s⟩, _, hk, m1, by rw [← g4]; exact hR.mono m2, f2.trans m2⟩
        have hsh : w.shape? b = some (t, c.size) := by simp [World.shape?, h1]
        rw [gp b hb]
        simp [execOp, ho, g4, gp b hb, convert, run_underlying hu, run_underlying hue, markStringish, hsh]
    · exact hv.elim
  · exact hv.elim

theorem bytesF_spec {G : Gh} : ∀ {l : List HV} {ns : List Int} {us : List Value}, bytesF l = some ns → R G (.vals us (flatL l)) → us = ns.map (Value.int .u8) ∧ l.length = ns.length := by
  intro l
  induction l with
  | nil => intro ns us h r; cases h; cases r; exact ⟨rfl, rfl⟩
  | cons x l ih =>
    intro ns us h r
    unfold bytesF at h
    split at h
    · rename_i heq
      cases heq
    · rename_i n r' heq
      cases heq
      simp only [Option.map_eq_some_iff] at h
      obtain ⟨ns', h1, rfl⟩ := h
      simp only [List.flatMap_cons, HV.cells, List.cons_append, List.nil_append] at r
      cases r with
      | vcons r1 r2 =>
        cases r1
        obtain ⟨e1, e2⟩ := ih h1 r2
        exact ⟨by rw [e1]; rfl, by simp [e2]⟩
    · cases h

theorem bsOf_size (l : List Int) : (bsOf l).size = l.length := by
  have : ∀ (l : List Int) (s : ByteArray), (l.foldl (fun r n => r.push (UInt8.ofNat n.toNat)) s).size = s.size + l.length := by
    intro l
    induction l with
    | nil => intro s; simp
    | cons x l ih => intro s; simp only [List.foldl_cons, ih, ByteArray.size_push, List.length_cons]; omega
  have h := this l ByteArray.empty
  simpa [bsOf] using h

theorem do_bstr {s d e : TypeId} {x : Operand} {hx : HArg} (ho : o.op = .convert s d x) (hd : strT P d = true) (hs : elemT P s = some e) (hi : intT P e = some .u8) (ha : arg x = some hx)
    (hv : vcOp P fz env st (.bstr hx) k) (hr : Rel P G st w) (he : REnv N G a env) : Does P o a G w k := by
  have hu := elem_of hs
  have hud := str_of hd
  have hue : P.underlying e = some (.int .u8) := by
    unfold intT at hi
    simp only [Option.bind_eq_some_iff] at hi
    obtain ⟨q, h1, h2⟩ := hi
    split at h2
    · cases h2; exact h1
    · cases h2
  simp only [vcOp] at hv
  split at hv
  · rename_i v e1
    split at hv
    · rename_i h hb
      unfold bstrF at hb
      split at hb
      · rename_i l hl
        simp only [Option.map_eq_some_iff] at hb
        obtain ⟨ns, hn, rfl⟩ := hb
        rcases elemsOf_sound he hr ha e1 hl with ⟨p, hx', _, rfl⟩ | ⟨b, base, cap, sz, us, hx', hU, hR, hc, _, hcap, hlim⟩
        · cases hn
          refine .val (v := .string (bsOf [])) ?_ hv hr (.str (by simp [bsOf_size, lim]))
          have main : (Conv.bytesToString (.slice p 0 0)).run P w = .ok (.string (bsOf [])) w := by
            cases p with
            | none => rfl
            | some q => exact run_bytesToString w q 0 0 [] (by simpa using run_loadCells_list w q [] (by simp))
          simp [execOp, ho, hx', run_convert_bytes_string w s d e p 0 0 hu hue hud, main]
        · obtain ⟨rfl, hlen⟩ := bytesF_spec hn hR
          refine .val (v := .string (bsOf ns)) ?_ hv hr (.str (by rw [bsOf_size, ← hlen]; exact hlim))
          have main : (Conv.bytesToString (.slice (some ⟨b, base, none⟩) l.length cap)).run P w = .ok (.string (bsOf ns)) w := by
            refine run_bytesToString w _ _ _ ns ?_
            have := run_loadCells_list (P := P) w ⟨b, base, none⟩ (ns.map (Value.int .u8)) (fun j v hv => by
              have := hc j v hv
              unfold Addr.add
              split
              · rename_i e; subst e; simpa using this
              · exact this)
            rw [hlen]
            simpa using this
          simp [execOp, ho, hx', run_convert_bytes_string w s d e _ _ _ hu hue hud, main]
      · cases hb
    · exact hv.elim
  · exact hv.elim

theorem Does.wp {next : Act → World → Prop} {Q : Exit → Act → World → Prop} (h : Does P o a G w k) (hn : ∀ v w', After P G w k v w' → next (a.put o.dst v) w') : o.wp P a w next Q := by
  obtain ⟨v, w', h1, h2⟩ := h
  rcases h1 with h1 | ⟨h1, rfl⟩
  · exact wp_value h1 (hn v w' h2)
  · exact wp_skip' h1 (hn _ w' h2)

theorem call_wp {f : Operand} {hf : HArg} {as : Array Operand} {ts : Array TypeId} {has : List HArg} {next : Act → World → Prop} {Q : Exit → Act → World → Prop}
    (ho : o.op = .call { callee := .value f, args := as, argTypes := ts }) (ha : arg f = some hf) (hb : as.toList.mapM arg = some has)
    (hv : vcOp P fz env st (.call hf has) k) (hr : Rel P G st w) (he : REnv N G a env) (hn : ∀ v w', After P G w k v w' → next (a.put o.dst v) w') : o.wp P a w next Q := by
  simp only [vcOp] at hv
  split at hv
  · rename_i g first caps vs e1 e2
    obtain ⟨⟨fn, c1, c2, c3⟩, hc⟩ := hv
    have r := he.ev ha e1
    have rs := he.evs hb e2
    cases hx' : a.eval f with
    | func q fs cs =>
      rw [hx'] at r
      obtain ⟨fs', cs', rfl, rfl, rfl, rf, rc⟩ : ∃ fs' cs', q = .func g ∧ fs = fs'.toArray ∧ cs = cs'.toArray ∧ R G (.vals fs' first) ∧ R G (.vals cs' caps) := by
        cases r with
        | fn h1 h2 => exact ⟨_, _, rfl, rfl, rfl, h1, h2⟩
      have hargs : R G (.vals (fs' ++ as.toList.map a.eval ++ cs') (first ++ vs ++ caps)) := (rf.vals_append rs).vals_append rc
      have hcall := hc G w _ hr hargs
      have harr : (fs'.toArray ++ Array.map a.eval as ++ cs'.toArray) = (fs' ++ as.toList.map a.eval ++ cs').toArray := by
        apply Array.ext'
        simp
      have hrun : (execOp a.eval o).run P w = .ok (.enter g (fs' ++ as.toList.map a.eval ++ cs').toArray) w := by
        have c2' : ¬ fn.body = none := by cases hb : fn.body <;> simp [hb] at c2 ⊢
        have c3' : ¬ fn.name = "runtime.NumGoroutine" := by simpa using c3
        rw [← harr]
        simp [execOp, ho, resolve, Deferred.ofValue, hx', invoke, callFunc, c1, c2', c3']
      unfold Oper.wp
      rw [hrun, Oper.upon_enter]
      refine hcall.mono fun e w' ⟨v, r, st', G', he', hp, h1, h2, h3⟩ => ?_
      subst he'
      exact hn v w' ⟨r, G', st', hp, h1, h2, h3⟩
    | _ => rw [hx'] at r; cases r
  · exact hv.elim

theorem vcOp_sound {hop : HOp} {next : Act → World → Prop} {Q : Exit → Act → World → Prop} (hs : stripOp P o = some hop) (hv : vcOp P fz env st hop k) (hr : Rel P G st w) (he : REnv N G a env)
    (hn : ∀ v w', After P G w k v w' → next (a.put o.dst v) w') : o.wp P a w next Q := by
  unfold stripOp at hs
  split at hs
  all_goals rename_i ho
  all_goals try simp only [Option.bind_eq_bind, Option.bind_eq_some_iff, Option.pure_def, Option.map_eq_some_iff] at hs
  · obtain ⟨x, h1, rfl⟩ := hs
    exact (do_move (.inl ho) h1 hv hr he).wp hn
  · obtain ⟨x, h1, rfl⟩ := hs
    exact (do_move (.inr ho) h1 hv hr he).wp hn
  · obtain ⟨x, h1, y, h2, z, h3, h⟩ := hs
    cases h
    exact (do_pick ho h1 h2 h3 hv hr he).wp hn
  · obtain ⟨x, h1, rfl⟩ := hs
    exact (do_alloc ho h1 hv hr).wp hn
  · obtain ⟨x, h1, rfl⟩ := hs
    exact (do_box ho h1 hv hr he).wp hn
  · obtain ⟨z, h1, fs, h2, szs, h3, ps, h4, h⟩ := hs
    split at h
    · rename_i hag
      cases h
      exact (do_build ho h1 h2 h3 (by simpa [Option.bind_eq_some_iff] using h4) hag hv hr he).wp hn
    · cases h
  · obtain ⟨e, h1, z, h2, ps, h3, sz, h4, h⟩ := hs
    cases h
    exact (do_bslice ho h1 h2 h4 (by simpa using h3) hv hr he).wp hn
  · obtain ⟨ag, h1, n, h2, x, h3, h⟩ := hs
    cases h
    exact (do_load ho h1 h2 h3 hv hr he).wp hn
  · obtain ⟨n, h1, x, h2, y, h3, h⟩ := hs
    cases h
    exact (do_store ho h1 h2 h3 hv hr he).wp hn
  · obtain ⟨x, h1, rfl⟩ := hs
    exact (do_nilchk ho h1 hv hr he).wp hn
  · split at hs
    all_goals try simp only [Option.bind_eq_some_iff] at hs
    · obtain ⟨x, h1, y, h2, h⟩ := hs
      cases h
      exact (do_bin ho h1 h2 hv hr he).wp hn
    · obtain ⟨x, h1, y, h2, h⟩ := hs
      cases h
      exact (do_bin ho h1 h2 hv hr he).wp hn
    · rename_i hu
      obtain ⟨x, h1, y, h2, h⟩ := hs
      cases h
      exact (do_bbin ho hu h1 h2 hv hr he).wp hn
    · rename_i hu
      obtain ⟨x, h1, y, h2, h⟩ := hs
      cases h
      exact (do_pbin ho hu h1 h2 hv hr he).wp hn
    · rename_i hu
      split at hs
      · rename_i hny
        simp only [Option.bind_eq_some_iff] at hs
        obtain ⟨ne, h1, x, h2, h⟩ := hs
        cases h
        exact (do_snil ho hu hny h1 h2 hv hr he).wp hn
      · cases hs
    · cases hs
  · obtain ⟨x, h1, rfl⟩ := hs
    exact (do_not ho h1 hv hr he).wp hn
  · obtain ⟨x, h1, rfl⟩ := hs
    exact (do_neg ho h1 hv hr he).wp hn
  · split at hs
    · rename_i hstr
      simp only [Option.bind_eq_some_iff] at hs
      obtain ⟨e, h1, hs⟩ := hs
      split at hs
      · rename_i h8
        simp only [Option.map_eq_some_iff] at hs
        obtain ⟨x, h2, rfl⟩ := hs
        exact (do_bstr ho hstr h1 h8 h2 hv hr he).wp hn
      · cases hs
    · split at hs
      · rename_i hsd
        obtain ⟨rfl, hb⟩ := hsd
        simp only [Option.bind_eq_some_iff, Option.map_eq_some_iff] at hs hb
        obtain ⟨e, h1, h8⟩ := hb
        obtain ⟨x, h2, rfl⟩ := hs
        exact (do_bmark ho h1 h8 h2 hv hr he).wp hn
      simp only [Option.bind_eq_some_iff] at hs
      obtain ⟨ks, h1, kd, h2, x, h3, h⟩ := hs
      cases h
      exact (do_conv ho h1 h2 h3 hv hr he).wp hn
  · obtain ⟨x, h1, y, h2, h⟩ := hs
    cases h
    exact (do_mkfn ho h1 h2 hv hr he).wp hn
  · obtain ⟨e, h1, sz, h2, by', h3, z, h4, x, h5, y, h6, h⟩ := hs
    cases h
    exact (do_mkslice ho h1 h2 h3 h4 h5 h6 hv hr he).wp hn
  · split at hs
    · rename_i hstr
      split at hs
      · cases hs
      · rename_i hm
        simp only [Option.bind_eq_some_iff] at hs
        obtain ⟨x, h1, lo, h2, hi, h3, h⟩ := hs
        cases h
        rename_i mx
        cases mx with
        | none => exact (do_substr ho hstr h1 h2 h3 hv hr he).wp hn
        | some q => simp at hm
    · simp only [Option.bind_eq_some_iff] at hs
      obtain ⟨e, h1, sz, h2, x, h3, lo, h4, hi, h5, mx, h6, h⟩ := hs
      cases h
      exact (do_slice ho h1 h2 h3 h4 h5 h6 hv hr he).wp hn
  · obtain ⟨fs, h1, fd, h2, h⟩ := hs
    split at h
    · cases h
    · rename_i hsz
      simp only [Option.bind_eq_some_iff] at h
      obtain ⟨x, h3, h⟩ := h
      cases h
      cases hq : szT P fd.type with
      | none => exact absurd (.inl hq) hsz
      | some n =>
        exact (do_faddr ho h1 h2 hq (fun e => by subst e; exact hsz (.inr hq)) h3 hv hr he).wp hn
  · obtain ⟨fs, h1, fd, h2, ag, h3, n, h4, x, h5, h⟩ := hs
    cases h
    exact (do_fld ho h1 h2 h3 h4 h5 hv hr he).wp hn
  · obtain ⟨e, h1, sz, h2, x, h3, y, h4, h⟩ := hs
    cases h
    exact (do_iaddr ho h1 h2 h3 h4 hv hr he).wp hn
  · split at hs
    · rename_i hstr
      simp only [Option.bind_eq_some_iff] at hs
      obtain ⟨x, h1, y, h2, h⟩ := hs
      cases h
      exact (do_idx ho hstr h1 h2 hv hr he).wp hn
    · cases hs
  · obtain ⟨x, h1, rfl⟩ := hs
    exact (do_ext ho h1 hv hr he).wp hn
  · obtain ⟨x, h1, t, h2, h⟩ := hs
    split at h
    · rename_i hstr
      simp only [Option.map_eq_some_iff] at h
      obtain ⟨y, h3, rfl⟩ := h
      exact (do_slen ho h1 h2 hstr h3 hv hr he).wp hn
    · simp only [Option.bind_eq_some_iff, Option.map_eq_some_iff] at h
      obtain ⟨e, h4, y, h3, rfl⟩ := h
      exact (do_len ho h1 h2 h4 h3 hv hr he).wp hn
  · obtain ⟨x, h1, t, h2, e, h4, y, h3, rfl⟩ := hs
    exact (do_cap ho h1 h2 h4 h3 hv hr he).wp hn
  · obtain ⟨x, h1, y, h2, t, h3, e, h4, z, h5, h⟩ := hs
    split at h
    · cases h
    · rename_i hc
      simp only [not_or, ne_eq, Decidable.not_not] at hc
      obtain ⟨c1, c2, c3⟩ := hc
      simp only [Option.bind_eq_some_iff] at h
      obtain ⟨sz, h6, by', h7, hx, h8, hy, h9, h⟩ := h
      cases h
      rw [c1] at ho
      exact (do_append ho c2 h1 h2 h4 h6 h7 h5 c3 h8 h9 hv hr he).wp hn
  · split at hs
    · cases hs
    · rename_i hsz
      simp only [Option.bind_eq_some_iff] at hs
      obtain ⟨t, _, kd, _, x, h1, hx, h2, y, h3, hy, h4, h⟩ := hs
      cases h
      exact (do_max ho (by simpa using hsz) h1 h3 h2 h4 hv hr he).wp hn
  · split at hs
    · cases hs
    · rename_i hsz
      simp only [Option.bind_eq_some_iff] at hs
      obtain ⟨t, _, kd, _, x, h1, hx, h2, y, h3, hy, h4, h⟩ := hs
      cases h
      exact (do_min ho (by simpa using hsz) h1 h3 h2 h4 hv hr he).wp hn
  · obtain ⟨hf, h1, has, h2, h⟩ := hs
    cases h
    exact call_wp ho h1 h2 hv hr he hn
  · cases hs

end
end HL
