/- The framework, part K: ranges over functions. Conditions: none. -/
import Derived.RangeFuncRecord
import Derived.Test.YtfbnhoolkajebaaFwH
namespace Go.Proofs.Ytfbnhoolkajebaa
set_option linter.unusedVariables false
set_option linter.unusedSimpArgs false
theorem upd_putObj {w : World} {b : Nat} {o : Obj} (o' : Obj) (h : w.heap[b]? = some o) : Upd w b o' (w.putObj b o') :=
  ⟨rfl, rfl, rfl, fun k => by
    by_cases hk : k = b
    · subst hk; rw [if_pos rfl]; exact World.putObj_heap_same (Array.getElem?_eq_some_iff.1 h).1
    · rw [if_neg hk]; exact World.putObj_heap_other hk⟩
theorem Mem.put0 {w : World} {R : Rest} {H : List (Nat × Obj)} {b : Nat} {o : Obj} (o' : Obj) (h : Mem w R ((b, o) :: H)) : Mem (w.putObj b o') R ((b, o') :: H) :=
  Mem.upd (H1 := []) h (upd_putObj o' (h.own (b, o) (by simp)))
/-- A call of yield: its round. -/
def YieldR (P : Program) (l : Nat) (vs : List Value) (w : World) (Φ : Value → World → Prop) : Prop :=
  ∃ f tmps assign body, (Instr.yield l vs.toArray).run P w = .ok (.round l f tmps assign body) w ∧ RoundIn (FR none) 0 P l f tmps assign body w fun e w' => ∃ v, e = .returned v ∧ Φ v w'
theorem or_yield {P : Program} {fr : Nat → Value} {w : World} {l : Nat} {x : Operand} {xs : Array Operand} {vs : List Value} {ts : Array TypeId} {ty : TypeId} {Φ : Value → World → Prop}
    (hx : evalF fr x = .func (.yield l) #[] #[]) (ha : xs.map (evalF fr) = vs.toArray) (h : YieldR P l vs w Φ) : OpR P fr w (.call ⟨.value x, xs, ts⟩) ty Φ := by
  obtain ⟨f, tmps, assign, body, hy, hr⟩ := h
  refine .inr (.inr (.inr ⟨l, f, tmps, assign, body, w, ?_, hr⟩))
  have he : xop (evalF fr) (.call ⟨.value x, xs, ts⟩) ty = (do let d ← resolve (evalF fr) ⟨.value x, xs, ts⟩ ty; invoke d.target d.args) := rfl
  rw [he]
  simp [resolve, hx, Deferred.ofValue, invoke, ha, hy]

/-! ### Code under a mark -/
def mark (D : Nat) : Deferred := { target := .collected D, args := #[] }
def CX (P : Program) (n : Nat) (c : Code) (Q : Exit → (Nat → Value) → World → List Deferred → Prop) (fr : Nat → Value) (w : World) (ds : List Deferred) : Prop :=
  ∀ a : Act, Frm ds a n fr → Code.wpIn (FR none) 0 P c (fun e a' w' => ∃ fr' ds', Frm ds' a' n fr' ∧ Q e fr' w' ds') a w
def xThen (N : (Nat → Value) → World → List Deferred → Prop) (Q : Exit → (Nat → Value) → World → List Deferred → Prop) : Exit → (Nat → Value) → World → List Deferred → Prop
  | .normal, fr, w, ds => N fr w ds
  | e, fr, w, ds => Q e fr w ds
theorem xThen_normal {N : (Nat → Value) → World → List Deferred → Prop} {Q : Exit → (Nat → Value) → World → List Deferred → Prop} {fr : Nat → Value} {w : World} {ds : List Deferred} (h : N fr w ds) : xThen N Q .normal fr w ds := h
theorem xThen_ret {N : (Nat → Value) → World → List Deferred → Prop} {Q : Exit → (Nat → Value) → World → List Deferred → Prop} {fr : Nat → Value} {w : World} {ds : List Deferred} (h : Q .ret fr w ds) : xThen N Q .ret fr w ds := h
section
variable {P : Program} {n : Nat} {Q Q' : Exit → (Nat → Value) → World → List Deferred → Prop} {fr : Nat → Value} {w : World} {ds : List Deferred}
theorem cx_of {c : Code} (h : CW P n c (fun e fr w => Q e fr w ds) fr w) : CX P n c Q fr w ds := fun a ha =>
  Code.wpIn_mono (fun _ _ _ ⟨fr', hf, q⟩ => ⟨fr', ds, hf, q⟩) (h none ds a ha)
theorem cx_seq {x y : Code} (h : CW P n x (kThen (fun fr w => CX P n y Q fr w ds) (fun e fr w => Q e fr w ds)) fr w) : CX P n (.seq x y) Q fr w ds := by
  intro a ha
  refine wpIn_seq (Code.wpIn_mono ?_ (h none ds a ha))
  rintro e a' w' ⟨fr', hf, q⟩
  cases e <;> first | exact q a' hf | exact ⟨fr', ds, hf, q⟩
theorem cx_seqx {x y : Code} (h : CX P n x (xThen (CX P n y Q) Q) fr w ds) : CX P n (.seq x y) Q fr w ds := by
  intro a ha
  refine wpIn_seq (Code.wpIn_mono ?_ (h a ha))
  rintro e a' w' ⟨fr', ds', hf, q⟩
  cases e <;> first | exact q a' hf | exact ⟨fr', ds', hf, q⟩
theorem CX.mono {c : Code} (h : CX P n c Q fr w ds) (hq : ∀ e fr w ds, Q e fr w ds → Q' e fr w ds) : CX P n c Q' fr w ds := fun a ha =>
  Code.wpIn_mono (fun _ _ _ ⟨fr', ds', hf, q⟩ => ⟨fr', ds', hf, hq _ _ _ _ q⟩) (h a ha)
/-- A block that is not left by its own exit. -/
theorem cx_block {i : Nat} {c : Code} (h : CX P n c (fun e fr w ds => (∀ j, e ≠ .exit j) ∧ Q e fr w ds) fr w ds) : CX P n (.block i c) Q fr w ds := by
  intro a ha
  refine wpIn_block (Code.wpIn_mono ?_ (h a ha))
  rintro e a' w' ⟨fr', ds', hf, hne, q⟩
  cases e with
  | exit j => exact absurd rfl (hne j)
  | _ => exact ⟨fr', ds', hf, q⟩
end
def fnPostX (P : Program) (rs : List ResultVar) (Φ : Value → World → Prop) : Exit → (Nat → Value) → World → List Deferred → Prop
  | .normal, fr, w, ds | .ret, fr, w, ds => (ds = [] ∧ ∃ vs, ResL P w fr rs vs ∧ Φ (tupleOf vs) w) ∨
      (∃ D, ds = [mark D] ∧ w.heap[D]? = some (.deferred (some [])) ∧ ∃ vs, ResL P (w.putObj D (.deferred none)) fr rs vs ∧ Φ (tupleOf vs) (w.putObj D (.deferred none)))
  | _, _, _, _ => False
theorem callsR_of_cx {P : Program} {f : FuncId} {fn : Func} {c : Code} {n : Nat} {rs : List ResultVar} {args : List Value} {w : World} {Φ : Value → World → Prop}
    (hf : P.funcs[f]? = some fn) (hb : fn.body = some c) (hn : fn.ntmps = n) (hr : fn.results = rs.toArray) (hs : Nat.ble args.length n = true)
    (h : CX P n c (fnPostX P rs Φ) (initF args) w []) : CallsR P f args.toArray w Φ := by
  have hs' : args.length ≤ n := Nat.le_of_ble_eq_true hs
  have key : CallsIn (FR none) 0 P f args.toArray w (fun e w' => ∃ v, e = .returned v ∧ Φ v w') := by
    refine callsIn_of_wp_marks hf hb trivial (Code.wpIn_mono ?_ (h _ ⟨rfl, ?_, ?_⟩)) rfl
    · rintro e a w' ⟨fr', ds', hfr, q⟩
      have fin : ((ds' = [] ∧ ∃ vs, ResL P w' fr' rs vs ∧ Φ (tupleOf vs) w') ∨ (∃ D, ds' = [mark D] ∧ w'.heap[D]? = some (.deferred (some [])) ∧ ∃ vs, ResL P (w'.putObj D (.deferred none)) fr' rs vs ∧ Φ (tupleOf vs) (w'.putObj D (.deferred none)))) →
          LeavesInM (FR none) 0 P fn a.tmps (fun e w' => ∃ v, e = .returned v ∧ Φ v w') a.defers .returning w' := by
        rintro (⟨rfl, vs, h1, h2⟩ | ⟨D, rfl, hD, vs, h1, h2⟩)
        · rw [hfr.defers]
          exact ⟨_, ResL.run hfr.get (by rw [hr]; exact h1), _, rfl, h2⟩
        · rw [hfr.defers]
          exact ⟨by simp, .inl ⟨D, _, rfl, run_takeDeferred hD, ⟨_, ResL.run hfr.get (by rw [hr]; exact h1), _, rfl, h2⟩⟩⟩
      cases e with
      | normal => exact fin q
      | ret => exact fin q
      | _ => exact q.elim
    · simp [hn]; omega
    · intro t; rw [getD_append_replicate]; rfl
  exact callsIn_wide.1 key
theorem fnPostX_ret {P : Program} {rs : List ResultVar} {Φ : Value → World → Prop} {fr : Nat → Value} {w : World} (vs : List Value) (h : ResL P w fr rs vs) (hp : Φ (tupleOf vs) w) : fnPostX P rs Φ .ret fr w [] := .inl ⟨rfl, vs, h, hp⟩
theorem fnPostX_mark {P : Program} {rs : List ResultVar} {Φ : Value → World → Prop} {fr : Nat → Value} {w : World} {R : Rest} {H : List (Nat × Obj)} {D : Nat} (hm : Mem w R ((D, .deferred (some [])) :: H))
    (vs : List Value) (h : ∀ w', Mem w' R H → ResL P w' fr rs vs ∧ Φ (tupleOf vs) w') : fnPostX P rs Φ .ret fr w [mark D] := by
  have h1 := hm.put0 (.deferred none)
  have h2 := h _ (h1.sub (List.sublist_cons_self _ _))
  exact .inr ⟨D, rfl, hm.own (D, .deferred (some [])) (by simp), vs, h2.1, h2.2⟩

/-! ### The statement -/
def updA (fr : Nat → Value) : List Nat → List Value → Nat → Value
  | p :: ps, v :: vs => updA (upd fr p v) ps vs
  | _, _ => fr
theorem frm_params {n : Nat} : ∀ (ps : List Nat) (vs : List Value) (fr : Nat → Value) (tmps : Array Value), ps.all (Nat.blt · n) = true → Frm [] { tmps := tmps, defers := [] } n fr →
    Frm [] { tmps := (ps.zip vs).foldl (fun t (p, v) => t.setIfInBounds p v) tmps, defers := [] } n (updA fr ps vs)
  | [], _, _, _, _, h => by simpa [updA] using h
  | _ :: _, [], _, _, _, h => by simpa [updA] using h
  | p :: ps, v :: vs, fr, tmps, hp, h => by
    simp only [List.all_cons, Bool.and_eq_true] at hp
    have := frm_params ps vs (upd fr p v) (tmps.setIfInBounds p v) hp.2 (h.put (d := some p) (dst_lt hp.1) v)
    simpa [updA] using this
/-- How a round's body may be left. -/
def roundQ (R : Rest) (l : Nat) (lp : LoopState → Option Code → Obj) (Φ : Value → World → Prop) : Exit → (Nat → Value) → World → Prop
  | .normal, _, w => ∃ H, Mem w R ((l, lp .busy none) :: H) ∧ ∀ w', Mem w' R ((l, lp .ready none) :: H) → Φ (bl true) w'
  | .ret, _, w => ∃ H, Mem w R ((l, lp .busy none) :: H) ∧ ∀ w', Mem w' R ((l, lp .done (some .ret)) :: H) → Φ (bl false) w'
  | .exit i, _, w => ∃ H, Mem w R ((l, lp .busy none) :: H) ∧ ∀ w', Mem w' R ((l, lp .done (some (.exit i))) :: H) → Φ (bl false) w'
  | _, _, _ => False
/-- What the statement's own jump is. -/
def jumpX (Q : Exit → (Nat → Value) → World → List Deferred → Prop) (fr : Nat → Value) (w : World) (ds : List Deferred) : Option Code → Prop
  | none => Q .normal fr w ds
  | some .ret => Q .ret fr w ds
  | some (.exit i) => Q (.exit i) fr w ds
  | _ => False
theorem cx_range {P : Program} {n : Nat} {Q : Exit → (Nat → Value) → World → List Deferred → Prop} {fr : Nat → Value} {w : World} {ds : List Deferred} {g : Operand} {ps : List Nat} {assign body : Code} {R : Rest} {H : List (Nat × Obj)}
    {fid : Nat} {fnv : Func} {lb : List Value} (hm : Mem w R H) (hg : evalF fr g = .func (.func fid) #[] lb.toArray) (hf : P.funcs[fid]? = some fnv) (hb : fnv.body.isNone = false) (hnm : (fnv.name == "runtime.NumGoroutine") = false) (hps : ps.all (Nat.blt · n) = true)
    (h : ∀ (l D : Nat) (lp : LoopState → Option Code → Obj) (w1 : World), Mem w1 R ((l, lp .ready none) :: (D, .deferred (some [])) :: H) →
      (∀ (vs : List Value) (W : World) (HW : List (Nat × Obj)) (Φ : Value → World → Prop), vs.length = ps.length → Mem W R ((l, lp .ready none) :: HW) →
        CW P n assign (kThen (fun fr1 W1 => ∃ H1, Mem W1 R ((l, lp .ready none) :: H1) ∧ ∀ W2, Mem W2 R ((l, lp .busy none) :: H1) → CW P n body (roundQ R l lp Φ) fr1 W2) (fun _ _ _ => False)) (updA fr ps vs) W →
        YieldR P l vs W Φ) →
      CallsR P fid (Value.func (.yield l) #[] #[] :: lb).toArray w1 fun _ w2 => ∃ st pe H2, st ≠ LoopState.busy ∧ Mem w2 R ((l, lp st pe) :: (D, .deferred (some [])) :: H2) ∧ ∀ w3, Mem w3 R ((D, .deferred (some [])) :: H2) → jumpX Q fr w3 (mark D :: ds) pe) :
    CX P n (.rangeFunc g ps.toArray assign body) Q fr w ds := by
  intro a ha
  refine wpIn_rangeFunc ?_
  intro fn hfn
  obtain ⟨rec, hrec⟩ : ∃ rec : LoopState → Option Code → Loop, rec = fun st pe => { state := st, pending := pe, fn, tmps := a.tmps, params := ps.toArray, assign, body, defers := w.heap.size } := ⟨_, rfl⟩
  obtain ⟨W1, hW1⟩ : ∃ W1, (w.alloc (.deferred (some []))).alloc (.loop (rec .ready none)) = W1 := ⟨_, rfl⟩
  have hm1 : Mem W1 R ((w.heap.size + 1, .loop (rec .ready none)) :: (w.heap.size, .deferred (some [])) :: H) := by
    rw [← hW1]
    have h1 := Mem.alloc hm (.deferred (some []))
    have h2 := Mem.alloc h1 (.loop (rec .ready none))
    have e : ({ w with heap := w.heap.push (.deferred (some [])) } : World).heap.size = w.heap.size + 1 := by simp
    rw [e] at h2
    exact h2
  have eg : ∀ args w, (callFunc fid args).run P w = .ok (.enter fid args) w := by
    intro args w
    have hnm' : ¬ fnv.name = "runtime.NumGoroutine" := by simpa using hnm
    have hb' : ¬ fnv.body = none := by cases h : fnv.body <;> simp_all
    simp [callFunc, hf, hb', hnm']
  have hev : a.eval g = .func (.func fid) #[] lb.toArray := by rw [ha.eval]; exact hg
  refine ⟨w.heap.size + 1, [mark w.heap.size], W1, { target := .fn (.func fid) lb.toArray, args := #[.func (.yield (w.heap.size + 1)) #[] #[]] }, W1, fid,
    (Value.func (.yield (w.heap.size + 1)) #[] #[] :: lb).toArray, W1, ?_, ?_, fun _ _ => trivial, ?_, fun h => by simp at h, ?_⟩
  · rw [← hW1, hrec]; exact run_enterLoop_outer _ _ _ _ _
  · simp only [resolve, hev]
    simp [go_sem]
  · simp [invoke, go_sem, eg]
  · have hcall := h (w.heap.size + 1) w.heap.size (fun st pe => .loop (rec st pe)) W1 hm1 ?_
    · refine CallsIn.mono (callsIn_wide.2 hcall : CallsIn (FR none) (0 - 1) P fid _ W1 _) ?_
      rintro e w2 ⟨v, rfl, st, pe, H2, hst, hm2, hq⟩
      have hl := hm2.own (w.heap.size + 1, .loop (rec st pe)) (by simp)
      have hr := run_endLoop (P := P) hl (by rw [hrec]; exact hst)
      have hr' : (Instr.endLoop (w.heap.size + 1)).run P w2 = .ok pe (w2.putObj (w.heap.size + 1) (.loop (rec .exhausted pe))) := by
        rw [hrec] at hr ⊢; exact hr
      have hm3 : Mem (w2.putObj (w.heap.size + 1) (.loop (rec .exhausted pe))) R ((w.heap.size, .deferred (some [])) :: H2) := (hm2.put0 _).sub (List.sublist_cons_self _ _)
      have hq3 := hq _ hm3
      refine ⟨_, _, hr', ?_⟩
      have hfa : Frm (mark w.heap.size :: ds) { a with defers := [mark w.heap.size] ++ a.defers } n fr := ⟨by show _ = _; rw [ha.defers]; rfl, ha.size, ha.get⟩
      match pe, hq3 with
      | none, hq3 => exact ⟨fr, _, hfa, hq3⟩
      | some .ret, hq3 => exact wpIn_ret ⟨fr, _, hfa, hq3⟩
      | some (.exit i), hq3 => exact wpIn_exit ⟨fr, _, hfa, hq3⟩
    · intro vs W HW Φ hvs hmW hcw
      have hl := hmW.own (w.heap.size + 1, .loop (rec .ready none)) (by simp)
      have hy := run_yield (P := P) (args := vs.toArray) hl (by rw [hrec]; simp [hvs])
      rw [hrec] at hy
      refine ⟨fn, _, assign, body, hy, roundIn_of_wpIn trivial ?_⟩
      have hfr0 : Frm [] { tmps := a.tmps, defers := [] } n fr := ⟨rfl, ha.size, ha.get⟩
      have hfr1 := frm_params ps vs fr a.tmps hps hfr0
      have e1 : (ps.toArray.zip vs.toArray).foldl (fun t (p, v) => t.setIfInBounds p v) a.tmps = (ps.zip vs).foldl (fun t (p, v) => t.setIfInBounds p v) a.tmps := by simp
      simp only [e1]
      refine Code.wpIn_mono ?_ (hcw (some (w.heap.size + 1)) [] _ hfr1)
      rintro e a1 w1 ⟨fr1, hf1, q⟩
      cases e with
      | normal =>
        obtain ⟨H1, hm1', hbody⟩ := q
        have hl1 := hm1'.own (w.heap.size + 1, .loop (rec .ready none)) (by simp)
        refine ⟨_, run_beginRound hl1 (by rw [hrec]), ?_⟩
        have e2 : ({ rec .ready none with state := .busy } : Loop) = rec .busy none := by rw [hrec]
        rw [e2]
        refine Code.wpIn_mono ?_ (hbody _ (hm1'.put0 _) (some (w.heap.size + 1)) [] _ hf1)
        rintro e a3 W3 ⟨fr3, hf3, q⟩
        have fin : ∀ (jump : Option Code) (H3 : List (Nat × Obj)), Mem W3 R ((w.heap.size + 1, .loop (rec .busy none)) :: H3) →
            (Instr.endRound (w.heap.size + 1) jump).run P W3 = .ok (.bool jump.isNone) (W3.putObj (w.heap.size + 1) (.loop (rec (if jump.isNone then .ready else .done) jump))) ∧
            Mem (W3.putObj (w.heap.size + 1) (.loop (rec (if jump.isNone then .ready else .done) jump))) R ((w.heap.size + 1, .loop (rec (if jump.isNone then .ready else .done) jump)) :: H3) := fun jump H3 h3 => by
          have hl3 := h3.own (w.heap.size + 1, .loop (rec .busy none)) (by simp)
          have := run_endRound (P := P) jump hl3
          refine ⟨?_, h3.put0 _⟩
          rw [this, hrec]
        cases e with
        | normal =>
          obtain ⟨H3, h3, hΦ⟩ := q
          obtain ⟨h4, h5⟩ := fin none H3 h3
          exact ⟨_, _, h4, _, rfl, hΦ _ h5⟩
        | ret =>
          obtain ⟨H3, h3, hΦ⟩ := q
          obtain ⟨h4, h5⟩ := fin (some .ret) H3 h3
          exact ⟨_, _, h4, _, rfl, hΦ _ h5⟩
        | exit i =>
          obtain ⟨H3, h3, hΦ⟩ := q
          obtain ⟨h4, h5⟩ := fin (some (.exit i)) H3 h3
          exact ⟨_, _, h4, _, rfl, hΦ _ h5⟩
        | _ => exact q.elim
      | _ => exact q.elim
/-! ### A pointer beside nil -/
section
variable {P : Program} {fr : Nat → Value} {w : World} {ty : TypeId} {x y : Operand} {t t' e : TypeId} {b off : Nat}
theorem run_equalIn_ptr (d : Nat) (hu : P.underlying t = some (.pointer e)) : (Op.equalIn (d + 1) t (ptr b off) (.pointer none)).run P w = .ok false w := by
  rw [Op.equalIn, Sem.run_bind, run_und hu]
  rfl
theorem ev_ptr_nil_eql (hu : P.underlying t = some (.pointer e)) (hx : evalF fr x = ptr b off) (hy : evalF fr y = .pointer none) : EvQ P fr w (.binOp .eql t x y t') ty (bl false) := by
  unfold EvQ xop
  show Sem.run P (do let v ← (do eqGuard .eql t x y (evalF fr x) (evalF fr y); binOp .eql t (evalF fr x) (evalF fr y)); pure (Next.value v)) w = _
  rw [hx, hy]
  have hg : eqGuard .eql t x y (ptr b off) (.pointer none) = pure () := rfl
  have hb : binOp .eql t (ptr b off) (.pointer none) = (do pure (.bool (← Op.equalIn (9999 + 1) t (ptr b off) (.pointer none)))) := rfl
  rw [hg, hb]
  simp [run_equalIn_ptr 9999 hu, bl]
end
end Go.Proofs.Ytfbnhoolkajebaa
