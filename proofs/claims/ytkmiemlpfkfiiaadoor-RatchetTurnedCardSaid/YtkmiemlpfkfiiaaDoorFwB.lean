/- The framework, part B: calls and results, memory as a list of blocks beside a rest. Conditions: none. -/
import Derived.Tactics
import Derived.LoopNIn
import Derived.TacticsIn
import Derived.Laws.Sem
import Derived.KernelRfl
import Derived.Below
namespace Go.Proofs.YtkmiemlpfkfiiaaDoor
open _root_.Array renaming getD_eq_getD_getElem? → ax
open List renaming map_append → dF, mem_append_left → aS, mem_append_right → aG, mem_cons_of_mem → az
open Nat renaming blt → dL, eq_of_beq_eq_true → dQ, le_of_ble_eq_true → bQ, lt_or_ge → ay
theorem Xv {p : Prop} (h : p := by kernel_rfl) : p := h
theorem Jj {p : Prop} (h : p := by first | rfl | omega) : p := h
theorem Ya {p : Prop} (h : p := by simp) : p := h
theorem Yx {p : Prop} (h : p := by decide) : p := h
abbrev Z4 := List (BitVec 8)
abbrev Ej (x : BitVec 8) : Z4 := [x, 0#8, 0#8, 0#8, 0#8, 0#8, 0#8, 0#8, 0#8, 0#8, 0#8, 0#8, 0#8, 0#8, 0#8, 0#8, 0#8, 0#8, 0#8, 0#8, 0#8, 0#8, 0#8, 0#8, 0#8, 0#8, 0#8, 0#8, 0#8, 0#8, 0#8, 0#8]
abbrev J3 : Value := .slice none 0 0
section
def upd (fr : Nat → Value) (d : Nat) (v : Value) : Nat → Value := fun t => bif Nat.beq t d then v else fr t
def N9 (fr : Nat → Value) (d : Option Nat) (v : Value) : Nat → Value := match d with | some d => upd fr d v | none => fr
def Ql (fr : Nat → Value) : Operand → Value
 | .tmp t => fr t
 | .const v => v
 | .global g => .pointer (some ⟨g, 0, none⟩)
 | .func f => .func (.func f) #[] #[]
def initF (args : List Value) : Nat → Value := fun t => args.getD t undef
abbrev FR (rd : Option Nat) : Fence := { fn := fun _ => True, depth := none, alive := false, round := rd }
structure Frm (ds : List Deferred) (a : Act) (n : Nat) (fr : Nat → Value) : Prop where
 defers : a.defers = ds
 size : a.tmps.size = n
 get : ∀ t, a.tmps.getD t undef = fr t
theorem Qae (fr : Nat → Value) (d : Nat) (v : Value) : upd fr d v d = v := by simp [upd]
theorem Qaf (fr : Nat → Value) {d t : Nat} (v : Value) (h : t ≠ d) : upd fr d v t = fr t := by
 have : Nat.beq t d = false := by
  cases hb : Nat.beq t d with
  | false => rfl
  | true => exact absurd (dQ hb) h
 simp [upd, this]
theorem Frm.eval {ds : List Deferred} {a : Act} {n : Nat} {fr : Nat → Value} (h : Frm ds a n fr) : a.eval = Ql fr := by
 funext x; cases x <;> simp [Act.eval, Ql, ← h.get]
theorem Frm.put {ds : List Deferred} {a : Act} {n : Nat} {fr : Nat → Value} (h : Frm ds a n fr) {d : Option Nat} (hd : ∀ x, d = some x → x < n) (v : Value) : Frm ds (a.put d v) n (N9 fr d v) := by
 cases d with
 | none => exact h
 | some d =>
  have hd := hd d rfl
  refine ⟨h.defers, by simp [Act.put, h.size], fun t => ?_⟩
  have hg := h.get t
  simp only [Act.put, N9]
  by_cases ht : t = d
  ·subst ht
   rw [Qae]
   simp [ax, h.size, hd]
  rw [Qaf _ _ ht, ← hg]
  simp only [ax, Array.getElem?_setIfInBounds]
  rw [if_neg (fun e => ht e.symm)]
def frOf (a : Act) : Nat → Value := fun t => a.tmps.getD t undef
theorem Frm.frOf {ds : List Deferred} {a : Act} {n : Nat} {fr : Nat → Value} (h : Frm ds a n fr) : fr = Proofs.YtkmiemlpfkfiiaaDoor.frOf a := funext fun t => (h.get t).symm
def CW (P : Program) (n : Nat) (c : Code) (Q : Exit → (Nat → Value) → World → Prop) (fr : Nat → Value) (w : World) : Prop :=
 ∀ (rd : Option Nat) (ds : List Deferred) (a : Act), Frm ds a n fr → Code.wpIn (FR rd) 0 P c (fun e a' w' => ∃ fr', Frm ds a' n fr' ∧ Q e fr' w') a w
def Qcu (N : (Nat → Value) → World → Prop) (Q : Exit → (Nat → Value) → World → Prop) : Exit → (Nat → Value) → World → Prop
 | .normal, fr, w => N fr w
 | e, fr, w => Q e fr w
def kBlk (id : Nat) (N : (Nat → Value) → World → Prop) (Q : Exit → (Nat → Value) → World → Prop) : Exit → (Nat → Value) → World → Prop
 | .normal, fr, w => N fr w
 | .exit i, fr, w => bif Nat.beq i id then N fr w else Q (.exit i) fr w
 | e, fr, w => Q e fr w
section
variable {P : Program} {n : Nat} {Q Q' : Exit → (Nat → Value) → World → Prop} {fr : Nat → Value} {w : World}
theorem CW.mono {c : Code} (h : CW P n c Q fr w) (hq : ∀ e fr w, Q e fr w → Q' e fr w) : CW P n c Q' fr w :=
 fun rd ds a ha => Code.wpIn_mono (fun _ _ _ ⟨fr', hf, q⟩ => ⟨fr', hf, hq _ _ _ q⟩) (h rd ds a ha)
theorem Qo (h : Q .normal fr w) : CW P n .skip Q fr w := fun _ _ _ ha => wpIn_skip ⟨fr, ha, h⟩
theorem X3 {i : Nat} (h : Q (.exit i) fr w) : CW P n (.exit i) Q fr w := fun _ _ _ ha => wpIn_exit ⟨fr, ha, h⟩
theorem Z8 (h : Q .ret fr w) : CW P n .ret Q fr w := fun _ _ _ ha => wpIn_ret ⟨fr, ha, h⟩
theorem Qa {x y : Code} (h : CW P n x (Qcu (CW P n y Q) Q) fr w) : CW P n (.seq x y) Q fr w := by
 intro rd ds a ha
 refine wpIn_seq (Code.wpIn_mono ?_ (h rd ds a ha))
 rintro e a' w' ⟨fr', hf, q⟩
 cases e <;> first | exact q rd ds a' hf | exact ⟨fr', hf, q⟩
theorem Zz {c : Operand} {x y : Code} {b : Bool} (hc : Ql fr c = .bool b) (ht : b = true → CW P n x Q fr w) (hf : b = false → CW P n y Q fr w) :
  CW P n (.cond c x y) Q fr w := by
 intro rd ds a ha
 exact wpIn_cond_split (by rw [ha.eval]; exact hc) (fun h => ht h rd ds a ha) (fun h => hf h rd ds a ha)
theorem Qh {i : Nat} {c : Code} {N : (Nat → Value) → World → Prop} (h : CW P n c (kBlk i N Q) fr w) : CW P n (.block i c) (Qcu N Q) fr w := by
 intro rd ds a ha
 refine wpIn_block (Code.wpIn_mono ?_ (h rd ds a ha))
 rintro e a' w' ⟨fr', hf, q⟩
 cases e with
 | exit j =>
  by_cases hj : j = i
  ·subst hj
   simp only [kBlk, Nat.beq_refl, cond_true] at q
   simp only [Exit.inBlock, if_true]
   exact ⟨fr', hf, q⟩
  have hb : Nat.beq j i = false := by
   cases hb : Nat.beq j i with
   | false => rfl
   | true => exact absurd (dQ hb) hj
  simp only [kBlk, hb, cond_false] at q
  simp only [Exit.inBlock, if_neg hj]
  exact ⟨fr', hf, q⟩
 | _ => exact ⟨fr', hf, q⟩
theorem Y1 {c : Code} (I : (Nat → Value) → World → Prop) (μ : (Nat → Value) → World → Nat) (h₀ : I fr w)
  (round : ∀ fr w, I fr w → CW P n c (Qcu (fun fr' w' => I fr' w' ∧ μ fr' w' < μ fr w) Q) fr w) : CW P n (.loop c) Q fr w := by
 intro rd ds a ha
 refine wpIn_loop (fun a w => Frm ds a n (frOf a) ∧ I (frOf a) w) (fun a w => μ (frOf a) w) ?_ ?_
 ·rw [← ha.frOf]; exact ⟨ha, h₀⟩
 rintro a w ⟨hf, hI⟩
 refine Code.wpIn_mono ?_ (round _ w hI rd ds a hf)
 rintro e a' w' ⟨fr', hf', q⟩
 cases e with
 | normal =>
  have := hf'.frOf
  subst this
  exact ⟨⟨hf', q.1⟩, q.2⟩
 | _ => exact ⟨fr', hf', q⟩
def CR (P : Program) (n : Nat) (c : Code) (Q : Exit → (Nat → Value) → World → Prop) : Nat → (Nat → Value) → World → Prop
 | 0 => fun _ _ => False
 | k + 1 => CW P n c (Qcu (CR P n c Q k) Q)
theorem Vk {c : Code} (k : Nat) (h : CR P n c Q k fr w) : CW P n (.loop c) Q fr w := by
 intro rd ds a ha
 refine wpIn_loop_rounds k ?_
 induction k generalizing fr w a with
 | zero => exact h.elim
 | succ k ih =>
  refine Code.wpIn_mono ?_ (h rd ds a ha)
  rintro e a' w' ⟨fr', hf, q⟩
  cases e <;> first | exact ih q a' hf | exact ⟨fr', hf, q⟩
theorem Zq {c : Code} {k : Nat} (h : CW P n c (Qcu (CR P n c Q k) Q) fr w) : CR P n c Q (k + 1) fr w := h
variable {N : (Nat → Value) → World → Prop}
theorem Qc (h : N fr w) : Qcu N Q .normal fr w := h
theorem Qj {i : Nat} (h : Q (.exit i) fr w) : Qcu N Q (.exit i) fr w := h
theorem Yz (h : Q .ret fr w) : Qcu N Q .ret fr w := h
theorem Qe {id : Nat} (h : N fr w) : kBlk id N Q .normal fr w := h
theorem Xk {id : Nat} (h : N fr w) : kBlk id N Q (.exit id) fr w := by simpa [kBlk] using h
theorem H6 {id : Nat} (h : Q .ret fr w) : kBlk id N Q .ret fr w := h
theorem Gh {i : Nat} {c : Code} (h : CW P n c (kBlk i (Q .normal) Q) fr w) : CW P n (.block i c) Q fr w :=
 (Qh h).mono fun e _ _ q => by cases e <;> exact q
end
def Lp (ρ : Operand → Value) (op : Op) (ty : TypeId) : Sem Next := execOp ρ ⟨none, op, ty, "", #[], none⟩
theorem Qqy (ρ : Operand → Value) (d : Option Tmp) (op : Op) (ty : TypeId) (pos : String) (aft : Array Edge) (g : Option (Nat × Bool)) :
  execOp ρ ⟨d, op, ty, pos, aft, g⟩ = Lp ρ op ty := by cases op <;> rfl
def Jv (P : Program) (fr : Nat → Value) (w : World) (op : Op) (ty : TypeId) (v : Value) : Prop := (Lp (Ql fr) op ty).run P w = .ok (.value v) w
def Vf (P : Program) (fr : Nat → Value) (w : World) (op : Op) (ty : TypeId) (Φ : Value → World → Prop) : Prop :=
 (∃ v w', (Lp (Ql fr) op ty).run P w = .ok (.value v) w' ∧ Φ v w') ∨
 (∃ w', (Lp (Ql fr) op ty).run P w = .ok .skip w' ∧ Φ undef w') ∨
 (∃ f args w', (Lp (Ql fr) op ty).run P w = .ok (.enter f args) w' ∧ Calls P f args w' fun e w'' => ∃ v, e = .returned v ∧ Φ v w'') ∨
 (∃ l f tmps assign body w', (Lp (Ql fr) op ty).run P w = .ok (.round l f tmps assign body) w' ∧ RoundIn (FR none) 0 P l f tmps assign body w' fun e w'' => ∃ v, e = .returned v ∧ Φ v w'')
section
variable {P : Program} {n : Nat} {fr : Nat → Value} {w : World} {op : Op} {ty : TypeId}
theorem Jv.opR {v : Value} (h : Jv P fr w op ty v) : Vf P fr w op ty (fun v' w' => v' = v ∧ w' = w) := .inl ⟨v, w, h, rfl, rfl⟩
theorem Vf.mono {Φ Φ' : Value → World → Prop} (h : Vf P fr w op ty Φ) (hm : ∀ v w', Φ v w' → Φ' v w') : Vf P fr w op ty Φ' := by
 rcases h with ⟨v, w', h, p⟩ | ⟨w', h, p⟩ | ⟨f, args, w', h, p⟩ | ⟨l, f, tmps, assign, body, w', h, p⟩
 ·exact .inl ⟨v, w', h, hm _ _ p⟩
 ·exact .inr (.inl ⟨w', h, hm _ _ p⟩)
 ·exact .inr (.inr (.inl ⟨f, args, w', h, p.mono fun e w'' ⟨v, he, hp⟩ => ⟨v, he, hm _ _ hp⟩⟩))
 exact .inr (.inr (.inr ⟨l, f, tmps, assign, body, w', h, p.mono fun e w'' ⟨v, he, hp⟩ => ⟨v, he, hm _ _ hp⟩⟩))
theorem Vf.noDefer {Φ : Value → World → Prop} (h : Vf P fr w op ty Φ) : ∀ c, op ≠ .defer c := by
 rintro c rfl
 have e : Lp (Ql fr) (.defer c) ty = (do pure (.defer (← resolve (Ql fr) c ty))) := rfl
 rcases h with ⟨v, w', h, _⟩ | ⟨w', h, _⟩ | ⟨f, args, w', h, _⟩ | ⟨l, f, tmps, assign, body, w', h, _⟩ <;>
  ·rw [e, Sem.run_bind] at h
   cases hr : (resolve (Ql fr) c ty).run P w with
   | ok d w1 => rw [hr] at h; simp at h
   | halt x w1 => rw [hr] at h; cases h
theorem Vf.wp {rd : Option Nat} {ds : List Deferred} {Φ : Value → World → Prop} (h : Vf P fr w op ty Φ) {a : Act} (ha : Frm ds a n fr) {d : Option Tmp} {pos : String} {aft : Array Edge} {g : Option (Nat × Bool)}
  {next : Act → World → Prop} {Q : Exit → Act → World → Prop} (hn : ∀ v w', Φ v w' → next (a.put d v) w') : (⟨d, op, ty, pos, aft, g⟩ : Oper).wpIn (FR rd) 0 P a w next Q := by
 unfold Oper.wpIn
 refine ⟨fun _ _ => trivial, ?_⟩
 rw [Oper.semAt_eq _ _ _ h.noDefer, ha.eval, Qqy]
 rcases h with ⟨v, w', h, p⟩ | ⟨w', h, p⟩ | ⟨f, args, w', h, p⟩ | ⟨l, f, tmps, assign, body, w', h, p⟩
 ·rw [h]; exact hn _ _ p
 ·rw [h]; exact hn _ _ p
 ·rw [h]
  refine ⟨fun h => by simp at h, ?_⟩
  have hc : CallsIn (FR rd) (0 - 1) P f args w' fun e w'' => ∃ v, e = .returned v ∧ Φ v w'' := callsIn_wide.2 p
  exact hc.mono fun e w'' ⟨v, he, hp⟩ => by subst he; exact hn _ _ hp
 rw [h]
 refine ⟨fun h => by simp at h, ?_⟩
 have hc : RoundIn (FR rd) (0 - 1) P l f tmps assign body w' fun e w'' => ∃ v, e = .returned v ∧ Φ v w'' := p
 exact hc.mono fun e w'' ⟨v, he, hp⟩ => by subst he; exact hn _ _ hp
end
def RW (P : Program) (n : Nat) (ops : Array Oper) (l : List Oper) (K : (Nat → Value) → World → Prop) (fr : Nat → Value) (w : World) : Prop :=
 ∀ (rd : Option Nat) (ds : List Deferred) (a : Act), Frm ds a n fr → ∀ Q : Exit → Act → World → Prop, (∀ a' fr' w', Frm ds a' n fr' → K fr' w' → Q .normal a' w') → wpListIn (FR rd) 0 P ops Q l a w
section
variable {P : Program} {n : Nat} {ops : Array Oper} {rest : List Oper} {K : (Nat → Value) → World → Prop} {fr : Nat → Value} {w : World} {op : Op} {ty : TypeId} {pos : String} {aft : Array Edge}
theorem Zp (h : K fr w) : RW P n ops [] K fr w := fun _ _ a ha _ hQ => hQ a fr w ha h
theorem Qb {id : Nat} {l : List Oper} {Q : Exit → (Nat → Value) → World → Prop} (h : RW P n l.toArray l (fun fr w => Q .normal fr w) fr w) : CW P n (.region id l.toArray false) Q fr w :=
 fun rd ds a ha => wpIn_region_lit (h rd ds a ha _ fun _ fr' _ hf hq => ⟨fr', hf, hq⟩)
theorem RW.mono {K' : (Nat → Value) → World → Prop} {l : List Oper} (h : RW P n ops l K fr w) (hk : ∀ fr w, K fr w → K' fr w) : RW P n ops l K' fr w :=
 fun rd ds a ha Q hQ => h rd ds a ha Q fun a' fr' w' hf hK => hQ a' fr' w' hf (hk _ _ hK)
theorem Nw {d : Nat} (hd : dL d n = true) : ∀ x, (some d : Option Nat) = some x → x < n := by
 rintro x ⟨⟩; exact bQ hd
theorem rw_c {d : Nat} {Φ : Value → World → Prop} (hd : dL d n = true) (h : Vf P fr w op ty Φ) (k : ∀ v w', Φ v w' → RW P n ops rest K (upd fr d v) w') :
  RW P n ops (⟨some d, op, ty, pos, aft, none⟩ :: rest) K fr w := by
 intro rd ds a ha Q hQ
 unfold wpListIn
 rw [if_pos (by simp [Region.wanted])]
 exact (h.wp ha fun v w' hp => k v w' hp rd ds _ (ha.put (d := some d) (Nw hd) v) Q hQ)
theorem rw_q {d : Nat} {v : Value} (hd : dL d n = true) (h : Jv P fr w op ty v) (k : RW P n ops rest K (upd fr d v) w) :
  RW P n ops (⟨some d, op, ty, pos, aft, none⟩ :: rest) K fr w := rw_c hd h.opR (by rintro _ _ ⟨rfl, rfl⟩; exact k)
theorem Vd {Φ : Value → World → Prop} (h : Vf P fr w op ty Φ) (k : ∀ v w', Φ v w' → RW P n ops rest K fr w') :
  RW P n ops (⟨none, op, ty, pos, aft, none⟩ :: rest) K fr w := by
 intro rd ds a ha Q hQ
 unfold wpListIn
 rw [if_pos (by simp [Region.wanted])]
 exact (h.wp ha fun v w' hp => k v w' hp rd ds _ ha Q hQ)
theorem Qey {ds : List Deferred} {a : Act} {j s : Nat} {b : Bool} (ha : Frm ds a n fr) (hj : (ops[j]?).bind (·.dst) = some s) (hs : fr s = .bool b) : yielded ops a.tmps j = some b := by
 have hg := ha.get s
 rw [hs, ax] at hg
 unfold yielded
 rw [hj]
 cases h : a.tmps[s]? with
 | none => rw [h] at hg; simp [undef] at hg
 | some v => rw [h] at hg; simp at hg; subst hg; simp [h]
theorem rw_gy {d j s : Nat} {b want : Bool} {Φ : Value → World → Prop} (hj : (ops[j]?).bind (·.dst) = some s) (hs : fr s = .bool b) (hb : b = want) (hd : dL d n = true) (h : Vf P fr w op ty Φ)
  (k : ∀ v w', Φ v w' → RW P n ops rest K (upd fr d v) w') : RW P n ops (⟨some d, op, ty, pos, aft, some (j, want)⟩ :: rest) K fr w := by
 intro rd ds a ha Q hQ
 unfold wpListIn
 rw [if_pos (by simp [Region.wanted, Qey ha hj hs, hb])]
 exact (h.wp ha fun v w' hp => k v w' hp rd ds _ (ha.put (d := some d) (Nw hd) v) Q hQ)
theorem Fe {d j s : Nat} {b want : Bool} (hj : (ops[j]?).bind (·.dst) = some s) (hs : fr s = .bool b) (hb : b = !want) (hd : dL d n = true)
  (k : RW P n ops rest K (upd fr d undef) w) : RW P n ops (⟨some d, op, ty, pos, aft, some (j, want)⟩ :: rest) K fr w := by
 intro rd ds a ha Q hQ
 unfold wpListIn
 rw [if_neg (by simp [Region.wanted, Qey ha hj hs, hb])]
 exact ⟨fun _ _ => trivial, k rd ds _ (ha.put (d := some d) (Nw hd) _) Q hQ⟩
end
end --m
section
def Qg1 (P : Program) (w : World) (fr : Nat → Value) : List ResultVar → List Value → Prop
 | [], [] => True
 | .tmp t :: rs, v :: vs => fr t = v ∧ Qg1 P w fr rs vs
 | .cell t T :: rs, v :: vs => (∃ a, fr t = .pointer (some a) ∧ (loadVar T a).run P w = .ok v w) ∧ Qg1 P w fr rs vs
 | _, _ => False
def Qb7 : List Value → Value
 | [v] => v
 | vs => .tuple vs.toArray
def Qmv (tmps : Array Value) : ResultVar → Sem Value
 | .tmp t => pure (tmps.getD t undef)
 | .cell a t => do loadVar t (← asAddr (tmps.getD a undef))
theorem Qjm (fn : Func) (tmps : Array Value) : results fn tmps = (do let vs ← fn.results.mapM (Qmv tmps); pure (if h : vs.size = 1 then vs[0] else .tuple vs)) := by
 unfold results
 congr 1
theorem Qeo {α β : Type} (P : Program) (w : World) (f : α → Sem β) (x : α) (l : List α) (v : β) (vs : List β) (h0 : (f x).run P w = .ok v w) (h : (l.mapM f).run P w = .ok vs w) :
  ((x :: l).mapM f).run P w = .ok (v :: vs) w := by
 simp [List.mapM_cons, h0, h]
theorem Qg1.mapM {P : Program} {w : World} {fr : Nat → Value} {tmps : Array Value} (hg : ∀ t, tmps.getD t undef = fr t) : ∀ (rs : List ResultVar) (vs : List Value), Qg1 P w fr rs vs →
  (rs.mapM (Qmv tmps)).run P w = .ok vs w
 | [], [], _ => by simp
 | .tmp t :: rs, v :: vs, h => Qeo P w _ _ _ _ _ (by simp [Qmv, hg, h.1]) (Qg1.mapM hg rs vs h.2)
 | .cell t T :: rs, v :: vs, h => Qeo P w _ _ _ _ _ (by obtain ⟨⟨a, h1, h3⟩, _⟩ := h; simp [Qmv, hg, h1, asAddr, h3]) (Qg1.mapM hg rs vs h.2)
 | [], _ :: _, h => h.elim
 | .tmp _ :: _, [], h => h.elim
 | .cell _ _ :: _, [], h => h.elim
theorem Qg1.run {P : Program} {w : World} {fr : Nat → Value} {fn : Func} {tmps : Array Value} (hg : ∀ t, tmps.getD t undef = fr t) {vs : List Value} (h : Qg1 P w fr fn.results.toList vs) :
  (results fn tmps).run P w = .ok (Qb7 vs) w := by
 have hk := Qg1.mapM hg _ _ h
 rw [Qjm, Array.mapM_eq_mapM_toList]
 simp only [Sem.run_bind, Sem.run_map, hk, Result.andThen_ok, Sem.run_pure]
 match vs with
 | [] => simp [Qb7]
 | [v] => simp [Qb7]
 | v :: v' :: vs => simp [Qb7]
def Xz (P : Program) (f : FuncId) (args : Array Value) (w : World) (Φ : Value → World → Prop) : Prop :=
 Calls P f args w fun e w' => ∃ v, e = .returned v ∧ Φ v w'
theorem Xz.mono {P : Program} {f : FuncId} {args : Array Value} {w : World} {Φ Φ' : Value → World → Prop} (h : Xz P f args w Φ) (hm : ∀ v w', Φ v w' → Φ' v w') : Xz P f args w Φ' :=
 Calls.mono h fun _ _ ⟨v, he, hp⟩ => ⟨v, he, hm _ _ hp⟩
def Qqv (P : Program) (rs : List ResultVar) (Φ : Value → World → Prop) : Exit → (Nat → Value) → World → Prop
 | .normal, fr, w | .ret, fr, w => ∃ vs, Qg1 P w fr rs vs ∧ Φ (Qb7 vs) w
 | _, _, _ => False
theorem Qq {P : Program} {rs : List ResultVar} {Φ : Value → World → Prop} {fr : Nat → Value} {w : World} (vs : List Value) (h : Qg1 P w fr rs vs) (hp : Φ (Qb7 vs) w) : Qqv P rs Φ .ret fr w := ⟨vs, h, hp⟩
theorem La {P : Program} {rs : List ResultVar} {Φ : Value → World → Prop} {fr : Nat → Value} {w : World} (vs : List Value) (h : Qg1 P w fr rs vs) (hp : Φ (Qb7 vs) w) : Qqv P rs Φ .normal fr w := ⟨vs, h, hp⟩
theorem Qcz (l : List Value) (k t : Nat) : (l.toArray ++ Array.replicate k undef).getD t undef = l.getD t undef := by
 simp only [ax, Array.getElem?_append, List.size_toArray, List.getElem?_toArray, Array.getElem?_replicate]
 by_cases h : t < l.length
 ·simp [h]
 simp only [h, if_false]
 have : l[t]? = none := by simp; omega
 simp only [List.getD_eq_getElem?_getD, this]
 split <;> rfl
theorem Qz {P : Program} {f : FuncId} {fn : Func} {c : Code} {n : Nat} {rs : List ResultVar} {args : List Value} {w : World} {Φ : Value → World → Prop}
  (hf : P.funcs[f]? = some fn) (hb : fn.body = some c) (hn : fn.ntmps = n) (hr : fn.results = rs.toArray) (hs : Nat.ble args.length n = true)
  (h : CW P n c (Qqv P rs Φ) (initF args) w) : Xz P f args.toArray w Φ := by
 have hs' : args.length ≤ n := bQ hs
 refine calls_of_wp hf hb (Code.wp_mono ?_ (wpIn_wide.1 (h none [] _ ⟨rfl, ?_, ?_⟩)))
 ·rintro e a w' ⟨fr', hfr, q⟩
  cases e with
  | normal => obtain ⟨vs, h1, h2⟩ := q; exact ⟨hfr.defers, _, Qg1.run hfr.get (by rw [hr]; exact h1), _, rfl, h2⟩
  | ret => obtain ⟨vs, h1, h2⟩ := q; exact ⟨hfr.defers, _, Qg1.run hfr.get (by rw [hr]; exact h1), _, rfl, h2⟩
  | _ => exact q.elim
 ·simp [hn]; omega
 intro t; rw [Qcz]; rfl
theorem Xe {P : Program} {fr : Nat → Value} {w : World} {f : FuncId} {fn : Func} {xs : Array Operand} {vs : Array Value} {ts : Array TypeId} {ty : TypeId} {Φ : Value → World → Prop}
  (hf : P.funcs[f]? = some fn) (hb : fn.body.isNone = false) (hnm : (fn.name == "runtime.NumGoroutine") = false) (ha : xs.map (Ql fr) = vs) (h : Xz P f vs w Φ) :
  Vf P fr w (.call ⟨.value (.func f), xs, ts⟩) ty Φ := by
 refine .inr (.inr (.inl ⟨f, vs, w, ?_, h⟩))
 subst ha
 have he : Lp (Ql fr) (.call ⟨.value (.func f), xs, ts⟩) ty = (do let d ← resolve (Ql fr) ⟨.value (.func f), xs, ts⟩ ty; invoke d.target d.args) := rfl
 rw [he]
 have hnm' : ¬ fn.name = "runtime.NumGoroutine" := by simpa using hnm
 have hb' : ¬ fn.body = none := by cases h : fn.body <;> simp_all
 simp [resolve, Ql, Deferred.ofValue, invoke, callFunc, hf, hb', hnm']
structure Rest where
 blk : Nat → Option Obj
 os : Os
 tape : Nat → Question → Nat
 output : Array (Nat × ByteArray)
def Qs (w : World) : Rest := ⟨fun b => w.heap[b]?, w.os, w.tape, w.output⟩
structure Ext (w w' : World) : Prop where
 os : w'.os = w.os
 tape : w'.tape = w.tape
 output : w'.output = w.output
 blk : ∀ (b : Nat) (o : Obj), w.heap[b]? = some o → w'.heap[b]? = some o
theorem Ext.refl (w : World) : Ext w w := ⟨rfl, rfl, rfl, fun _ _ h => h⟩
theorem Ext.trans {a b c : World} (h : Ext a b) (k : Ext b c) : Ext a c := ⟨k.os.trans h.os, k.tape.trans h.tape, k.output.trans h.output, fun _ _ e => k.blk _ _ (h.blk _ _ e)⟩
structure Mem (w : World) (R : Rest) (H : List (Nat × Obj)) : Prop where
 os : w.os = R.os
 tape : w.tape = R.tape
 output : w.output = R.output
 rest : ∀ (b : Nat) (o : Obj), R.blk b = some o → w.heap[b]? = some o
 own : ∀ p ∈ H, w.heap[p.1]? = some p.2
 disj : ∀ p ∈ H, R.blk p.1 = none
 nodup : (H.map (·.1)).Nodup
def Rest.add (R : Rest) (H : List (Nat × Obj)) : Rest := { R with blk := fun b => (H.lookup b).or (R.blk b) }
theorem Qev : ∀ {H : List (Nat × Obj)} {b : Nat} {o : Obj}, (H.map (·.1)).Nodup → (b, o) ∈ H → H.lookup b = some o := by
 intro H
 induction H with
 | nil => intro b o _ h; simp at h
 | cons p H ih =>
  obtain ⟨c, q⟩ := p
  intro b o hn h
  simp only [List.map_cons, List.nodup_cons] at hn
  rcases List.mem_cons.1 h with h' | h'
  ·cases h'; simp [List.lookup]
  have hne : b ≠ c := by intro hbc; subst hbc; exact hn.1 (List.mem_map.2 ⟨(b, o), h', rfl⟩)
  have : (b == c) = false := by simpa using hne
  simp [List.lookup, this, ih hn.2 h']
theorem Rf : ∀ {H : List (Nat × Obj)} {b : Nat} {o : Obj}, H.lookup b = some o → (b, o) ∈ H := by
 intro H
 induction H with
 | nil => intro b o h; simp [List.lookup] at h
 | cons p H ih =>
  obtain ⟨c, q⟩ := p
  intro b o h
  by_cases hb : b = c
  ·subst hb; simp [List.lookup] at h; subst h; simp
  have : (b == c) = false := by simpa using hb
  simp only [List.lookup, this] at h
  exact az _ (ih h)
section
variable {w w' : World} {R : Rest} {H H' : List (Nat × Obj)}
theorem Mem.of_world (w : World) : Mem w (Qs w) [] := ⟨rfl, rfl, rfl, fun _ _ h => h, by simp, by simp, by simp⟩
theorem Mem.below (w0 : World) (h : Mem w (Qs w0) H) : RowKit.Below w0.heap.size w0 w := by
 have hb : ∀ k, k < w0.heap.size → w.heap[k]? = w0.heap[k]? := by
  intro k hk
  have : w0.heap[k]? = some w0.heap[k] := by simp [hk]
  rw [this]; exact h.rest k _ this
 refine ⟨h.os, h.tape, h.output, ?_, hb⟩
 rcases ay w.heap.size w0.heap.size with hlt | hge
 ·have h1 := hb w.heap.size hlt
  simp [hlt] at h1
 exact hge
theorem Mem.ext (h : Mem w R H) (e : Ext w w') : Mem w' R H :=
 ⟨e.os.trans h.os, e.tape.trans h.tape, e.output.trans h.output, fun b o k => e.blk _ _ (h.rest b o k), fun p k => e.blk _ _ (h.own p k), h.disj, h.nodup⟩
theorem Mem.weak (h : Mem w R (H ++ H')) : Mem w R H :=
 ⟨h.os, h.tape, h.output, h.rest, fun p k => h.own p (aS _ k), fun p k => h.disj p (aS _ k), by
  have := h.nodup; rw [dF] at this; exact (List.nodup_append.1 this).1⟩
theorem Mem.perm (h : Mem w R H) (p : H'.Perm H) : Mem w R H' :=
 ⟨h.os, h.tape, h.output, h.rest, fun q k => h.own q (p.mem_iff.1 k), fun q k => h.disj q (p.mem_iff.1 k), ((p.map _).nodup_iff).2 h.nodup⟩
theorem Mem.sub (h : Mem w R H) (p : H'.Sublist H) : Mem w R H' :=
 ⟨h.os, h.tape, h.output, h.rest, fun q k => h.own q (p.mem k), fun q k => h.disj q (p.mem k), h.nodup.sublist (p.map _)⟩
theorem Mem.drew (h : Mem w R H) : Mem { w with drawn := w.drawn + 1 } R H := ⟨h.os, h.tape, h.output, h.rest, h.own, h.disj, h.nodup⟩
theorem Ext.drew (w : World) : Ext w { w with drawn := w.drawn + 1 } := ⟨rfl, rfl, rfl, fun _ _ h => h⟩
theorem Mem.give (h : Mem w R (H ++ H')) : Mem w (R.add H') H := by
 have hn := h.nodup
 rw [dF, List.nodup_append] at hn
 refine ⟨h.os, h.tape, h.output, ?_, fun p k => h.own p (aS _ k), ?_, hn.1⟩
 ·intro b o k
  simp only [Rest.add] at k
  cases hl : H'.lookup b with
  | some o' =>
   rw [hl] at k
   simp at k; subst k
   exact h.own _ (aG _ (Rf hl))
  | none => rw [hl] at k; exact h.rest b o (by simpa using k)
 intro p k
 simp only [Rest.add]
 cases hl : H'.lookup p.1 with
 | some o' =>
  have := Rf hl
  exact absurd rfl (hn.2.2 p.1 (List.mem_map.2 ⟨p, k, rfl⟩) p.1 (List.mem_map.2 ⟨(p.1, o'), this, rfl⟩))
 | none => simp [h.disj p (aS _ k)]
theorem Mem.back {w0 : World} {H0 : List (Nat × Obj)} (h0 : Mem w0 R (H0 ++ H')) (h : Mem w' (R.add H') H) : Mem w' R (H ++ H') := by
 have hn := h0.nodup
 rw [dF, List.nodup_append] at hn
 have hlk : ∀ p ∈ H', H'.lookup p.1 = some p.2 := fun p k => Qev hn.2.1 k
 have hno : ∀ p ∈ H, H'.lookup p.1 = none ∧ R.blk p.1 = none := by
  intro p k
  have := h.disj p k
  simp only [Rest.add] at this
  cases hl : H'.lookup p.1 with
  | some o => rw [hl] at this; simp at this
  | none => rw [hl] at this; simpa using this
 refine ⟨h.os, h.tape, h.output, ?_, ?_, ?_, ?_⟩
 ·intro b o k
  refine h.rest b o ?_
  simp only [Rest.add]
  cases hl : H'.lookup b with
  | some o' => exact absurd k (by rw [h0.disj _ (aG _ (Rf hl))]; simp)
  | none => simpa using k
 ·intro p k
  rcases List.mem_append.1 k with k | k
  ·exact h.own p k
  refine h.rest p.1 p.2 ?_
  simp [Rest.add, hlk p k]
 ·intro p k
  rcases List.mem_append.1 k with k | k
  ·exact (hno p k).2
  exact h0.disj p (aG _ k)
 rw [dF, List.nodup_append]
 refine ⟨h.nodup, hn.2.1, ?_⟩
 intro x hx y hy e
 subst e
 obtain ⟨p, hp, rfl⟩ := List.mem_map.1 hx
 obtain ⟨q, hq, hpq⟩ := List.mem_map.1 hy
 have h1 := (hno p hp).1
 have h2 := hlk q hq
 rw [hpq, h1] at h2
 cases h2
theorem Mem.alloc (h : Mem w R H) (o : Obj) : Mem { w with heap := w.heap.push o } R ((w.heap.size, o) :: H) := by
 have hsz : ∀ (b : Nat) (o : Obj), w.heap[b]? = some o → b < w.heap.size := by
  intro b o hb
  rcases ay b w.heap.size with hlt | hge
  ·exact hlt
  rw [Array.getElem?_eq_none hge] at hb; cases hb
 have hkeep : ∀ (b : Nat) (o' : Obj), w.heap[b]? = some o' → (w.heap.push o)[b]? = some o' := by
  intro b o' hb
  rw [Array.getElem?_push, if_neg (by have := hsz _ _ hb; omega)]; exact hb
 refine ⟨h.os, h.tape, h.output, fun b o' k => hkeep _ _ (h.rest b o' k), ?_, ?_, ?_⟩
 ·intro p k
  rcases List.mem_cons.1 k with k | k
  ·subst k; simp
  exact hkeep _ _ (h.own p k)
 ·intro p k
  rcases List.mem_cons.1 k with k | k
  ·subst k
   cases hr : R.blk w.heap.size with
   | none => rfl
   | some o' => exact absurd (hsz _ _ (h.rest _ _ hr)) (by omega)
  exact h.disj p k
 rw [List.map_cons, List.nodup_cons]
 refine ⟨fun hm => ?_, h.nodup⟩
 obtain ⟨q, hq, he⟩ := List.mem_map.1 hm
 exact absurd (hsz _ _ (h.own q hq)) (by simp only at he; omega)
theorem Ext.alloc (w : World) (o : Obj) : Ext w { w with heap := w.heap.push o } := by
 refine ⟨rfl, rfl, rfl, fun b o' hb => ?_⟩
 have hlt : b < w.heap.size := by
  rcases ay b w.heap.size with hlt | hge
  ·exact hlt
  rw [Array.getElem?_eq_none hge] at hb; cases hb
 show (w.heap.push o)[b]? = some o'
 rw [Array.getElem?_push, if_neg (by omega)]; exact hb
theorem Mem.set {H1 H2 : List (Nat × Obj)} {b : Nat} {o o' : Obj} {hp : Array Obj} (h : Mem w R (H1 ++ (b, o) :: H2)) (he : ∀ k, hp[k]? = if k = b then some o' else w.heap[k]?) :
  Mem { w with heap := hp } R (H1 ++ (b, o') :: H2) := by
 have hn := h.nodup
 have hkeys : (H1 ++ (b, o') :: H2).map (·.1) = (H1 ++ (b, o) :: H2).map (·.1) := by simp
 refine ⟨h.os, h.tape, h.output, ?_, ?_, ?_, by rw [hkeys]; exact hn⟩
 ·intro c q k
  show hp[c]? = some q
  rw [he, if_neg]
  ·exact h.rest c q k
  rintro rfl
  have hd := h.disj (c, o) Ya
  simp only at hd; rw [hd] at k; cases k
 ·intro p k
  show hp[p.1]? = some p.2
  rw [dF, List.map_cons] at hn
  rcases List.mem_append.1 k with k' | k
  ·have hne : p.1 ≠ b := by
    rintro rfl
    exact (List.nodup_append.1 hn).2.2 p.1 (List.mem_map.2 ⟨p, k', rfl⟩) p.1 Ya rfl
   rw [he, if_neg hne]; exact h.own p (aS _ k')
  rcases List.mem_cons.1 k with k | k'
  ·subst k; rw [he, if_pos rfl]
  have hne : p.1 ≠ b := by
   rintro rfl
   have := (List.nodup_append.1 hn).2.1
   rw [List.nodup_cons] at this
   exact this.1 (List.mem_map.2 ⟨p, k', rfl⟩)
  rw [he, if_neg hne]; exact h.own p (aG _ (az _ k'))
 intro p k
 rcases List.mem_append.1 k with k | k
 ·exact h.disj p (aS _ k)
 rcases List.mem_cons.1 k with k | k
 ·subst k; exact h.disj (b, o) Ya
 exact h.disj p (aG _ (az _ k))
theorem Mem.h0 {p : Nat × Obj} (h : Mem w R (p :: H)) : w.heap[p.1]? = some p.2 := h.own p Ya
theorem Mem.h1 {p q : Nat × Obj} (h : Mem w R (q :: p :: H)) : w.heap[p.1]? = some p.2 := h.own p Ya
theorem Mem.h2 {p q r : Nat × Obj} (h : Mem w R (q :: r :: p :: H)) : w.heap[p.1]? = some p.2 := h.own p Ya
theorem Mem.h3 {p q r s : Nat × Obj} (h : Mem w R (q :: r :: s :: p :: H)) : w.heap[p.1]? = some p.2 := h.own p Ya
theorem Mem.h4 {p q r s t : Nat × Obj} (h : Mem w R (q :: r :: s :: t :: p :: H)) : w.heap[p.1]? = some p.2 := h.own p Ya
theorem Mem.h5 {p q r s t u : Nat × Obj} (h : Mem w R (q :: r :: s :: t :: u :: p :: H)) : w.heap[p.1]? = some p.2 := h.own p Ya
end
end --m
end Go.Proofs.YtkmiemlpfkfiiaaDoor
