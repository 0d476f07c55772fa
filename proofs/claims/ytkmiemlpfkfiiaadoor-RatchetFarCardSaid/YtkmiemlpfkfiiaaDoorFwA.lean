/- The framework, part A: frames as functions of slots, weakest preconditions over them, loops, regions. Conditions: none. -/
import Derived.Tactics
import Derived.LoopNIn
import Derived.TacticsIn
import Derived.Laws.Sem
import Derived.KernelRfl
namespace Go.Proofs.YtkmiemlpfkfiiaaDoor
theorem Xh {p : Prop} (h : p := by kernel_rfl) : p := h
theorem Yy {p : Prop} (h : p := by first | rfl | omega) : p := h
theorem Xk {p : Prop} (h : p := by simp) : p := h
theorem Yh {p : Prop} (h : p := by decide) : p := h
abbrev Zj := List (BitVec 8)
abbrev Gp (x : BitVec 8) : Zj := [x, 0#8, 0#8, 0#8, 0#8, 0#8, 0#8, 0#8, 0#8, 0#8, 0#8, 0#8, 0#8, 0#8, 0#8, 0#8, 0#8, 0#8, 0#8, 0#8, 0#8, 0#8, 0#8, 0#8, 0#8, 0#8, 0#8, 0#8, 0#8, 0#8, 0#8, 0#8]
abbrev Jp : Value := .slice none 0 0
def upd (fr : Nat → Value) (d : Nat) (v : Value) : Nat → Value := fun t => bif Nat.beq t d then v else fr t
def Dy (fr : Nat → Value) (d : Option Nat) (v : Value) : Nat → Value := match d with | some d => upd fr d v | none => fr
def Qg (fr : Nat → Value) : Operand → Value
 | .tmp t => fr t
 | .const v => v
 | .global g => .pointer (some ⟨g, 0, none⟩)
 | .func f => .func (.func f) #[] #[]
def initF (args : List Value) : Nat → Value := fun t => args.getD t undef
abbrev FR (rd : Option Nat) : Fence := { fn := fun _ => True, depth := none, alive := false, round := rd }
structure Frm (ds : List Deferred) (a : Act) (n : Nat) (fr : Nat → Value) : Prop where
 defers : a.defers = ds
 size : a.tmps.size = n
 get : ∀ t, a.tmps.getD t undef = fr t
theorem H8 (fr : Nat → Value) (d : Nat) (v : Value) : upd fr d v d = v := by simp [upd]
theorem H9 (fr : Nat → Value) {d t : Nat} (v : Value) (h : t ≠ d) : upd fr d v t = fr t := by
 have : Nat.beq t d = false := by
  cases hb : Nat.beq t d with
  | false => rfl
  | true => exact absurd (Nat.eq_of_beq_eq_true hb) h
 simp [upd, this]
theorem Frm.eval {ds : List Deferred} {a : Act} {n : Nat} {fr : Nat → Value} (h : Frm ds a n fr) : a.eval = Qg fr := by
 funext x; cases x <;> simp [Act.eval, Qg, ← h.get]
theorem Frm.put {ds : List Deferred} {a : Act} {n : Nat} {fr : Nat → Value} (h : Frm ds a n fr) {d : Option Nat} (hd : ∀ x, d = some x → x < n) (v : Value) : Frm ds (a.put d v) n (Dy fr d v) := by
 cases d with
 | none => exact h
 | some d =>
  have hd := hd d rfl
  refine ⟨h.defers, by simp [Act.put, h.size], fun t => ?_⟩
  have hg := h.get t
  simp only [Act.put, Dy]
  by_cases ht : t = d
  ·subst ht
   rw [H8]
   simp [Array.getD_eq_getD_getElem?, h.size, hd]
  rw [H9 _ _ ht, ← hg]
  simp only [Array.getD_eq_getD_getElem?, Array.getElem?_setIfInBounds]
  rw [if_neg (fun e => ht e.symm)]
def frOf (a : Act) : Nat → Value := fun t => a.tmps.getD t undef
theorem Frm.frOf {ds : List Deferred} {a : Act} {n : Nat} {fr : Nat → Value} (h : Frm ds a n fr) : fr = Proofs.YtkmiemlpfkfiiaaDoor.frOf a := funext fun t => (h.get t).symm
def CW (P : Program) (n : Nat) (c : Code) (Q : Exit → (Nat → Value) → World → Prop) (fr : Nat → Value) (w : World) : Prop :=
 ∀ (rd : Option Nat) (ds : List Deferred) (a : Act), Frm ds a n fr → Code.wpIn (FR rd) 0 P c (fun e a' w' => ∃ fr', Frm ds a' n fr' ∧ Q e fr' w') a w
def Si (N : (Nat → Value) → World → Prop) (Q : Exit → (Nat → Value) → World → Prop) : Exit → (Nat → Value) → World → Prop
 | .normal, fr, w => N fr w
 | e, fr, w => Q e fr w
def kBlk (id : Nat) (N : (Nat → Value) → World → Prop) (Q : Exit → (Nat → Value) → World → Prop) : Exit → (Nat → Value) → World → Prop
 | .normal, fr, w => N fr w
 | .exit i, fr, w => bif Nat.beq i id then N fr w else Q (.exit i) fr w
 | e, fr, w => Q e fr w
section
variable {P : Program} {n : Nat} {Q Q' : Exit → (Nat → Value) → World → Prop} {fr : Nat → Value} {w : World}
theorem CW.mono {c : Code} (h : CW P n c Q fr w) (hq : ∀ e fr w, Q e fr w → Q' e fr w) : CW P n c Q' fr w :=
 fun rd ds a ha => Code.wpIn_mono (fun _ _ _ ⟨fr', hf, q⟩ => ⟨fr', hf, hq _ _ _ q⟩) (h rd ds a ha)
theorem Qo (h : Q .normal fr w) : CW P n .skip Q fr w := fun _ _ _ ha => wpIn_skip ⟨fr, ha, h⟩
theorem Yc {i : Nat} (h : Q (.exit i) fr w) : CW P n (.exit i) Q fr w := fun _ _ _ ha => wpIn_exit ⟨fr, ha, h⟩
theorem Zy (h : Q .ret fr w) : CW P n .ret Q fr w := fun _ _ _ ha => wpIn_ret ⟨fr, ha, h⟩
theorem Qc {x y : Code} (h : CW P n x (Si (CW P n y Q) Q) fr w) : CW P n (.seq x y) Q fr w := by
 intro rd ds a ha
 refine wpIn_seq (Code.wpIn_mono ?_ (h rd ds a ha))
 rintro e a' w' ⟨fr', hf, q⟩
 cases e <;> first | exact q rd ds a' hf | exact ⟨fr', hf, q⟩
theorem Xb {c : Operand} {x y : Code} {b : Bool} (hc : Qg fr c = .bool b) (ht : b = true → CW P n x Q fr w) (hf : b = false → CW P n y Q fr w) :
  CW P n (.cond c x y) Q fr w := by
 intro rd ds a ha
 exact wpIn_cond_split (by rw [ha.eval]; exact hc) (fun h => ht h rd ds a ha) (fun h => hf h rd ds a ha)
theorem Qj {i : Nat} {c : Code} {N : (Nat → Value) → World → Prop} (h : CW P n c (kBlk i N Q) fr w) : CW P n (.block i c) (Si N Q) fr w := by
 intro rd ds a ha
 refine wpIn_block (Code.wpIn_mono ?_ (h rd ds a ha))
 rintro e a' w' ⟨fr', hf, q⟩
 cases e with
 | exit j =>
  by_cases hj : j = i
  ·subst hj
   simp only [kBlk, Nat.beq_refl, cond_true] at q
   simp only [Exit.inBlock, if_true]
   exact ⟨fr', hf, q⟩
  have hb : Nat.beq j i = false := by
   cases hb : Nat.beq j i with
   | false => rfl
   | true => exact absurd (Nat.eq_of_beq_eq_true hb) hj
  simp only [kBlk, hb, cond_false] at q
  simp only [Exit.inBlock, if_neg hj]
  exact ⟨fr', hf, q⟩
 | _ => exact ⟨fr', hf, q⟩
theorem Jq {c : Code} (I : (Nat → Value) → World → Prop) (μ : (Nat → Value) → World → Nat) (h₀ : I fr w)
  (round : ∀ fr w, I fr w → CW P n c (Si (fun fr' w' => I fr' w' ∧ μ fr' w' < μ fr w) Q) fr w) : CW P n (.loop c) Q fr w := by
 intro rd ds a ha
 refine wpIn_loop (fun a w => Frm ds a n (frOf a) ∧ I (frOf a) w) (fun a w => μ (frOf a) w) ?_ ?_
 ·rw [← ha.frOf]; exact ⟨ha, h₀⟩
 rintro a w ⟨hf, hI⟩
 refine Code.wpIn_mono ?_ (round _ w hI rd ds a hf)
 rintro e a' w' ⟨fr', hf', q⟩
 cases e with
 | normal =>
  have := hf'.frOf
  subst this
  exact ⟨⟨hf', q.1⟩, q.2⟩
 | _ => exact ⟨fr', hf', q⟩
def CR (P : Program) (n : Nat) (c : Code) (Q : Exit → (Nat → Value) → World → Prop) : Nat → (Nat → Value) → World → Prop
 | 0 => fun _ _ => False
 | k + 1 => CW P n c (Si (CR P n c Q k) Q)
theorem Wu {c : Code} (k : Nat) (h : CR P n c Q k fr w) : CW P n (.loop c) Q fr w := by
 intro rd ds a ha
 refine wpIn_loop_rounds k ?_
 induction k generalizing fr w a with
 | zero => exact h.elim
 | succ k ih =>
  refine Code.wpIn_mono ?_ (h rd ds a ha)
  rintro e a' w' ⟨fr', hf, q⟩
  cases e <;> first | exact ih q a' hf | exact ⟨fr', hf, q⟩
theorem Zh {c : Code} {k : Nat} (h : CW P n c (Si (CR P n c Q k) Q) fr w) : CR P n c Q (k + 1) fr w := h
variable {N : (Nat → Value) → World → Prop}
theorem Qa (h : N fr w) : Si N Q .normal fr w := h
theorem Qr {i : Nat} (h : Q (.exit i) fr w) : Si N Q (.exit i) fr w := h
theorem Y7 (h : Q .ret fr w) : Si N Q .ret fr w := h
theorem Qh {id : Nat} (h : N fr w) : kBlk id N Q .normal fr w := h
theorem Xp {id : Nat} (h : N fr w) : kBlk id N Q (.exit id) fr w := by simpa [kBlk] using h
theorem Qco {id : Nat} (h : Q .ret fr w) : kBlk id N Q .ret fr w := h
theorem Df {i : Nat} {c : Code} (h : CW P n c (kBlk i (Q .normal) Q) fr w) : CW P n (.block i c) Q fr w :=
 (Qj h).mono fun e _ _ q => by cases e <;> exact q
end
def Ew (ρ : Operand → Value) (op : Op) (ty : TypeId) : Sem Next := execOp ρ ⟨none, op, ty, "", #[], none⟩
theorem Qlj (ρ : Operand → Value) (d : Option Tmp) (op : Op) (ty : TypeId) (pos : String) (aft : Array Edge) (g : Option (Nat × Bool)) :
  execOp ρ ⟨d, op, ty, pos, aft, g⟩ = Ew ρ op ty := by cases op <;> rfl
def Yt (P : Program) (fr : Nat → Value) (w : World) (op : Op) (ty : TypeId) (v : Value) : Prop := (Ew (Qg fr) op ty).run P w = .ok (.value v) w
def J8 (P : Program) (fr : Nat → Value) (w : World) (op : Op) (ty : TypeId) (Φ : Value → World → Prop) : Prop :=
 (∃ v w', (Ew (Qg fr) op ty).run P w = .ok (.value v) w' ∧ Φ v w') ∨
 (∃ w', (Ew (Qg fr) op ty).run P w = .ok .skip w' ∧ Φ undef w') ∨
 (∃ f args w', (Ew (Qg fr) op ty).run P w = .ok (.enter f args) w' ∧ Calls P f args w' fun e w'' => ∃ v, e = .returned v ∧ Φ v w'') ∨
 (∃ l f tmps assign body w', (Ew (Qg fr) op ty).run P w = .ok (.round l f tmps assign body) w' ∧ RoundIn (FR none) 0 P l f tmps assign body w' fun e w'' => ∃ v, e = .returned v ∧ Φ v w'')
section
variable {P : Program} {n : Nat} {fr : Nat → Value} {w : World} {op : Op} {ty : TypeId}
theorem Yt.opR {v : Value} (h : Yt P fr w op ty v) : J8 P fr w op ty (fun v' w' => v' = v ∧ w' = w) := .inl ⟨v, w, h, rfl, rfl⟩
theorem J8.mono {Φ Φ' : Value → World → Prop} (h : J8 P fr w op ty Φ) (hm : ∀ v w', Φ v w' → Φ' v w') : J8 P fr w op ty Φ' := by
 rcases h with ⟨v, w', h, p⟩ | ⟨w', h, p⟩ | ⟨f, args, w', h, p⟩ | ⟨l, f, tmps, assign, body, w', h, p⟩
 ·exact .inl ⟨v, w', h, hm _ _ p⟩
 ·exact .inr (.inl ⟨w', h, hm _ _ p⟩)
 ·exact .inr (.inr (.inl ⟨f, args, w', h, p.mono fun e w'' ⟨v, he, hp⟩ => ⟨v, he, hm _ _ hp⟩⟩))
 exact .inr (.inr (.inr ⟨l, f, tmps, assign, body, w', h, p.mono fun e w'' ⟨v, he, hp⟩ => ⟨v, he, hm _ _ hp⟩⟩))
theorem J8.noDefer {Φ : Value → World → Prop} (h : J8 P fr w op ty Φ) : ∀ c, op ≠ .defer c := by
 rintro c rfl
 have e : Ew (Qg fr) (.defer c) ty = (do pure (.defer (← resolve (Qg fr) c ty))) := rfl
 rcases h with ⟨v, w', h, _⟩ | ⟨w', h, _⟩ | ⟨f, args, w', h, _⟩ | ⟨l, f, tmps, assign, body, w', h, _⟩ <;>
  ·rw [e, Sem.run_bind] at h
   cases hr : (resolve (Qg fr) c ty).run P w with
   | ok d w1 => rw [hr] at h; simp at h
   | halt x w1 => rw [hr] at h; cases h
theorem J8.wp {rd : Option Nat} {ds : List Deferred} {Φ : Value → World → Prop} (h : J8 P fr w op ty Φ) {a : Act} (ha : Frm ds a n fr) {d : Option Tmp} {pos : String} {aft : Array Edge} {g : Option (Nat × Bool)}
  {next : Act → World → Prop} {Q : Exit → Act → World → Prop} (hn : ∀ v w', Φ v w' → next (a.put d v) w') : (⟨d, op, ty, pos, aft, g⟩ : Oper).wpIn (FR rd) 0 P a w next Q := by
 unfold Oper.wpIn
 refine ⟨fun _ _ => trivial, ?_⟩
 rw [Oper.semAt_eq _ _ _ h.noDefer, ha.eval, Qlj]
 rcases h with ⟨v, w', h, p⟩ | ⟨w', h, p⟩ | ⟨f, args, w', h, p⟩ | ⟨l, f, tmps, assign, body, w', h, p⟩
 ·rw [h]; exact hn _ _ p
 ·rw [h]; exact hn _ _ p
 ·rw [h]
  refine ⟨fun h => by simp at h, ?_⟩
  have hc : CallsIn (FR rd) (0 - 1) P f args w' fun e w'' => ∃ v, e = .returned v ∧ Φ v w'' := callsIn_wide.2 p
  exact hc.mono fun e w'' ⟨v, he, hp⟩ => by subst he; exact hn _ _ hp
 rw [h]
 refine ⟨fun h => by simp at h, ?_⟩
 have hc : RoundIn (FR rd) (0 - 1) P l f tmps assign body w' fun e w'' => ∃ v, e = .returned v ∧ Φ v w'' := p
 exact hc.mono fun e w'' ⟨v, he, hp⟩ => by subst he; exact hn _ _ hp
end
def RW (P : Program) (n : Nat) (ops : Array Oper) (l : List Oper) (K : (Nat → Value) → World → Prop) (fr : Nat → Value) (w : World) : Prop :=
 ∀ (rd : Option Nat) (ds : List Deferred) (a : Act), Frm ds a n fr → ∀ Q : Exit → Act → World → Prop, (∀ a' fr' w', Frm ds a' n fr' → K fr' w' → Q .normal a' w') → wpListIn (FR rd) 0 P ops Q l a w
section
variable {P : Program} {n : Nat} {ops : Array Oper} {rest : List Oper} {K : (Nat → Value) → World → Prop} {fr : Nat → Value} {w : World} {op : Op} {ty : TypeId} {pos : String} {aft : Array Edge}
theorem Zo (h : K fr w) : RW P n ops [] K fr w := fun _ _ a ha _ hQ => hQ a fr w ha h
theorem Qb {id : Nat} {l : List Oper} {Q : Exit → (Nat → Value) → World → Prop} (h : RW P n l.toArray l (fun fr w => Q .normal fr w) fr w) : CW P n (.region id l.toArray false) Q fr w :=
 fun rd ds a ha => wpIn_region_lit (h rd ds a ha _ fun _ fr' _ hf hq => ⟨fr', hf, hq⟩)
theorem RW.mono {K' : (Nat → Value) → World → Prop} {l : List Oper} (h : RW P n ops l K fr w) (hk : ∀ fr w, K fr w → K' fr w) : RW P n ops l K' fr w :=
 fun rd ds a ha Q hQ => h rd ds a ha Q fun a' fr' w' hf hK => hQ a' fr' w' hf (hk _ _ hK)
theorem Aw {d : Nat} (hd : Nat.blt d n = true) : ∀ x, (some d : Option Nat) = some x → x < n := by
 rintro x ⟨⟩; exact Nat.le_of_ble_eq_true hd
theorem rw_c {d : Nat} {Φ : Value → World → Prop} (hd : Nat.blt d n = true) (h : J8 P fr w op ty Φ) (k : ∀ v w', Φ v w' → RW P n ops rest K (upd fr d v) w') :
  RW P n ops (⟨some d, op, ty, pos, aft, none⟩ :: rest) K fr w := by
 intro rd ds a ha Q hQ
 unfold wpListIn
 rw [if_pos (by simp [Region.wanted])]
 exact (h.wp ha fun v w' hp => k v w' hp rd ds _ (ha.put (d := some d) (Aw hd) v) Q hQ)
theorem rw_q {d : Nat} {v : Value} (hd : Nat.blt d n = true) (h : Yt P fr w op ty v) (k : RW P n ops rest K (upd fr d v) w) :
  RW P n ops (⟨some d, op, ty, pos, aft, none⟩ :: rest) K fr w := rw_c hd h.opR (by rintro _ _ ⟨rfl, rfl⟩; exact k)
theorem Ve {Φ : Value → World → Prop} (h : J8 P fr w op ty Φ) (k : ∀ v w', Φ v w' → RW P n ops rest K fr w') :
  RW P n ops (⟨none, op, ty, pos, aft, none⟩ :: rest) K fr w := by
 intro rd ds a ha Q hQ
 unfold wpListIn
 rw [if_pos (by simp [Region.wanted])]
 exact (h.wp ha fun v w' hp => k v w' hp rd ds _ ha Q hQ)
theorem Qbm {ds : List Deferred} {a : Act} {j s : Nat} {b : Bool} (ha : Frm ds a n fr) (hj : (ops[j]?).bind (·.dst) = some s) (hs : fr s = .bool b) : yielded ops a.tmps j = some b := by
 have hg := ha.get s
 rw [hs, Array.getD_eq_getD_getElem?] at hg
 unfold yielded
 rw [hj]
 cases h : a.tmps[s]? with
 | none => rw [h] at hg; simp [undef] at hg
 | some v => rw [h] at hg; simp at hg; subst hg; simp [h]
theorem rw_gy {d j s : Nat} {b want : Bool} {Φ : Value → World → Prop} (hj : (ops[j]?).bind (·.dst) = some s) (hs : fr s = .bool b) (hb : b = want) (hd : Nat.blt d n = true) (h : J8 P fr w op ty Φ)
  (k : ∀ v w', Φ v w' → RW P n ops rest K (upd fr d v) w') : RW P n ops (⟨some d, op, ty, pos, aft, some (j, want)⟩ :: rest) K fr w := by
 intro rd ds a ha Q hQ
 unfold wpListIn
 rw [if_pos (by simp [Region.wanted, Qbm ha hj hs, hb])]
 exact (h.wp ha fun v w' hp => k v w' hp rd ds _ (ha.put (d := some d) (Aw hd) v) Q hQ)
theorem Na {d j s : Nat} {b want : Bool} (hj : (ops[j]?).bind (·.dst) = some s) (hs : fr s = .bool b) (hb : b = !want) (hd : Nat.blt d n = true)
  (k : RW P n ops rest K (upd fr d undef) w) : RW P n ops (⟨some d, op, ty, pos, aft, some (j, want)⟩ :: rest) K fr w := by
 intro rd ds a ha Q hQ
 unfold wpListIn
 rw [if_neg (by simp [Region.wanted, Qbm ha hj hs, hb])]
 exact ⟨fun _ _ => trivial, k rd ds _ (ha.put (d := some d) (Aw hd) _) Q hQ⟩
end
end Go.Proofs.YtkmiemlpfkfiiaaDoor
