/- Writes: plain law. Conditions: none beyond those that each theorem states. -/
import Derived.Test.YtfbnhoolkajebaaTab
import Derived.Test.YtfbnhoolkajebaaFwa
import Derived.Test.YtfbnhoolkajebaaFwc
import Derived.Test.YtfbnhoolkajebaaFwd
import Derived.Test.YtfbnhoolkajebaaFwM
import Derived.Test.YtfbnhoolkajebaaFwL
namespace Go.Proofs.Ytfbnhoolkajebaa
set_option linter.unusedVariables false
set_option linter.unusedSimpArgs false
/-! ### Writes, plainly -/
structure WriteT where
  at_ : Int
  b : List (BitVec 8)
def encW (w : WriteT) : List Value := ([[i64 w.at_], w.b.map u8] : List (List Value)).flatten
def write0 : WriteT := ⟨0, []⟩
theorem encW_len {w : WriteT} (h : w.b.length = 64) : (encW w).length = 65 := by simp [encW, h]
theorem encW_one (w : WriteT) : (encW w).all (·.oneCell') = true := by
  simp only [encW, List.flatten_cons, List.flatten_nil, List.append_nil, List.all_append, List.all_cons, List.all_nil, Bool.and_true]
  rw [Bool.and_eq_true]
  refine ⟨rfl, ?_⟩
  rw [List.all_eq_true]; intro v hv; obtain ⟨a, _, rfl⟩ := List.mem_map.1 hv; rfl
theorem encW_b {m : Nat → Option Obj} {v : Value} {ps : List WriteT} (h : RdK m encW 65 v ps) {i : Nat} (hi : i < ps.length) : (ps.getD i write0).b.length = 64 := by
  have e : ps.getD i write0 = ps[i] := by simp [List.getD_eq_getElem?_getD, hi]
  rw [e]
  have := h.len ps[i] (by simp)
  simpa [encW] using this
theorem encA_b {m : Nat → Option Obj} {v : Value} {ls : List (List (BitVec 8))} (h : RdK m (encA u8) 64 v ls) {i : Nat} (hi : i < ls.length) : (ls.getD i []).length = 64 := by
  have e : ls.getD i [] = ls[i] := by simp [List.getD_eq_getElem?_getD, hi]
  rw [e]
  have := h.len ls[i] (by simp)
  simpa [encA] using this
def inB (ls : List (List (BitVec 8))) (n : Int) : Bool := decide (0 ≤ n) && decide (n < (ls.length : Int))
def errB (ls : List (List (BitVec 8))) (n : Int) : Int := if inB ls n then 0 else 2
def pushB (ls : List (List (BitVec 8))) (ps : List WriteT) (n : Int) (b : List (BitVec 8)) : List WriteT := if inB ls n then ps ++ [⟨n, b⟩] else ps
/-- How many of a block's first bytes are new. -/
def cutN (p : BitVec 8) : Nat := if p.toNat % 3 = 1 then 64 else if p.toNat % 3 = 2 then p.toNat / 3 % 64 else 0
def putW (ls : List (List (BitVec 8))) (w : WriteT) (c : Nat) : List (List (BitVec 8)) := ls.set w.at_.toNat (w.b.take c ++ (ls.getD w.at_.toNat []).drop c)
def picksB (q : List (BitVec 8)) : List (BitVec 8) := if q.length = 0 then [0] else q
def crashK (ls : List (List (BitVec 8))) (ps : List WriteT) (q : List (BitVec 8)) : Nat → List (List (BitVec 8))
  | 0 => ls
  | k + 1 => putW (crashK ls ps q k) (ps.getD k write0) (cutN (q.getD (k % q.length) 0))
theorem crashK_len {ls : List (List (BitVec 8))} {ps : List WriteT} {q : List (BitVec 8)} : ∀ k, (crashK ls ps q k).length = ls.length
  | 0 => rfl
  | k + 1 => by show (putW _ _ _).length = _; unfold putW; rw [List.length_set, crashK_len k]
def crashB (ls : List (List (BitVec 8))) (ps : List WriteT) (q : List (BitVec 8)) : List (List (BitVec 8)) := crashK ls ps (picksB q) ps.length
/-- The block that is seen. -/
def seenW (ps : List WriteT) (n : Int) (d : List (BitVec 8)) : List (BitVec 8) := match ps.reverse.find? (fun w => w.at_ == n) with | some w => w.b | none => d
def readB (ls : List (List (BitVec 8))) (ps : List WriteT) (n : Int) : List (BitVec 8) := if inB ls n then seenW ps n (ls.getD n.toNat []) else List.replicate 64 0
theorem seen_none {ps : List WriteT} {n : Int} {d : List (BitVec 8)} (h : ∀ i, i < ps.length → (ps.getD i write0).at_ ≠ n) : seenW ps n d = d := by
  have : ps.reverse.find? (fun w => w.at_ == n) = none := by
    rw [List.find?_eq_none]
    intro x hx
    obtain ⟨i, hi, rfl⟩ := List.mem_iff_getElem.1 (List.mem_reverse.1 hx)
    have := h i hi
    simpa [List.getD_eq_getElem?_getD, hi] using this
  unfold seenW; rw [this]
theorem seen_hit {ps : List WriteT} {n : Int} {d : List (BitVec 8)} {i : Nat} (hi : i < ps.length) (h : (ps.getD i write0).at_ = n) (h2 : ∀ j, i < j → j < ps.length → (ps.getD j write0).at_ ≠ n) : seenW ps n d = (ps.getD i write0).b := by
  have e : ps.getD i write0 = ps[i] := by simp [List.getD_eq_getElem?_getD, hi]
  have hs : ps = ps.take i ++ (ps[i] :: ps.drop (i + 1)) := by rw [← List.drop_eq_getElem_cons hi, List.take_append_drop]
  have hn : (ps.drop (i + 1)).reverse.find? (fun w => w.at_ == n) = none := by
    rw [List.find?_eq_none]
    intro x hx
    obtain ⟨j, hj, rfl⟩ := List.mem_iff_getElem.1 (List.mem_reverse.1 hx)
    rw [List.length_drop] at hj
    have := h2 (i + 1 + j) oM oM
    rw [List.getElem_drop]
    simpa [List.getD_eq_getElem?_getD, show i + 1 + j < ps.length by omega] using this
  have : ps.reverse.find? (fun w => w.at_ == n) = some ps[i] := by
    conv => lhs; rw [hs]
    rw [List.reverse_append, List.reverse_cons, List.find?_append, List.find?_append, hn, List.find?_cons_of_pos (by simpa using e ▸ h)]; rfl
  unfold seenW; rw [this, e]
theorem encW_b2 {ps : List WriteT} (h : ∀ a ∈ ps, (encW a).length = 65) {i : Nat} (hi : i < ps.length) : (ps.getD i write0).b.length = 64 := by
  have e : ps.getD i write0 = ps[i] := by simp [List.getD_eq_getElem?_getD, hi]
  rw [e]
  have := h ps[i] (by simp)
  simpa [encW] using this
theorem picks_0 {q : List (BitVec 8)} (h : q.length = 0) : [0#8] = picksB q := by unfold picksB; rw [if_pos h]; rfl
theorem picks_n {q : List (BitVec 8)} (h : q.length ≠ 0) : q = picksB q := by unfold picksB; rw [if_neg h]
theorem picks_pos (q : List (BitVec 8)) : 0 < (picksB q).length ∧ (picksB q).length ≤ q.length + 1 := by
  unfold picksB
  by_cases h : q.length = 0
  · rw [if_pos h]; simp
  · rw [if_neg h]; omega
theorem rem3 (p : BitVec 8) : (p % 3#8).toNat = p.toNat % 3 := by rw [BitVec.toNat_umod]; rfl
theorem quo3 (p : BitVec 8) : (p / 3#8).toNat = p.toNat / 3 := by rw [BitVec.toNat_udiv]; rfl
theorem rem_t {p : BitVec 8} {c : BitVec 8} (h : (p % 3#8 == c) = true) : p.toNat % 3 = c.toNat := by
  rw [← rem3]; exact congrArg BitVec.toNat (by simpa using h)
theorem rem_f {p : BitVec 8} {c : BitVec 8} (h : (p % 3#8 == c) = false) : p.toNat % 3 ≠ c.toNat := by
  rw [← rem3]; intro e; exact absurd (BitVec.eq_of_toNat_eq e) (by simpa using h)
theorem cut_1 {p : BitVec 8} (h : (p % 3#8 == 1#8) = true) : (64 : Int).toNat = cutN p := by
  have := rem_t h; unfold cutN; rw [if_pos (by simpa using this)]; rfl
theorem cut_2 {p : BitVec 8} (h1 : (p % 3#8 == 1#8) = false) (h : (p % 3#8 == 2#8) = true) : ((((p / 3#8).toNat : Int) % 64 : Int)).toNat = cutN p := by
  have e := rem_t h; have e1 := rem_f h1
  unfold cutN
  rw [if_neg (by simpa using e1), if_pos (by simpa using e), quo3]; omega
theorem cut_0 {p : BitVec 8} (h1 : (p % 3#8 == 1#8) = false) (h : (p % 3#8 == 2#8) = false) : (0 : Int).toNat = cutN p := by
  have e := rem_f h; have e1 := rem_f h1
  unfold cutN
  rw [if_neg (by simpa using e1), if_neg (by simpa using e)]; rfl
theorem crash_step {ls : List (List (BitVec 8))} {ps : List WriteT} {qs : List (BitVec 8)} {k n : Nat} {c : Int} (hn : (k : Int) % (qs.length : Int) = (n : Int)) (hc : c.toNat = cutN (qs.getD n 0)) :
    (crashK ls ps qs k).set ((ps.getD k write0).at_).toNat (((ps.getD k write0).b).take c.toNat ++ ((crashK ls ps qs k).getD ((ps.getD k write0).at_).toNat []).drop c.toNat) = crashK ls ps qs (k + 1) := by
  have e : k % qs.length = n := by
    have : ((k % qs.length : Nat) : Int) = (n : Int) := by rw [← hn]; rfl
    exact Int.ofNat.inj this
  show _ = putW (crashK ls ps qs k) (ps.getD k write0) (cutN (qs.getD (k % qs.length) 0))
  unfold putW
  rw [e, hc]
theorem inB_t {ls : List (List (BitVec 8))} {n : Int} (h : inB ls n = true) : 0 ≤ n ∧ n < (ls.length : Int) := by
  unfold inB at h
  rw [Bool.and_eq_true] at h
  exact ⟨of_decide_eq_true h.1, of_decide_eq_true h.2⟩
theorem ok_step {ok : Nat → Prop} {k k1 n : Nat} (hok : ∀ j, k ≤ j → j < n → ok j) (hk1 : (k : Int) - 1 = (k1 : Int)) (h : ok k1) : ∀ j, k1 ≤ j → j < n → ok j := fun j h1 h2 => by
  rcases Nat.lt_or_ge k1 j with h3 | h3
  · exact hok j oM h2
  · have : j = k1 := by omega
    rw [this]; exact h
theorem inB_of {ls : List (List (BitVec 8))} {n : Int} (h0 : 0 ≤ n) (h1 : n < (ls.length : Int)) : inB ls n = true := by unfold inB; rw [decide_eq_true h0, decide_eq_true h1]; rfl
theorem told_true {α : Type} [BEq α] [LawfulBEq α] {a b : α} (h : a = b) : (a == b) = true := by rw [h]; exact beq_self_eq_true b
theorem told_ne {α : Type} [BEq α] [LawfulBEq α] {a b : α} (h : a = b) : (a != b) = false := by rw [h]; simp
theorem crashB_len {ls : List (List (BitVec 8))} {ps : List WriteT} {q : List (BitVec 8)} : (crashB ls ps q).length = ls.length := crashK_len _


end Go.Proofs.Ytfbnhoolkajebaa
