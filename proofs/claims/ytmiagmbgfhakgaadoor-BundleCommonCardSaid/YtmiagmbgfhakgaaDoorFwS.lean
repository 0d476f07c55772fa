/- The framework, part S: a row of whatever bytes (internal/bytealg.MakeNoZero), copies into the middle of an own row, slices of an array inside a struct, equality of structs of arrays. Conditions: none. -/
import Derived.Test.YtmiagmbgfhakgaaDoorFwR
import Derived.Lib.MakeNoZero
namespace Go.Proofs.YtmiagmbgfhakgaaDoor
set_option linter.unusedSimpArgs false
set_option linter.unusedVariables false

theorem digits_cl : ∀ (n t : Nat) (m : List (BitVec 8)), ∃ q : List (BitVec 8), q.length = n ∧ Extern.BytealgMakeNoZero.digits n t (cl u8 m) = cl u8 (m ++ q)
  | 0, t, m => ⟨[], rfl, by rw [List.append_nil]; rfl⟩
  | n + 1, t, m => by
    obtain ⟨q, h1, h2⟩ := digits_cl n (t / 256) (m ++ [BitVec.ofNat 8 t])
    refine ⟨BitVec.ofNat 8 t :: q, by simp [h1], ?_⟩
    rw [Extern.BytealgMakeNoZero.digits]
    have e : (cl u8 m).push (.int .u8 (Int.ofNat (t % 256))) = cl u8 (m ++ [BitVec.ofNat 8 t]) := by
      apply Array.ext'
      simp [cl, u8]
    rw [e, h2, List.append_assoc]; rfl
section
variable {P : Program} {fr : Nat → Value} {w : World} {ty T U E A : TypeId} {x y : Operand} {R : Rest} {H Hs : List (Nat × Obj)}
theorem run_noZero (ps : Array TypeId) (t e : TypeId) (ht : P.underlying t = some (.slice e)) (n : Nat) (hn : n ≤ 281474976710656) :
    ∃ m : List (BitVec 8), n ≤ m.length ∧ (Extern.BytealgMakeNoZero.makeNoZero ps #[t] #[.int .i64 n]).run P w = .ok (.slice (some ⟨w.heap.size, 0, none⟩) n m.length) (w.drew.drew.alloc (.cells (cl u8 m) e)) := by
  have key : ∃ k, (Extern.BytealgMakeNoZero.makeNoZero ps #[t] #[.int .i64 n]).run P w = .ok (.slice (some ⟨w.heap.size, 0, none⟩) n (Extern.BytealgMakeNoZero.digits (grownCap w n 0 e) k #[]).size) (w.drew.drew.alloc (.cells (Extern.BytealgMakeNoZero.digits (grownCap w n 0 e) k #[]) e)) := by
    have h1 : ¬ (n : Int) < 0 := by omega
    have h2 : ¬ (281474976710656 : Int) < (n : Int) := by omega
    have hdef : Extern.BytealgMakeNoZero.makeNoZero ps #[t] #[.int .i64 n] =
        (do
          let .slice elem ← underlying t | stuck _
          if (n : Int) < 0 || (n : Int) > 2 ^ 48 then runtimePanic _
          let cap ← choose (.appendCap (n : Int).toNat 0 elem)
          askRoom cap
          let bytes ← choose _
          let a ← newRow elem (Extern.BytealgMakeNoZero.digits cap bytes #[])
          pure (.slice (some a) (n : Int).toNat cap)) := rfl
    rw [hdef]
    simp [run_underlying ht, h1, h2, Question.forced, newRow, Lib.size_digits, grownCap]
    exact ⟨_, rfl⟩
  obtain ⟨k, hk⟩ := key
  obtain ⟨m, h3, h4⟩ := digits_cl (grownCap w n 0 e) k []
  have h5 : Extern.BytealgMakeNoZero.digits (grownCap w n 0 e) k #[] = cl u8 m := h4
  refine ⟨m, by rw [h3]; simpa using grownCap_ge w n 0 e, ?_⟩
  rw [hk, h5]; simp [cl]
theorem or_noZero {g : FuncId} {fn : Func} {ps : Array TypeId} {ts : Array TypeId} {i : Int} {n : Nat} (hm : Mem w R H) (hf : P.funcs[g]? = some fn) (hnm : (fn.name == "runtime.NumGoroutine") = false) (hb : fn.body.isNone = true) (hn : Extern.findNext fn = none) (he : Extern.find fn = some (Extern.BytealgMakeNoZero.makeNoZero ps #[T]))
    (hT : P.underlying T = some (.slice E)) (hx : evalF fr x = i64 i) (hi : i = (n : Int)) (hle : n ≤ 281474976710656) :
    OpR P fr w (.call ⟨.value (.func g), #[x], ts⟩) ty (fun v w' => ∃ m Hs, m.length = n ∧ Grow u8 E v m Hs ∧ Mem w' R (Hs ++ H)) := by
  subst hi
  obtain ⟨m, h1, h2⟩ := run_noZero (P := P) (w := w) ps T E hT n hle
  have h3 := run_callFunc_extern (P := P) hf hnm hb hn he #[i64 (n : Int)] w
  have h3' : (callFunc g #[i64 (n : Int)]).run P w = _ := h3
  simp only [i64] at h3'
  rw [h2] at h3'
  refine .inl ⟨slc w.heap.size 0 n m.length, w.drew.drew.alloc (.cells (cl u8 m) E), ?_, m.take n, [(w.heap.size, .cells (cl u8 m) E (0, 0))], by simp [h1], Grow.made u8 E _ m n h1, ?_⟩
  · have e : xop (evalF fr) (.call ⟨.value (.func g), #[x], ts⟩) ty = (do let d ← resolve (evalF fr) ⟨.value (.func g), #[x], ts⟩ ty; invoke d.target d.args) := rfl
    rw [e]
    have hg : evalF fr (.func g) = .func (.func g) #[] #[] := rfl
    simp only [Result.andThen] at h3'
    simp [resolve, hg, Deferred.ofValue, invoke, hx, i64, h3', slc]
  · exact Mem.alloc (w := w.drew.drew) hm.drew.drew _
theorem subv0 {α : Type} {f : α → Value} {v : Value} {l : List α} (g : Grow f E v l Hs) (hl : 0 < l.length) : v = subv v 0 (l.length : Int) := by
  rcases g with ⟨⟨a, rfl⟩, rfl, rfl⟩ | ⟨b, pre, sp, post, rfl, rfl⟩
  · simp at hl
  · have : ¬ l.length + sp.length = 0 := by omega
    simp [subv, slc, this, Addr.add]
theorem or_copy_grow {α : Type} {f : α → Value} {v u : Value} {d base ms : List α} {i j q : Int} {z : Option Value} {kb : Nat} {E' T' : TypeId} (hm : Mem w R (Hs ++ H)) (g : Grow f E' v (d ++ base.drop d.length) Hs) (hx : evalF fr x = subv v i j) (hi : i = (d.length : Int)) (hj : j = (base.length : Int)) (hy : evalF fr y = u) (hr : Rd (blks w) f u ms)
    (hT : P.underlying T = some (.slice E)) (hti : tinf P E = some (z, 1, kb)) (hf : ∀ a, (f a).oneCell' = true) (hlt : d.length < base.length) (hle : d.length + ms.length ≤ base.length) (hq : (ms.length : Int) = q) :
    OpR P fr w (.call ⟨.builtin .copy, #[x, y], #[T, T']⟩) ty (fun v' w' => v' = i64 q ∧ ∃ Hs', Grow f E' v ((d ++ ms) ++ base.drop (d ++ ms).length) Hs' ∧ Mem w' R (Hs' ++ H)) := by
  subst hq hi hj
  have hL : (d ++ base.drop d.length).length = base.length := by simp; omega
  rcases g with ⟨⟨a, rfl⟩, h0, rfl⟩ | ⟨b, pre, sp, post, rfl, rfl⟩
  · rw [h0] at hL; simp at hL; omega
  · have hcap : ¬ (base.length + sp.length = d.length) := by omega
    have hx2 : evalF fr x = slc b (pre.length + d.length) (base.length - d.length) (base.length + sp.length - d.length) := by
      rw [hx, hL]; simp [subv, slc, hcap, Addr.add]
    have hb : w.heap[b]? = some (.cells (pre ++ ((d ++ base.drop d.length).map f ++ (sp ++ post))).toArray E' (0, 0)) := hm.own (b, _) (by simp)
    have hmin : min ms.length (base.length - d.length) = ms.length := by omega
    have hsz : (pre ++ ((d ++ base.drop d.length).map f ++ (sp ++ post))).toArray.size = pre.length + (base.length + (sp.length + post.length)) := by
      simp only [List.size_toArray, List.length_append, List.length_map]; rw [← List.length_append, hL]
    refine (or_copy (T' := T') hx2 hy hr hT hti hf hb (by rw [hsz, hmin]; omega) (by simp)).mono ?_
    rintro v' w' ⟨h1, h2⟩
    rw [hmin, List.take_of_length_le (Nat.le_refl _)] at h2
    rw [hmin] at h1
    refine ⟨h1, [(b, .cells (pre ++ (((d ++ ms) ++ base.drop (d ++ ms).length).map f ++ (sp ++ post))).toArray E' (0, 0))], .inr ⟨b, pre, sp, post, ?_, rfl⟩, ?_⟩
    · have : ((d ++ ms) ++ base.drop (d ++ ms).length).length = (d ++ base.drop d.length).length := by simp; omega
      rw [this]
    · have e : ovr (pre ++ ((d ++ base.drop d.length).map f ++ (sp ++ post))).toArray (pre.length + d.length) (ms.map f) = (pre ++ (((d ++ ms) ++ base.drop (d ++ ms).length).map f ++ (sp ++ post))).toArray := by
        apply Array.ext'
        rw [ovr_toList _ _ _ (by rw [hsz, List.length_map]; omega)]
        have e1 : (pre ++ ((d ++ base.drop d.length).map f ++ (sp ++ post))) = (pre ++ d.map f) ++ ((base.drop d.length).map f ++ (sp ++ post)) := by simp
        have e2 : (pre ++ d.map f).length = pre.length + d.length := by simp
        simp only [e1, ← e2]
        rw [List.take_left, ← List.drop_drop, List.drop_left, List.length_map, List.drop_append_of_le_length (by rw [List.length_map, List.length_drop]; omega), ← List.map_drop, List.drop_drop]
        simp
      rw [e] at h2
      exact Mem.upd0 hm h2
end
end Go.Proofs.YtmiagmbgfhakgaaDoor

