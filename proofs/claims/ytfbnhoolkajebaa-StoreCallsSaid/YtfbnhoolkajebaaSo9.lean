/- The kit's contracts of maps and sorting, laid at this program. Conditions: none beyond those that each theorem states. -/
import Derived.Test.YtfbnhoolkajebaaSo8
namespace Go.Proofs.Ytfbnhoolkajebaa
set_option linter.unusedVariables false
set_option linter.unusedSimpArgs false
open Go.ChangeShapes Go.WideShapes Go.ChangeAt Go.RowKit
def mcloneRen : Go.Shelf.Ren := ⟨fun | 5 => 63 | 7 => 78 | n => n, fun | 23 => 116 | 25 => 9 | 3 => 23 | 4 => 4 | 20 => 20 | n => n, fun n => n⟩
theorem mcloneLay : SlLaysW.n5 Try.prog mcloneRen := {
  mixed := by kernel_rfl
  f5 := ⟨ "maps.Clone[map[string][]byte,string,[]byte]", by decide, Try.func63.trans (congrArg some (by kernel_rfl))⟩
  f7 := Try.func78.trans (congrArg some (by kernel_rfl))
  t4 := uT4
  a4 := Try.isAgg4
  z4 := Try.sizeOf4
  v4 := Try.zeroValue4
  t20 := uT20
  a20 := Try.isAgg20
  z20 := Try.sizeOf20
  v20 := Try.zeroValue20
  t23 := uT116
  a23 := Try.isAgg116
  z23 := Try.sizeOf116
  v23 := Try.zeroValue116 }
def msortRen : Go.Shelf.Ren := ⟨fun | 6 => 66 | 8 => 83 | 9 => 82 | 19 => 100 | 20 => 101 | 21 => 91 | 22 => 92 | 23 => 93 | 24 => 94 | 25 => 95 | 26 => 96 | 27 => 97 | 28 => 98 | 29 => 99 | 36 => 103 | 31 => 104 | 32 => 105 | 37 => 106 | 38 => 107 | 39 => 108 | 41 => 109 | n => n, fun | 27 => 76 | 29 => 9 | 3 => 3 | 32 => 113 | 26 => 76 | 0 => 0 | 44 => 159 | 46 => 95 | 4 => 4 | 36 => 152 | 35 => 151 | 41 => 156 | 5 => 5 | 9 => 9 | 53 => 162 | 57 => 166 | 63 => 168 | 64 => 169 | n => n, fun n => n⟩
theorem msortLay : SlLaysM.n6 Try.prog msortRen := {
  mixed := by kernel_rfl
  f6 := ⟨ "slices.Sort[[]string,string]", by decide, Try.func66.trans (congrArg some (by kernel_rfl))⟩
  f8 := Try.func83.trans (congrArg some (by kernel_rfl))
  f9 := ⟨ "slices.pdqsortOrdered[string]", by decide, Try.func82.trans (congrArg some (by kernel_rfl))⟩
  f19 := Try.func100.trans (congrArg some (by kernel_rfl))
  f20 := Try.func101.trans (congrArg some (by kernel_rfl))
  f21 := ⟨ "slices.insertionSortOrdered[string]", by decide, Try.func91.trans (congrArg some (by kernel_rfl))⟩
  f22 := ⟨ "slices.heapSortOrdered[string]", by decide, Try.func92.trans (congrArg some (by kernel_rfl))⟩
  f23 := ⟨ "slices.breakPatternsOrdered[string]", by decide, Try.func93.trans (congrArg some (by kernel_rfl))⟩
  f24 := ⟨ "slices.choosePivotOrdered[string]", by decide, Try.func94.trans (congrArg some (by kernel_rfl))⟩
  f25 := ⟨ "slices.reverseRangeOrdered[string]", by decide, Try.func95.trans (congrArg some (by kernel_rfl))⟩
  f26 := ⟨ "slices.partialInsertionSortOrdered[string]", by decide, Try.func96.trans (congrArg some (by kernel_rfl))⟩
  f27 := ⟨ "cmp.Less[string]", by decide, Try.func97.trans (congrArg some (by kernel_rfl))⟩
  f28 := ⟨ "slices.partitionEqualOrdered[string]", by decide, Try.func98.trans (congrArg some (by kernel_rfl))⟩
  f29 := ⟨ "slices.partitionOrdered[string]", by decide, Try.func99.trans (congrArg some (by kernel_rfl))⟩
  f31 := Try.func104.trans (congrArg some (by kernel_rfl))
  f32 := Try.func105.trans (congrArg some (by kernel_rfl))
  f36 := ⟨ "slices.siftDownOrdered[string]", by decide, Try.func103.trans (congrArg some (by kernel_rfl))⟩
  f37 := ⟨ "slices.medianAdjacentOrdered[string]", by decide, Try.func106.trans (congrArg some (by kernel_rfl))⟩
  f38 := ⟨ "slices.medianOrdered[string]", by decide, Try.func107.trans (congrArg some (by kernel_rfl))⟩
  f39 := ⟨ "cmp.isNaN[string]", by decide, Try.func108.trans (congrArg some (by kernel_rfl))⟩
  f41 := ⟨ "slices.order2Ordered[string]", by decide, Try.func109.trans (congrArg some (by kernel_rfl))⟩
  t0 := uT0
  a0 := Try.isAgg0
  z0 := Try.sizeOf0
  v0 := Try.zeroValue0
  t3 := uT3
  a3 := Try.isAgg3
  z3 := Try.sizeOf3
  v3 := Try.zeroValue3
  t4 := uT4
  a4 := Try.isAgg4
  z4 := Try.sizeOf4
  v4 := Try.zeroValue4
  t5 := uT5
  a5 := Try.isAgg5
  z5 := Try.sizeOf5
  v5 := Try.zeroValue5
  t9 := uT9
  a9 := Try.isAgg9
  z9 := Try.sizeOf9
  v9 := Try.zeroValue9
  t26 := uT76
  a26 := Try.isAgg76
  z26 := Try.sizeOf76
  v26 := Try.zeroValue76
  t27 := uT76
  a27 := Try.isAgg76
  z27 := Try.sizeOf76
  v27 := Try.zeroValue76
  t29 := uT9
  a29 := Try.isAgg9
  z29 := Try.sizeOf9
  v29 := Try.zeroValue9
  t32 := uT113
  a32 := Try.isAgg113
  z32 := Try.sizeOf113
  v32 := Try.zeroValue113
  t35 := uT151
  a35 := Try.isAgg151
  z35 := Try.sizeOf151
  v35 := Try.zeroValue151
  t36 := uT152
  a36 := Try.isAgg152
  z36 := Try.sizeOf152
  v36 := Try.zeroValue152
  t41 := uT156
  a41 := Try.isAgg156
  z41 := Try.sizeOf156
  v41 := Try.zeroValue156
  t44 := uT159
  a44 := Try.isAgg159
  z44 := Try.sizeOf159
  v44 := Try.zeroValue159
  t46 := uT95
  a46 := Try.isAgg95
  z46 := Try.sizeOf95
  v46 := Try.zeroValue95
  t53 := uT162
  a53 := Try.isAgg162
  z53 := Try.sizeOf162
  v53 := Try.zeroValue162
  t57 := uT166
  a57 := Try.isAgg166
  z57 := Try.sizeOf166
  v57 := Try.zeroValue166
  t63 := uT168
  a63 := Try.isAgg168
  z63 := Try.sizeOf168
  v63 := Try.zeroValue168
  t64 := uT169
  a64 := Try.isAgg169
  z64 := Try.sizeOf169
  v64 := Try.zeroValue169 }
def mkeysRen : Go.Shelf.Ren := ⟨fun | 7 => 80 | 10 => 90 | n => n, fun | 23 => 116 | 26 => 9 | 3 => 23 | 28 => 139 | 0 => 0 | 27 => 138 | 33 => 149 | 4 => 4 | n => n, fun n => n⟩
theorem mkeysLay : SlLaysZ.n7 Try.prog mkeysRen := {
  mixed := by kernel_rfl
  f7 := ⟨ "maps.Keys[map[string][]byte,string,[]byte]", by decide, Try.func80.trans (congrArg some (by kernel_rfl))⟩
  f10 := ⟨ "maps.Keys[map[string][]byte,string,[]byte]$1", by decide, Try.func90.trans (congrArg some (by kernel_rfl))⟩
  t0 := uT0
  a0 := Try.isAgg0
  z0 := Try.sizeOf0
  v0 := Try.zeroValue0
  t4 := uT4
  a4 := Try.isAgg4
  z4 := Try.sizeOf4
  v4 := Try.zeroValue4
  t23 := uT116
  a23 := Try.isAgg116
  z23 := Try.sizeOf116
  v23 := Try.zeroValue116
  t26 := uT9
  a26 := Try.isAgg9
  z26 := Try.sizeOf9
  v26 := Try.zeroValue9
  t27 := uT138
  a27 := Try.isAgg138
  z27 := Try.sizeOf138
  v27 := Try.zeroValue138
  t28 := uT139
  a28 := Try.isAgg139
  z28 := Try.sizeOf139
  v28 := Try.zeroValue139
  t33 := uT149
  a33 := Try.isAgg149
  z33 := Try.sizeOf149
  v33 := Try.zeroValue149 }
def msortedRen : Go.Shelf.Ren := ⟨fun | 6 => 79 | 8 => 89 | 9 => 66 | 11 => 102 | 13 => 83 | 12 => 82 | 23 => 100 | 24 => 101 | 14 => 91 | 15 => 92 | 16 => 93 | 17 => 94 | 18 => 95 | 19 => 96 | 20 => 97 | 21 => 98 | 22 => 99 | 25 => 103 | 26 => 104 | 27 => 105 | 28 => 106 | 29 => 107 | 30 => 108 | 31 => 109 | n => n, fun | 26 => 9 | 28 => 139 | 24 => 76 | 0 => 0 | 3 => 3 | 37 => 113 | 48 => 159 | 50 => 95 | 4 => 4 | 40 => 152 | 39 => 151 | 45 => 156 | 5 => 5 | 9 => 9 | 51 => 162 | 55 => 166 | 57 => 168 | 58 => 169 | 33 => 149 | n => n, fun n => n⟩
theorem msortedLay : SlLaysZ.n6 Try.prog msortedRen := {
  mixed := by kernel_rfl
  f6 := ⟨ "slices.Sorted[string]", by decide, Try.func79.trans (congrArg some (by kernel_rfl))⟩
  f8 := ⟨ "slices.Collect[string]", by decide, Try.func89.trans (congrArg some (by kernel_rfl))⟩
  f11 := ⟨ "slices.AppendSeq[[]string,string]", by decide, Try.func102.trans (congrArg some (by kernel_rfl))⟩
  t0 := uT0
  a0 := Try.isAgg0
  z0 := Try.sizeOf0
  v0 := Try.zeroValue0
  t24 := uT76
  a24 := Try.isAgg76
  z24 := Try.sizeOf76
  v24 := Try.zeroValue76
  t26 := uT9
  a26 := Try.isAgg9
  z26 := Try.sizeOf9
  v26 := Try.zeroValue9
  t28 := uT139
  a28 := Try.isAgg139
  z28 := Try.sizeOf139
  v28 := Try.zeroValue139
  i26 := by kernel_rfl }
/-! The kit's contracts on maps and sorting, at this program. -/
theorem c_mclone (m0 : Nat → Option Obj) (b : Nat) (S : List KV) (w0 : World) (hmap : MapR m0 b S) (hsub : ∀ b o, m0 b = some o → blks w0 b = some o) : CallsR Try.prog 63 #[.map (some b)] w0 (fun r w1 => ∃ b2 Hs, r = .map (some b2) ∧ MapG m0 b2 S Hs ∧ Mem w1 (restOf w0) Hs) := by
  obtain ⟨o, l, h1, h2, h3, h4, h5⟩ := hmap
  obtain ⟨es, c, rfl, _⟩ := h2.ex
  refine (AnyW.maps_Clone mcloneLay b es c w0 (hsub _ _ h1)).mono fun e w' ⟨he, hw⟩ => ?_
  subst hw
  exact ⟨_, he, w0.heap.size, [(w0.heap.size, .map es c)], rfl, ⟨_, [], l, rfl, h2, fun p hp m _ q2 => (h3 p hp).mono q2, h4, h5⟩, by simpa using (Mem.of_world w0).alloc (.map es c)⟩
theorem grown_blk (w : World) (os : Array Obj) {b : Nat} {o : Obj} (h : w.heap[b]? = some o) : (Sort.grow w os).heap[b]? = some o := by
  show (w.heap ++ os)[b]? = some o
  have hl := (Array.getElem?_eq_some_iff.1 h).1
  rw [Array.getElem?_append_left hl]; exact h
theorem Mem.grown {w : World} {R : Rest} {H : List (Nat × Obj)} (h : Mem w R H) (os : Array Obj) : Mem (Sort.grow w os) R H :=
  ⟨h.os, h.tape, h.output, fun b o e => grown_blk w os (h.rest b o e), fun p hp => grown_blk w os (h.own p hp), h.disj, h.nodup⟩
theorem Mem.ahead {w : World} {R : Rest} {H : List (Nat × Obj)} (h : Mem w R H) (n : Nat) : Mem (Sort.ahead w n) R H := ⟨h.os, h.tape, h.output, h.rest, h.own, h.disj, h.nodup⟩
theorem Upd.mapBlock {w : World} {b : Nat} {c : Array Value} {E : TypeId} {fz : Nat × Nat} (f : Array Value → Array Value) (hb : w.heap[b]? = some (.cells c E fz)) : Upd w b (.cells (f c) E fz) (Sort.mapBlock w b f) := by
  refine ⟨rfl, rfl, rfl, fun k => ?_⟩
  show (w.heap.modify b (Sort.onCells f))[k]? = _
  rw [Array.getElem?_modify]
  by_cases h : b = k
  · subst h; rw [if_pos rfl, if_pos rfl, hb]; rfl
  · rw [if_neg h, if_neg (fun e => h e.symm)]
theorem put_cells (pre sp : List Value) (l m : List (List UInt8)) (hl : m.length = l.length) : Sort.putCells encStr pre.length m.toArray (pre ++ (l.map encStr ++ sp)).toArray = (pre ++ (m.map encStr ++ sp)).toArray := by
  apply Array.ext'
  refine List.ext_getElem? fun k => ?_
  simp only [Sort.putCells, Array.toList_mapIdx, List.getElem?_mapIdx, List.size_toArray]
  by_cases h1 : k < pre.length
  · rw [List.getElem?_append_left h1, List.getElem?_append_left h1, List.getElem?_eq_getElem h1]
    simp only [Option.map_some]
    rw [if_neg (fun h => absurd h.1 oM)]
  · have h1' : pre.length ≤ k := by omega
    rw [List.getElem?_append_right h1', List.getElem?_append_right h1']
    by_cases h2 : k - pre.length < l.length
    · have ha : k - pre.length < (l.map encStr).length := by rw [List.length_map]; exact h2
      have hb : k - pre.length < (m.map encStr).length := by rw [List.length_map, hl]; exact h2
      have hc : k - pre.length < m.length := by rw [hl]; exact h2
      rw [List.getElem?_append_left ha, List.getElem?_append_left hb, List.getElem?_map, List.getElem?_map, List.getElem?_eq_getElem h2, List.getElem?_eq_getElem hc]
      simp only [Option.map_some]
      rw [if_pos oM]
      rw [getElem!_pos m.toArray (k - pre.length) (by simpa using hc)]; simp
    · have ha : (l.map encStr).length ≤ k - pre.length := by rw [List.length_map]; omega
      have hb : (m.map encStr).length ≤ k - pre.length := by rw [List.length_map, hl]; omega
      rw [List.getElem?_append_right ha, List.getElem?_append_right hb, List.length_map, List.length_map, hl]
      cases sp[k - pre.length - l.length]? with
      | none => rfl
      | some v => simp only [Option.map_some]; rw [if_neg oM]
theorem str_map (l : List ByteArray) : (l.map kl).map encStr = l.map strv := by rw [List.map_map]; rfl
theorem sortS_len (l : List ByteArray) : (sortS l).length = l.length := (List.mergeSort_perm l _).length_eq
theorem c_msort (vo : Value) (lo : List ByteArray) (Ho : List (Nat × Obj)) (w0 : World) (R : Rest) (hm0 : Mem w0 R (Ho ++ ([]))) (go : Grow strv 9 vo lo Ho) (hlo : lo.length ≤ 1048576) : CallsR Try.prog 66 #[vo] w0 (fun r w1 => r = .tuple #[] ∧ ∃ Hs, Grow strv 9 vo (sortS lo) Hs ∧ Mem w1 R Hs) := by
  rw [List.append_nil] at hm0
  rcases go with ⟨⟨a, rfl⟩, rfl, rfl⟩ | ⟨b, pre, sp, post, rfl, rfl⟩
  · refine (AnyM.slices_Sort_string_none msortLay a 0 w0).mono fun e w' ⟨he, hw⟩ => ?_
    subst hw
    exact ⟨_, he, rfl, [], .inl ⟨⟨_, rfl⟩, by simp [sortS], rfl⟩, hm0⟩
  · have hb : w0.heap[b]? = some (.cells (pre ++ (lo.map strv ++ (sp ++ post))).toArray 9 (0, 0)) := hm0.own (b, _) List.mem_cons_self
    have hH : Sort.Holds encStr w0 b pre.length ((lo.map kl)).toArray := by
      intro j hj
      rw [List.size_toArray, List.length_map] at hj
      constructor
      · simp only [World.cell?, hb, Option.isSome_none, Bool.false_eq_true, if_false, List.getElem?_toArray]
        rw [List.getElem?_append_right oM, Nat.add_sub_cancel_left, List.getElem?_append_left (by simpa using hj), List.getElem?_map, List.getElem?_eq_getElem hj]
        rw [getElem!_pos _ j (by simpa using hj)]; simp [strv, kl]
      · simp only [World.frozen?, hb]; simp
    have hc := AnyM.slices_Sort_string msortLay b pre.length (lo.length + sp.length) (lo.map kl) w0 hH (Array.getElem?_eq_some_iff.1 hb).1 (by rw [List.length_map]; omega)
    rw [List.length_map] at hc
    refine hc.mono fun e w' ⟨he, n, os, hw⟩ => ?_
    subst hw
    have hb' : (Sort.ahead w0 n).heap[b]? = some (.cells (pre ++ (lo.map strv ++ (sp ++ post))).toArray 9 (0, 0)) := hb
    have hu := Upd.mapBlock (Sort.putCells encStr pre.length ((lo.map kl).mergeSort fun x y => decide (x ≤ y)).toArray) hb'
    rw [← str_map, put_cells pre (sp ++ post) (lo.map kl) _ (List.mergeSort_perm _ _).length_eq, sortS_eq, str_map] at hu
    refine ⟨_, he, rfl, [(b, .cells (pre ++ ((sortS lo).map strv ++ (sp ++ post))).toArray 9 (0, 0))], .inr ⟨b, pre, sp, post, by rw [sortS_len], rfl⟩, (Mem.upd0 (hm0.ahead n) ?_).grown os⟩
    rw [sortS_eq]
    exact hu
theorem msorts (m : Nat) : AnyZ.SortsIn Try.prog msortedRen Fence.wide m :=
  ⟨fun blk off cap ss W hH hblk hsz => callsIn_wide.2 (AnyM.slices_Sort_string msortLay blk off cap ss W hH hblk hsz),
   fun p cap W => callsIn_wide.2 (AnyM.slices_Sort_string_none msortLay p cap W)⟩
theorem c_mkeys (b : Nat) (w0 : World) : CallsR Try.prog 80 #[.map (some b)] w0 (fun r w1 => ∃ bk, r = .func (.func 90) #[] #[ptr bk 0] ∧ Mem w1 (restOf w0) ([(bk, .cells #[.map (some b)] 116 (0, 0))])) := by
  have h := AnyZ.keys_in mkeysLay Fence.wide 5 trivial rfl (some b) w0
  refine (callsIn_wide.1 h).mono fun e w' ⟨he, hw⟩ => ?_
  subst hw
  exact ⟨_, he, w0.heap.size, rfl, (Mem.of_world w0).alloc (.cells #[.map (some b)] 116)⟩
theorem mem_of_below {w w1 : World} {g : Nat} {o : Obj} (h : RowKit.Below w.heap.size w w1) (hg : w.heap.size ≤ g) (ho : w1.heap[g]? = some o) : Mem w1 (restOf w) [(g, o)] :=
  ⟨h.os, h.tape, h.output, fun b o e => by
    have hl := (Array.getElem?_eq_some_iff.1 e).1
    rw [h.block b hl]; exact e, fun p hp => by rw [List.mem_singleton.1 hp]; exact ho, fun p hp => by
    rw [List.mem_singleton.1 hp]; exact Array.getElem?_eq_none hg, by simp⟩
theorem mem_of_below0 {w w1 : World} (h : RowKit.Below w.heap.size w w1) : Mem w1 (restOf w) [] :=
  ⟨h.os, h.tape, h.output, fun b o e => by
    have hl := (Array.getElem?_eq_some_iff.1 e).1
    rw [h.block b hl]; exact e, by simp, by simp, by simp⟩
def rdU : Value → Option (DataW Unit × List MemPlace) := fun _ => some (.nil, [])
theorem owns_of {w : World} {b : Nat} {S : List KV} (hmap : MapR (blks w) b S) (hsb : ∀ p ∈ S, p.1.size ≤ 1048576) (hsn : S.length ≤ 1048576) :
    ∃ D : DataW Unit, w.ownsMap Try.prog 9 rdU b S.length D ∧ Maps.size D = S.length ∧ (Go.strKeys D).Perm ((S.map (·.1)).map kl) := by
  obtain ⟨o, l, h1, h2, h3, h4, h5⟩ := hmap
  obtain ⟨es, c, rfl, h6, h7, h8⟩ := h2.ex
  have hkp : (l.map (·.1)).Perm (S.map (·.1)) := perm_of h2.nd h4.nodup (keys_same fun k => by rw [← h5 k, Option.isSome_map])
  have hlen : es.size = S.length := by
    have e1 := congrArg List.length h6
    have e2 := hkp.length_eq
    simp only [List.length_map, Array.length_toList] at e1 e2
    omega
  have hrd : ∀ x ∈ es.toList, ∃ s : ByteArray, x.key = .string s ∧ WideElems.rd Try.prog 9 rdU x = some (.string s.data.toList, .nil) := by
    intro x hx
    obtain ⟨p, hp, e1, _⟩ := key_str h6 hx
    refine ⟨p.1, e1, ?_⟩
    have hm : p.1 ∈ S.map (·.1) := hkp.subset (List.mem_map.2 ⟨p, hp, rfl⟩)
    obtain ⟨q, hq, e2⟩ := List.mem_map.1 hm
    have hs := hsb q hq
    rw [e2] at hs
    have := WideElems.rd_mk (R := rdU) (val := x.val) (born := x.born) (WideMaps.keyOf_string_mk (P := Try.prog) (k := 9) uT9 (s := p.1) (by unfold maxLen; omega)) rfl
    rw [← e1] at this
    exact this
  have hst : MapKept.Stamped es c := ⟨h8, h7, by rw [keys_es h6]; exact str_nodup h2.nd⟩
  refine ⟨.map ((es.toList.map (WideElems.rg Try.prog 9 rdU)).foldr DataW.insert []), ⟨es, c, h1, ⟨by unfold maxLen; omega, hst, fun x hx => let ⟨s, _, h⟩ := hrd x hx; ⟨_, h⟩⟩, by omega, rfl⟩, ?_, ?_⟩
  · show List.length _ = _
    rw [length_sorted, List.length_map, Array.length_toList, hlen]
  · show (((es.toList.map (WideElems.rg Try.prog 9 rdU)).foldr DataW.insert []).map fun p => Go.strOf p.1).Perm _
    refine ((WideShapes.sorted_perm _).map _).trans ?_
    rw [List.map_map]
    have : es.toList.map ((fun p => Go.strOf p.1) ∘ WideElems.rg Try.prog 9 rdU) = (l.map (·.1)).map kl := by
      have e1 : es.toList.map ((fun p => Go.strOf p.1) ∘ WideElems.rg Try.prog 9 rdU) = (es.toList.map (·.key)).map (fun v => match v with | .string s => s.data.toList | _ => []) := by
        rw [List.map_map]
        refine List.map_congr_left fun x hx => ?_
        obtain ⟨s, e, h⟩ := hrd x hx
        simp only [Function.comp_apply, WideElems.rg_of h, e, Go.strOf]
      rw [e1, keys_es h6, List.map_map]; rfl
    rw [this]
    exact hkp.map kl
theorem c_msorted (bk b : Nat) (S : List KV) (w0 : World) (hk : blks w0 bk = some (.cells #[.map (some b)] 116 (0, 0))) (hmap : MapR (blks w0) b S) (hsb : ∀ p ∈ S, p.1.size ≤ 1048576) (hsn : S.length ≤ 1048576) :
    CallsR Try.prog 79 #[.func (.func 90) #[] #[ptr bk 0]] w0 (fun r w1 => ∃ Hs, Grow strv 9 r (S.map (·.1)) Hs ∧ Mem w1 (restOf w0) Hs) := by
  obtain ⟨D, hown, hsz, hperm⟩ := owns_of hmap hsb hsn
  have hk' : w0.heap[bk]? = some (.cells #[.map (some b)] 116 (0, 0)) := hk
  have hseq : SeqGives Fence.wide 2 Try.prog 90 #[.pointer (some ⟨bk, 0, none⟩)] encStr (fun ss => ss.Perm (Go.strKeys D)) (Maps.size D) w0 :=
    AnyZ.keys_gives (ρ := mkeysRen) { mkeysLay with } Fence.wide _ trivial rfl oM bk b S.length D w0 (Array.getElem?_eq_some_iff.1 hk').1 (by simp only [World.cell?, hk']; rfl) hown
  have cS := AnyZ.sorted_in msortedLay Fence.wide 5 trivial trivial trivial trivial rfl oM (msorts _) (enters_of Try.func66 (by kernel_rfl) rfl) 90 #[.pointer (some ⟨bk, 0, none⟩)] trivial (enters_of Try.func90 (by kernel_rfl) rfl) _ _ (by rw [hsz]; unfold maxLen; omega) (by rw [hsz]; omega) w0 hseq
  refine (callsIn_wide.1 cS).mono fun e w' ⟨v, ss, he, hS, hrow, hnil, hb⟩ => ?_
  refine ⟨v, he, ?_⟩
  have hsrt : (ss.mergeSort fun x y => decide (x ≤ y)) = (S.map (·.1)).map kl := by
    refine sorted_unique ((List.mergeSort_perm _ _).trans (hS.trans hperm)) (List.pairwise_mergeSort (fun a b c => le_trans_b a b c) (fun a b => le_total_b a b) _) ?_
    rw [List.pairwise_map, List.pairwise_map]
    exact List.Pairwise.imp (R := fun (p q : KV) => kl p.1 < kl q.1) (fun h => decide_eq_true (List.le_of_lt h)) hmap.sort
  have hsl : ss.length = (S.map (·.1)).length := by
    have := congrArg List.length hsrt
    rw [(List.mergeSort_perm _ _).length_eq, List.length_map] at this; exact this
  rw [hsrt, str_map] at hrow
  obtain ⟨hl, hcase⟩ := hrow
  rcases hcase with ⟨rfl, h0⟩ | ⟨g, cap, cur, rfl, hg, hgb, hnc, _, hsz2, htk⟩
  · have : S.map (·.1) = [] := List.eq_nil_of_length_eq_zero oM
    rw [this]
    exact ⟨[], Grow.none _ _, mem_of_below0 hb⟩
  · refine ⟨[(g, .cells cur 9 (0, 0))], .inr ⟨g, [], cur.toList.drop ss.length, [], ?_, ?_⟩, mem_of_below hb hg hgb⟩
    · show Value.slice (some ⟨g, 0, none⟩) ss.length cap = Value.slice (some ⟨g, 0, none⟩) (S.map (·.1)).length ((S.map (·.1)).length + (cur.toList.drop ss.length).length)
      have hcl : cur.toList.length = cap := by rw [Array.length_toList (xs := cur)]; omega
      rw [← hsl, List.length_drop, hcl, show ss.length + (cap - ss.length) = cap by omega]
    · rw [List.append_nil, List.nil_append, ← htk, Nat.mul_one, List.take_append_drop]


end Go.Proofs.Ytfbnhoolkajebaa
