/- The ratchet: what is deciphered (the document). Conditions: none beyond those that each theorem states. -/
import Derived.Test.YtkmiemlpfkfiiaaDoorRb7
namespace Go.Proofs.YtkmiemlpfkfiiaaDoor
set_option linter.unusedVariables false
set_option linter.unusedSimpArgs false
def HK (R : Rest) (Hs : List (Nat × Obj)) (v : Value) (l : List Kp) : Prop := ∀ m, (∀ b o, R.blk b = some o → m b = some o) → (∀ p ∈ Hs, m p.1 = some p.2) → RdK m Yz 65 v l
theorem HK.own {R : Rest} {Hs : List (Nat × Obj)} {v : Value} {l l' : List Kp} {E : TypeId} (g : Yf Yz 65 E v l Hs) (e : l = l') : HK R Hs v l' := fun m _ h => e ▸ g.rdIn h
theorem HK.old {w : World} {v : Value} {l l' : List Kp} (h : RdK (Yn w) Yz 65 v l) (e : l = l') : HK (Qu w) [] v l' := fun m h1 _ => e ▸ h.mono h1
theorem HK.rd {w : World} {R : Rest} {Hs H : List (Nat × Obj)} {v : Value} {l : List Kp} (h : HK R Hs v l) (hm : Mem w R (Hs ++ H)) : RdK (Yn w) Yz 65 v l := h _ (fun b o e => hm.rest b o e) fun p hp => hm.own p (List.mem_append_left _ hp)
attribute [local irreducible] Ak Va D7 Ya Yq Gy J9 Jz Ja Zu Wi Ko Qi Q7 Gf D5 Kt hdR hdE Wv Qba Rz Dz Pi Ns Jl
end Go.Proofs.YtkmiemlpfkfiiaaDoor
