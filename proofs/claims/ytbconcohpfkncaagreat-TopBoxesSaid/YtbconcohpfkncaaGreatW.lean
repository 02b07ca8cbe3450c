/-
  Pieces of memory that are read alone: put together, and what stays readable. Any program.
-/
import Derived.Test.YtbconcohpfkncaaGreatU
namespace Go.Proofs.YtbconcohpfkncaaGreat
open Go
attribute [local irreducible] pt init exs pur own
/-- Whatever can be read in q can be read in q'. -/
def Sup (q q' : HP) : Prop := ∀ a v, Rd q a v → Rd q' a v
theorem Sup.refl (q : HP) : Sup q q := fun _ _ h => h
theorem Sup.trans {a b c : HP} (h : Sup a b) (k : Sup b c) : Sup a c := fun x v r => k x v (h x v r)
theorem Sup.left (x y : HP) : Sup x (star [x, y]) := fun a v r l w s => by
  have := sat_flat.1 s
  exact r (y :: l) w this
theorem Sup.right (x y : HP) : Sup y (star [x, y]) := fun a v r l w s => by
  have := sat_flat.1 s
  exact r (x :: l) w (sat_perm (List.Perm.swap _ _ _) this)
theorem Sl.sup {q q' : HP} (hs : Sup q q') {v : Value} {n sz : Nat} {l : List Value} (h : Sl q v n sz l) : Sl q' v n sz l := by
  obtain ⟨a, cap, rfl, hl, hr⟩ := h
  exact ⟨a, cap, rfl, hl, fun hn => let ⟨b, o, e, hr⟩ := hr hn; ⟨b, o, e, fun j u hj => hs _ _ (hr j u hj)⟩⟩
section
variable {P : Program} {c : Cx} {A : Array Oper} {os : List Oper} {K : Kont} {L : Env} {H F : List HP} {x y : HP} {C : Code}
theorem GO.merge (tk : Tks [x, y] H F) (k : GO P c A os K L (star [x, y] :: F)) : GO P c A os K L H :=
  GO.mem (H' := x :: y :: F) ⟨[], by rw [List.append_nil]; exact tk⟩ (GO.imp (H' := star [x, y] :: F) (fun l w s => sat_flat.2 s) k)
theorem G.merge (tk : Tks [x, y] H F) (k : G P c C K L (star [x, y] :: F)) : G P c C K L H :=
  G.mem (H' := x :: y :: F) ⟨[], by rw [List.append_nil]; exact tk⟩ (G.imp (H' := star [x, y] :: F) (fun l w s => sat_flat.2 s) k)
theorem ImpS.merge {M : List HP} (tk : Tks [x, y] H F) (k : ImpS (star [x, y] :: F) M) : ImpS H M := fun l w s => by
  have s1 : sat (x :: y :: (F ++ l)) w := sat_perm (List.Perm.append_right l tk) s
  exact k l w (sat_flat.2 s1)
end
end Go.Proofs.YtbconcohpfkncaaGreat
