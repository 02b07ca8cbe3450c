/-
  Rules for slices, continued: clear; a slice held against nil; a slice of our own read as it lies. Any program.
-/
import Derived.Test.YtbconcohpfkncaaGreatN
namespace Go.Proofs.YtbconcohpfkncaaGreat
open Go
attribute [local irreducible] pt init exs pur own
section
variable {P : Program} {c : Cx} {A : Array Oper} {rest os : List Oper} {K : Kont} {L : Env} {H F : List HP} {t : TypeId} {p : String} {e : Array Edge} {d : Nat} {C : Code}
theorem zeroCells_len (z : Array Value) (n : Nat) : (Builtin.zeroCells z n).toList.length = n * z.size := by simp [Builtin.zeroCells]
theorem zeroCells_one {z : Array Value} {n : Nat} (h : ∀ u ∈ z.toList, u.oneCell' = true) : ∀ u ∈ (Builtin.zeroCells z n).toList, u.oneCell' = true := by
  intro u hu
  simp only [Builtin.zeroCells, Array.toList_map, Array.toList_range, List.mem_map, List.mem_range] at hu
  obtain ⟨i, hi, rfl⟩ := hu
  have hz : 0 < z.size := by
    apply Nat.pos_of_ne_zero
    intro h0
    rw [h0] at hi; simp at hi
  have hlt : i % z.size < z.size := Nat.mod_lt _ hz
  rw [getElem!_pos z _ hlt]
  exact h _ (by simp)
/-- clear of a part of a row of our own. -/
theorem GO.clear {dT el T : TypeId} {b o n cap : Nat} {l zl : List Value} {x : Operand} [hu : UL P dT (.slice el)] [hz : ZC P el zl] (hx : evl L x = some (.slice (some ⟨b, o, none⟩) n cap)) (tk : Tk (pt b (row l T)) H F)
    (hn : 0 < n) (ho : o + n * zl.length ≤ l.length) (h1 : ∀ u ∈ zl, u.oneCell' = true)
    (k : ∀ vs : List Value, vs.length = n * zl.length → GO P c A rest K L (pt b (row (l.take o ++ vs ++ l.drop (o + vs.length)) T) :: F)) : GO P c A (⟨none, .call ⟨.builtin .clear, #[x], #[dT]⟩, t, p, e, none⟩ :: rest) K L H :=
  GO.gen0 rfl (fun _ H' => ∃ vs : List Value, vs.length = n * zl.length ∧ H' = pt b (row (l.take o ++ vs ++ l.drop (o + vs.length)) T) :: F)
    (fun a w Y h s => by
      obtain ⟨z, hz1, hz2⟩ := run_zero_ZC (P := P) (t := el) w
      have hzl : z.cells.toList = zl := by rw [hz2]
      have hzs : z.cells.size = zl.length := by rw [← hzl, Array.length_toList]
      have hlen := zeroCells_len z.cells n
      rw [hzs] at hlen
      have s1 := sat_perm (List.Perm.append_right Y tk) s
      obtain ⟨w', hr, hs', s'⟩ := sat_store (P := P) (vs := (Builtin.zeroCells z.cells n).toList) s1 (by rw [hlen]; exact ho) (zeroCells_one (by rw [hzl]; exact h1))
      refine ⟨.tuple #[], w', _, ?_, hs', ⟨_, hlen, rfl⟩, s'⟩
      obtain ⟨m, rfl⟩ : ∃ m, n = m + 1 := ⟨n - 1, by omega⟩
      simp only [execOp, resolve, invoke, builtin]
      simp only [List.map_toArray, List.map_cons, List.map_nil, Sem.run_bind, Result.andThen, Sem.run_pure, h.eval hx]
      simp [Builtin.clear_, run_underlying hu.out, hz1, Result.andThen, hr, Sem.run_bind])
    (by rintro _ _ ⟨vs, hvs, rfl⟩; exact k vs hvs)
theorem EqR.slNil {ty e : TypeId} {a : Option Addr} {m cap : Nat} [hu : UL P ty (.slice e)] {n : Nat} : EqR P (n + 1) ty (.slice a m cap) (.slice none 0 0) a.isNone := fun w => by
  cases a <;> simp [Op.equalIn, Sem.run_bind, run_underlying hu.out, Result.andThen]
/-- A slice held against nil. -/
theorem GO.eqNilS {ty ty' e' : TypeId} {x : Operand} {a : Option Addr} {m cap : Nat} [hu : UL P ty (.slice e')] (hN : Nat.blt d c.N = true) (hx : evl L x = some (.slice a m cap))
    (k : GO P c A rest K ((d, .bool a.isNone) :: L) H) : GO P c A (⟨some d, .binOp .eql ty x (.const (.slice none 0 0)) ty', t, p, e, none⟩ :: rest) K L H :=
  GO.val hN rfl (fun s w Y h _ => by
    have hc : s.eval (.const (.slice none 0 0)) = .slice none 0 0 := rfl
    simp only [execOp, h.eval hx, hc]
    have := (EqR.slNil : EqR P 10000 ty (.slice a m cap) (.slice none 0 0) a.isNone) w
    simp [Sem.run_bind, eqGuard, binOp, Op.equal, Op.maxDepth, this, Result.andThen]) k
/-- A slice of our own can be read as it lies. -/
theorem own_sl {el : TypeId} {sz n : Nat} {v : Value} {xs : List Value} {l : List HP} {w : World} (s : sat (own el sz n v xs :: l) w) : Sl (own el sz n v xs) v n sz xs := by
  rcases own_shape s with ⟨rfl, rfl, rfl, _⟩ | ⟨b, cap, rest', rfl, g1, _, _, _, _⟩
  · exact ⟨none, 0, rfl, by simp, fun h => absurd h (by omega)⟩
  · refine ⟨_, _, rfl, g1, fun _ => ⟨b, 0, rfl, fun j u hj l' w' s' => ?_⟩⟩
    rcases own_shape s' with ⟨h, _⟩ | ⟨b2, cap2, rest2, h, _, _, _, _, s2⟩
    · cases h
    · injection h with h _ _
      injection h with h
      injection h with h _ _
      subst h
      rw [Nat.zero_add]
      have hj2 : (xs ++ rest2)[j]? = some u := by rw [List.getElem?_append_left (List.getElem?_eq_some_iff.1 hj).1]; exact hj
      exact Rd.row hj2 l' w' s2
theorem GO.ownSl {el : TypeId} {sz n : Nat} {v : Value} {xs : List Value} (tk : Tk (own el sz n v xs) H F) (k : Sl (own el sz n v xs) v n sz xs → GO P c A os K L H) : GO P c A os K L H := by
  rintro a w ⟨h1, h2, ds, h3, h4, h5⟩
  exact k (own_sl (sat_perm (List.Perm.append_right _ tk) h5)) a w ⟨h1, h2, ds, h3, h4, h5⟩
theorem G.own_open {el : TypeId} {sz n : Nat} {v : Value} {xs : List Value} (tk : Tk (own el sz n v xs) H F)
    (k0 : v = .slice none 0 0 → n = 0 → xs = [] → G P c C K L F)
    (k : ∀ b cap rest, v = .slice (some ⟨b, 0, none⟩) n cap → xs.length = n * sz → n ≤ cap → cap ≤ maxLen → (xs ++ rest).length = cap * sz → G P c C K L (pt b (row (xs ++ rest) el) :: F)) : G P c C K L H := by
  rintro a w ⟨h1, h2, ds, h3, h4, h5⟩
  rcases own_shape (sat_perm (List.Perm.append_right _ tk) h5) with ⟨g1, g2, g3, s2⟩ | ⟨b, cap, rest', g1, g2, g3, g4, g5, s2⟩
  · exact k0 g1 g2 g3 a w ⟨h1, h2, ds, h3, h4, s2⟩
  · exact k b cap rest' g1 g2 g3 g4 g5 a w ⟨h1, h2, ds, h3, h4, s2⟩
end
/-! ## Cells in pairs -/
section
variable {α β : Type} {f : α → Value} {g : β → Value}
end
end Go.Proofs.YtbconcohpfkncaaGreat
