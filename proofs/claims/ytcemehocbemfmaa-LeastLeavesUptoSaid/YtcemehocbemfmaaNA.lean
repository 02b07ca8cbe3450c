/-
  Rules for slices, continued: clear; a slice held against nil; a slice of our own read as it lies. Any program.
-/
import Derived.Test.YtcemehocbemfmaaN
namespace Go.Proofs.Ytcemehocbemfmaa
open Go
attribute [local irreducible] pt init exs pur own
section
variable {P : Program} {c : Cx} {A : Array Oper} {rest os : List Oper} {K : Kont} {L : Env} {H F : List HP} {t : TypeId} {p : String} {e : Array Edge} {d : Nat} {C : Code}
theorem zeroCells_len (z : Array Value) (n : Nat) : (Builtin.zeroCells z n).toList.length = n * z.size := by simp [Builtin.zeroCells]
theorem zeroCells_one {z : Array Value} {n : Nat} (h : ∀ u ∈ z.toList, u.oneCell' = true) : ∀ u ∈ (Builtin.zeroCells z n).toList, u.oneCell' = true := by
  intro u hu
  simp only [Builtin.zeroCells, Array.toList_map, Array.toList_range, List.mem_map, List.mem_range] at hu
  obtain ⟨i, hi, rfl⟩ := hu
  have hz : 0 < z.size := by
    apply Nat.pos_of_ne_zero
    intro h0
    rw [h0] at hi; simp at hi
  have hlt : i % z.size < z.size := Nat.mod_lt _ hz
  rw [getElem!_pos z _ hlt]
  exact h _ (by simp)
/-- clear of a part of a row of our own. -/
theorem GO.clear {dT el T : TypeId} {b o n cap : Nat} {l zl : List Value} {x : Operand} [hu : UL P dT (.slice el)] [hz : ZC P el zl] (hx : evl L x = some (.slice (some ⟨b, o, none⟩) n cap)) (tk : Tk (pt b (row l T)) H F)
    (hn : 0 < n) (ho : o + n * zl.length ≤ l.length) (h1 : ∀ u ∈ zl, u.oneCell' = true)
    (k : ∀ vs : List Value, vs.length = n * zl.length → GO P c A rest K L (pt b (row (l.take o ++ vs ++ l.drop (o + vs.length)) T) :: F)) : GO P c A (⟨none, .call ⟨.builtin .clear, #[x], #[dT]⟩, t, p, e, none⟩ :: rest) K L H :=
  GO.gen0 rfl (fun _ H' => ∃ vs : List Value, vs.length = n * zl.length ∧ H' = pt b (row (l.take o ++ vs ++ l.drop (o + vs.length)) T) :: F)
    (fun a w Y h s => by
      obtain ⟨z, hz1, hz2⟩ := run_zero_ZC (P := P) (t := el) w
      have hzl : z.cells.toList = zl := by rw [hz2]
      have hzs : z.cells.size = zl.length := by rw [← hzl, Array.length_toList]
      have hlen := zeroCells_len z.cells n
      rw [hzs] at hlen
      have s1 := sat_perm (List.Perm.append_right Y tk) s
      obtain ⟨w', hr, hs', s'⟩ := sat_store (P := P) (vs := (Builtin.zeroCells z.cells n).toList) s1 (by rw [hlen]; exact ho) (zeroCells_one (by rw [hzl]; exact h1))
      refine ⟨.tuple #[], w', _, ?_, hs', ⟨_, hlen, rfl⟩, s'⟩
      obtain ⟨m, rfl⟩ : ∃ m, n = m + 1 := ⟨n - 1, by omega⟩
      simp only [execOp, resolve, invoke, builtin]
      simp only [List.map_toArray, List.map_cons, List.map_nil, Sem.run_bind, Result.andThen, Sem.run_pure, h.eval hx]
      simp [Builtin.clear_, run_underlying hu.out, hz1, Result.andThen, hr, Sem.run_bind])
    (by rintro _ _ ⟨vs, hvs, rfl⟩; exact k vs hvs)
theorem EqR.slNil {ty e : TypeId} {a : Option Addr} {m cap : Nat} [hu : UL P ty (.slice e)] {n : Nat} : EqR P (n + 1) ty (.slice a m cap) (.slice none 0 0) a.isNone := fun w => by
  cases a <;> simp [Op.equalIn, Sem.run_bind, run_underlying hu.out, Result.andThen]
/-- A slice held against nil. -/
theorem GO.eqNilS {ty ty' e' : TypeId} {x : Operand} {a : Option Addr} {m cap : Nat} [hu : UL P ty (.slice e')] (hN : Nat.blt d c.N = true) (hx : evl L x = some (.slice a m cap))
    (k : GO P c A rest K ((d, .bool a.isNone) :: L) H) : GO P c A (⟨some d, .binOp .eql ty x (.const (.slice none 0 0)) ty', t, p, e, none⟩ :: rest) K L H :=
  GO.val hN rfl (fun s w Y h _ => by
    have hc : s.eval (.const (.slice none 0 0)) = .slice none 0 0 := rfl
    simp only [execOp, h.eval hx, hc]
    have := (EqR.slNil : EqR P 10000 ty (.slice a m cap) (.slice none 0 0) a.isNone) w
    simp [Sem.run_bind, eqGuard, binOp, Op.equal, Op.maxDepth, this, Result.andThen]) k
/-- A slice of our own can be read as it lies. -/
theorem own_sl {el : TypeId} {sz n : Nat} {v : Value} {xs : List Value} {l : List HP} {w : World} (s : sat (own el sz n v xs :: l) w) : Sl (own el sz n v xs) v n sz xs := by
  rcases own_shape s with ⟨rfl, rfl, rfl, _⟩ | ⟨b, cap, rest', rfl, g1, _, _, _, _⟩
  · exact ⟨none, 0, rfl, by simp, fun h => absurd h (by omega)⟩
  · refine ⟨_, _, rfl, g1, fun _ => ⟨b, 0, rfl, fun j u hj l' w' s' => ?_⟩⟩
    rcases own_shape s' with ⟨h, _⟩ | ⟨b2, cap2, rest2, h, _, _, _, _, s2⟩
    · cases h
    · injection h with h _ _
      injection h with h
      injection h with h _ _
      subst h
      rw [Nat.zero_add]
      have hj2 : (xs ++ rest2)[j]? = some u := by rw [List.getElem?_append_left (List.getElem?_eq_some_iff.1 hj).1]; exact hj
      exact Rd.row hj2 l' w' s2
theorem GO.ownSl {el : TypeId} {sz n : Nat} {v : Value} {xs : List Value} (tk : Tk (own el sz n v xs) H F) (k : Sl (own el sz n v xs) v n sz xs → GO P c A os K L H) : GO P c A os K L H := by
  rintro a w ⟨h1, h2, ds, h3, h4, h5⟩
  exact k (own_sl (sat_perm (List.Perm.append_right _ tk) h5)) a w ⟨h1, h2, ds, h3, h4, h5⟩
theorem G.ownSl {el : TypeId} {sz n : Nat} {v : Value} {xs : List Value} (tk : Tk (own el sz n v xs) H F) (k : Sl (own el sz n v xs) v n sz xs → G P c C K L H) : G P c C K L H := by
  rintro a w ⟨h1, h2, ds, h3, h4, h5⟩
  exact k (own_sl (sat_perm (List.Perm.append_right _ tk) h5)) a w ⟨h1, h2, ds, h3, h4, h5⟩
theorem G.own_open {el : TypeId} {sz n : Nat} {v : Value} {xs : List Value} (tk : Tk (own el sz n v xs) H F)
    (k0 : v = .slice none 0 0 → n = 0 → xs = [] → G P c C K L F)
    (k : ∀ b cap rest, v = .slice (some ⟨b, 0, none⟩) n cap → xs.length = n * sz → n ≤ cap → cap ≤ maxLen → (xs ++ rest).length = cap * sz → G P c C K L (pt b (row (xs ++ rest) el) :: F)) : G P c C K L H := by
  rintro a w ⟨h1, h2, ds, h3, h4, h5⟩
  rcases own_shape (sat_perm (List.Perm.append_right _ tk) h5) with ⟨g1, g2, g3, s2⟩ | ⟨b, cap, rest', g1, g2, g3, g4, g5, s2⟩
  · exact k0 g1 g2 g3 a w ⟨h1, h2, ds, h3, h4, s2⟩
  · exact k b cap rest' g1 g2 g3 g4 g5 a w ⟨h1, h2, ds, h3, h4, s2⟩
theorem G.ownShut {el : TypeId} {b n cap sz : Nat} {v : Value} {xs rest' : List Value} (hv : v = .slice (some ⟨b, 0, none⟩) n cap) (hx : xs.length = n * sz) (hn : n ≤ cap) (hc : cap ≤ maxLen) (hl : (xs ++ rest').length = cap * sz)
    (k : G P c C K L (own el sz n v xs :: F)) : G P c C K L (pt b (row (xs ++ rest') el) :: F) :=
  G.imp (H' := own el sz n v xs :: F) (fun _ _ s => own_in hv hx hn hc hl s) k
/-- Memory in another form. -/
theorem ImpS.own1 {el : TypeId} {b n cap sz : Nat} {v : Value} {xs rest' l : List Value} {H M : List HP} (hl0 : l = xs ++ rest') (hv : v = .slice (some ⟨b, 0, none⟩) n cap) (hx : xs.length = n * sz) (hn : n ≤ cap) (hc : cap ≤ maxLen) (hl : l.length = cap * sz)
    (h : ImpS H (pt b (row l el) :: M)) : ImpS H (Go.Proofs.Ytcemehocbemfmaa.own el sz n v xs :: M) := fun l' w s => own_in hv hx hn hc (by rw [← hl0]; exact hl) (by rw [← hl0]; exact h l' w s)
end
theorem Sb.midR {Y F : List HP} {x : HP} : Sb (x :: (Y ++ F)) (Y ++ (x :: F)) := ⟨[], by rw [List.append_nil]; exact List.perm_middle⟩
/-! ## Cells in pairs -/
def duo {α β : Type} (f : α → Value) (g : β → Value) (xs : List (α × β)) : List Value := xs.flatMap fun x => [f x.1, g x.2]
section
variable {α β : Type} {f : α → Value} {g : β → Value}
theorem duo_len (xs : List (α × β)) : (duo f g xs).length = xs.length * 2 := by
  induction xs with
  | nil => rfl
  | cons s ss ih => simp only [duo, List.flatMap_cons, List.length_append, List.length_cons, List.length_nil] at ih ⊢; omega
theorem duo_append (xs ys : List (α × β)) : duo f g (xs ++ ys) = duo f g xs ++ duo f g ys := by simp [duo]
theorem duo_get : ∀ {xs : List (α × β)} {k : Nat} {s : α × β}, xs[k]? = some s → (duo f g xs)[k * 2]? = some (f s.1) ∧ (duo f g xs)[k * 2 + 1]? = some (g s.2)
  | [], _, _, h => by simp at h
  | t :: ss, 0, s, h => by simp at h; subst h; simp [duo]
  | t :: ss, k + 1, s, h => by
    have := duo_get (xs := ss) (k := k) (s := s) (by simpa using h)
    have e : duo f g (t :: ss) = f t.1 :: g t.2 :: duo f g ss := rfl
    rw [e, show (k + 1) * 2 = k * 2 + 2 by omega]
    simpa using this
theorem duo_take (xs : List (α × β)) (k : Nat) : duo f g (xs.take k) = (duo f g xs).take (k * 2) := by
  induction xs generalizing k with
  | nil => simp [duo]
  | cons x xs ih =>
    cases k with
    | zero => simp [duo]
    | succ k =>
      have e : duo f g (x :: xs) = f x.1 :: g x.2 :: duo f g xs := rfl
      have e2 : duo f g (x :: xs.take k) = f x.1 :: g x.2 :: duo f g (xs.take k) := rfl
      rw [List.take_succ_cons, e, e2, ih, show (k + 1) * 2 = k * 2 + 2 by omega]
      rfl
theorem duo_drop (xs : List (α × β)) (k : Nat) : duo f g (xs.drop k) = (duo f g xs).drop (k * 2) := by
  have h := duo_append (f := f) (g := g) (xs.take k) (xs.drop k)
  rw [List.take_append_drop, duo_take] at h
  have h2 : (duo f g xs).take (k * 2) ++ (duo f g xs).drop (k * 2) = (duo f g xs).take (k * 2) ++ duo f g (xs.drop k) := by rw [List.take_append_drop]; exact h
  exact (List.append_cancel_left h2).symm
/-- A pair put into its place. -/
theorem duo_set {xs : List (α × β)} {k : Nat} {s : α × β} (h : k < xs.length) : (duo f g xs).take (k * 2) ++ [f s.1, g s.2] ++ (duo f g xs).drop (k * 2 + 2) = duo f g (xs.set k s) := by
  have e : xs.set k s = xs.take k ++ [s] ++ xs.drop (k + 1) := by
    rw [List.set_eq_take_append_cons_drop, if_pos h]; simp
  rw [e, duo_append, duo_append, duo_take, duo_drop, show (k + 1) * 2 = k * 2 + 2 by omega]
  rfl
theorem duo_setR {xs : List (α × β)} {k : Nat} {s : α × β} {r : List Value} (h : k < xs.length) : (duo f g xs ++ r).take (0 + k * 2) ++ [f s.1, g s.2] ++ (duo f g xs ++ r).drop (0 + k * 2 + 2) = duo f g (xs.set k s) ++ r := by
  have hl := duo_len (f := f) (g := g) xs
  rw [← duo_set h, Nat.zero_add, List.take_append_of_le_length (by omega), List.drop_append_of_le_length (by omega)]
  simp only [List.append_assoc]
theorem duo_one (hf : ∀ a, (f a).oneCell' = true) {xs : List (α × β)} (hg : ∀ x ∈ xs, (g x.2).oneCell' = true) : ∀ u ∈ duo f g xs, u.oneCell' = true := by
  intro u hu
  obtain ⟨x, hx, h⟩ := List.mem_flatMap.1 hu
  simp at h
  rcases h with rfl | rfl
  · exact hf _
  · exact hg x hx
end
end Go.Proofs.Ytcemehocbemfmaa
