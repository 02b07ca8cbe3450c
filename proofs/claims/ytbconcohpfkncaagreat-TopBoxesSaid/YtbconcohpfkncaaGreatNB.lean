/-
  Rules for pointers and shifts. Any program.
-/
import Derived.Test.YtbconcohpfkncaaGreatNA
import Derived.Laws.MakeOwn
namespace Go.Proofs.YtbconcohpfkncaaGreat
open Go
attribute [local irreducible] pt init exs pur own
section
variable {P : Program} {c : Cx} {A : Array Oper} {rest : List Oper} {K : Kont} {L : Env} {H F : List HP} {t : TypeId} {p : String} {e : Array Edge} {d : Nat} {ty ty' : TypeId} {x y : Operand} {m n : Int}
theorem GO.nilCheck {a : Addr} (hN : Nat.blt d c.N = true) (hx : evl L x = some (.pointer (some a)))
    (k : GO P c A rest K ((d, .pointer (some a)) :: L) H) : GO P c A (⟨some d, .nilCheck x, t, p, e, none⟩ :: rest) K L H :=
  GO.val hN rfl (fun s w Y h _ => by simp [execOp, h.eval hx]) k
theorem EqR.ptrNil {el : TypeId} {q : Option Addr} [hu : UL P ty (.pointer el)] {n : Nat} : EqR P (n + 1) ty (.pointer q) (.pointer none) q.isNone := fun w => by
  cases q <;> simp [Op.equalIn, Sem.run_bind, run_underlying hu.out, Result.andThen]
/-- A pointer held against nil. -/
theorem GO.eqNilP {el : TypeId} {q : Option Addr} [hu : UL P ty (.pointer el)] (hN : Nat.blt d c.N = true) (hx : evl L x = some (.pointer q))
    (k : GO P c A rest K ((d, .bool q.isNone) :: L) H) : GO P c A (⟨some d, .binOp .eql ty x (.const (.pointer none)) ty', t, p, e, none⟩ :: rest) K L H :=
  GO.val hN rfl (fun s w Y h _ => by
    have hc : s.eval (.const (.pointer none)) = .pointer none := rfl
    simp only [execOp, h.eval hx, hc]
    have := (EqR.ptrNil : EqR P 10000 ty (.pointer q) (.pointer none) q.isNone) w
    simp [Sem.run_bind, eqGuard, binOp, Op.equal, Op.maxDepth, this, Result.andThen]) k
theorem GO.neqNilP {el : TypeId} {q : Option Addr} [hu : UL P ty (.pointer el)] (hN : Nat.blt d c.N = true) (hx : evl L x = some (.pointer q))
    (k : GO P c A rest K ((d, .bool q.isSome) :: L) H) : GO P c A (⟨some d, .binOp .neq ty x (.const (.pointer none)) ty', t, p, e, none⟩ :: rest) K L H :=
  GO.val hN rfl (fun s w Y h _ => by
    have hc : s.eval (.const (.pointer none)) = .pointer none := rfl
    simp only [execOp, h.eval hx, hc]
    have := (EqR.ptrNil : EqR P 10000 ty (.pointer q) (.pointer none) q.isNone) w
    cases q <;> simp [Sem.run_bind, eqGuard, binOp, Op.equal, Op.maxDepth, this, Result.andThen]) k
theorem GO.buildPart3 {i1 i2 i3 : Nat} {x1 x2 x3 : Operand} {v1 v2 v3 : Value} {l : List Value} (hb : P.built ty [(i1, v1), (i2, v2), (i3, v3)] = some l.toArray) (hN : Nat.blt d c.N = true) (h1 : evl L x1 = some v1) (h2 : evl L x2 = some v2) (h3 : evl L x3 = some v3)
    (k : GO P c A rest K ((d, .agg l.toArray) :: L) H) : GO P c A (⟨some d, .build ty #[(i1, x1), (i2, x2), (i3, x3)], t, p, e, none⟩ :: rest) K L H :=
  GO.buildPart (ps := [(i1, x1), (i2, x2), (i3, x3)]) hb hN ⟨rfl, h1, rfl, h2, rfl, h3, trivial⟩ k
/-- A cell of a slice of our own. -/
theorem Rd.own {el : TypeId} {sz n' b cap j : Nat} {xs : List Value} {u : Value} (h : xs[j]? = some u) : Rd (own el sz n' (.slice (some ⟨b, 0, none⟩) n' cap) xs) ⟨b, j, none⟩ u := fun l w s => by
  rcases own_shape s with ⟨h0, _⟩ | ⟨b2, cap2, rest2, h0, _, _, _, _, s2⟩
  · cases h0
  · injection h0 with h0 _ _
    injection h0 with h0
    injection h0 with h0 _ _
    subst h0
    have hj2 : (xs ++ rest2)[j]? = some u := by rw [List.getElem?_append_left (List.getElem?_eq_some_iff.1 h).1]; exact h
    exact Rd.row hj2 l w s2
theorem own_form {el : TypeId} {sz n' : Nat} {v : Value} {xs : List Value} {l : List HP} {w : World} (hn : 0 < n') (s : sat (own el sz n' v xs :: l) w) : ∃ b cap, v = .slice (some ⟨b, 0, none⟩) n' cap ∧ n' ≤ cap ∧ cap ≤ maxLen ∧ xs.length = n' * sz := by
  rcases own_shape s with ⟨_, h0, _, _⟩ | ⟨b, cap, rest', rfl, g1, g2, g3, _, _⟩
  · omega
  · exact ⟨b, cap, rfl, g2, g3, g1⟩
theorem GO.ownForm {el : TypeId} {sz n' : Nat} {v : Value} {xs : List Value} {os : List Oper} (hn : 0 < n') (tk : Tk (own el sz n' v xs) H F) (k : ∀ b cap, v = .slice (some ⟨b, 0, none⟩) n' cap → n' ≤ cap → cap ≤ maxLen → xs.length = n' * sz → GO P c A os K L H) : GO P c A os K L H := by
  rintro a w ⟨h1, h2, ds, h3, h4, h5⟩
  obtain ⟨b, cap, e1, e2, e3, e4⟩ := own_form hn (sat_perm (List.Perm.append_right _ tk) h5)
  exact k b cap e1 e2 e3 e4 a w ⟨h1, h2, ds, h3, h4, h5⟩
theorem G.ownForm {el : TypeId} {sz n' : Nat} {v : Value} {xs : List Value} {C : Code} (hn : 0 < n') (tk : Tk (own el sz n' v xs) H F) (k : ∀ b cap, v = .slice (some ⟨b, 0, none⟩) n' cap → n' ≤ cap → cap ≤ maxLen → xs.length = n' * sz → G P c C K L H) : G P c C K L H := by
  rintro a w ⟨h1, h2, ds, h3, h4, h5⟩
  obtain ⟨b, cap, e1, e2, e3, e4⟩ := own_form hn (sat_perm (List.Perm.append_right _ tk) h5)
  exact k b cap e1 e2 e3 e4 a w ⟨h1, h2, ds, h3, h4, h5⟩
/-- Cells of a slice of our own, written. -/
theorem GO.storeOwn {el : TypeId} {sz w0 n' b cap o : Nat} {v : Value} {xs vs : List Value} [hs : SZ P ty w0] (hx : evl L x = some (.pointer (some ⟨b, o, none⟩))) (hy : evl L y = some v) (hv : v.cells = vs.toArray) (hw : vs.length = w0)
    (tk : Tk (own el sz n' (.slice (some ⟨b, 0, none⟩) n' cap) xs) H F) (ho : o + w0 ≤ xs.length) (h1 : ∀ u ∈ vs, u.oneCell' = true)
    (k : GO P c A rest K L (own el sz n' (.slice (some ⟨b, 0, none⟩) n' cap) (xs.take o ++ vs ++ xs.drop (o + w0)) :: F)) : GO P c A (⟨none, .store ty x y, t, p, e, none⟩ :: rest) K L H :=
  GO.own_open tk (fun h _ _ => by cases h) (fun b' cap' rst hv' g1 g2 g3 g4 => by
    injection hv' with h0 _ h2
    injection h0 with h0
    injection h0 with h0 _ _
    subst h0 h2
    refine GO.storeG hx hy hv hw Tk.h (by rw [List.length_append]; omega) h1 ?_
    have e1 : (xs ++ rst).take o ++ vs ++ (xs ++ rst).drop (o + w0) = (xs.take o ++ vs ++ xs.drop (o + w0)) ++ rst := by
      rw [List.take_append_of_le_length (by omega), List.drop_append_of_le_length ho]
      simp only [List.append_assoc]
    have e2 : (xs.take o ++ vs ++ xs.drop (o + w0)).length = xs.length := by simp only [List.length_append, List.length_take, List.length_drop]; omega
    rw [e1]
    exact GO.ownShut rfl (by rw [e2, g1]) g2 g3 (by rw [List.length_append, e2, ← List.length_append]; exact g4) k)
end
/-! ## A function's contract, its memory at the end told in other words -/
def KF2 (P : Program) (fn : Func) (R : Value → List HP → Prop) (F : List HP) : Kont
  | .normal, L, H => ∃ v Q, Res P fn.ntmps fn L H v ∧ R v Q ∧ ImpS H (Q ++ F)
  | .ret, L, H => ∃ v Q, Res P fn.ntmps fn L H v ∧ R v Q ∧ ImpS H (Q ++ F)
  | _, _, _ => False
theorem Fn.mk2 {P : Program} {f : FuncId} {args : Array Value} {Pre : List HP} {R : Value → List HP → Prop} {fn : Func} {x : Code} (hf : P.funcs[f]? = some fn) (hb : fn.body = some x) (hN : Nat.ble args.size fn.ntmps = true)
    (h : ∀ w0 F, G P ⟨none, fn.ntmps, w0, [], [], false⟩ x (KF2 P fn R F) (penv 0 args.toList) (Pre ++ F)) : Fn P f args Pre R := by
  intro F w s
  have hN' : args.size ≤ fn.ntmps := by simpa using hN
  refine callsIn_of_wp_marks (fn := fn) (c := x) hf hb trivial ?_ rfl
  refine wpIn_mono (h w F _ w ⟨⟨?_, ?_⟩, Same.refl w, [], rfl, fun _ => rfl, by simpa using s⟩) ?_
  · simp; omega
  · intro t v e
    obtain ⟨_, h2⟩ := look_penv _ _ _ _ e
    simp at h2
    have hlt : t < args.size := by
      have := (Array.getElem?_eq_some_iff.1 h2).1; exact this
    rw [Array.getElem?_append_left hlt]; exact h2
  · rintro e a' w' ⟨L', H', ⟨h1, h2, ds, h3, _, h5⟩, q⟩
    have fin : (∃ v Q, Res P fn.ntmps fn L' H' v ∧ R v Q ∧ ImpS H' (Q ++ F)) → LeavesInM Fence.wide 0 P fn a'.tmps (Ret w F R) a'.defers .returning w' := by
      rintro ⟨v, Q, hr, hR, hsb⟩
      rw [show a'.defers = ds.map mark by simpa using h3]
      refine leaves_marks (l := H') (v := v) ds w' (by simpa using h5) fun w2 sm sl => ⟨?_, v, Q, rfl, h2.trans sm, hR, ?_⟩
      · exact hr a' w2 [] h1 (by simpa using sl)
      · have := hsb [] w2 (by simpa using sl)
        simpa using this
    cases e with
    | normal => exact fin q
    | ret => exact fin q
    | _ => exact q.elim
section
variable {P : Program} {L : Env} {H F : List HP} {fn : Func} {R : Value → List HP → Prop} {Q : List HP} {q1 q2 q3 q4 : ResultVar} {v1 v2 v3 v4 : Value}
theorem KF2.n0 (hr : fn.results = #[]) (h : R (.tuple #[]) Q) (sb : ImpS H (Q ++ F)) : KF2 P fn R F .normal L H := ⟨_, Q, RVs.res (rs := []) (vs := []) hr trivial, h, sb⟩
theorem KF2.r0 (hr : fn.results = #[]) (h : R (.tuple #[]) Q) (sb : ImpS H (Q ++ F)) : KF2 P fn R F .ret L H := ⟨_, Q, RVs.res (rs := []) (vs := []) hr trivial, h, sb⟩
theorem KF2.r1 (hr : fn.results = #[q1]) (h1 : RV P L H q1 v1) (h : R v1 Q) (sb : ImpS H (Q ++ F)) : KF2 P fn R F .ret L H := ⟨_, Q, RVs.res (rs := [q1]) (vs := [v1]) hr ⟨h1, trivial⟩, h, sb⟩
theorem KF2.r2 (hr : fn.results = #[q1, q2]) (h1 : RV P L H q1 v1) (h2 : RV P L H q2 v2) (h : R (.tuple #[v1, v2]) Q) (sb : ImpS H (Q ++ F)) : KF2 P fn R F .ret L H := ⟨_, Q, RVs.res (rs := [q1, q2]) (vs := [v1, v2]) hr ⟨h1, h2, trivial⟩, h, sb⟩
theorem KF2.r3 (hr : fn.results = #[q1, q2, q3]) (h1 : RV P L H q1 v1) (h2 : RV P L H q2 v2) (h3 : RV P L H q3 v3) (h : R (.tuple #[v1, v2, v3]) Q) (sb : ImpS H (Q ++ F)) : KF2 P fn R F .ret L H := ⟨_, Q, RVs.res (rs := [q1, q2, q3]) (vs := [v1, v2, v3]) hr ⟨h1, h2, h3, trivial⟩, h, sb⟩
end
end Go.Proofs.YtbconcohpfkncaaGreat
