/-
  Function values; a range over a function: rules. Any program.
-/
import Derived.Test.YtbconcohpfkncaaGreatS
import Derived.RangeFuncNested
namespace Go.Proofs.YtbconcohpfkncaaGreat
open Go
attribute [local irreducible] pt init exs pur
/-! ## Function values -/
def NxOk (P : Program) : Next → World → (Ending → World → Prop) → Prop
  | .enter f as, w, Φ => CallsIn Fence.wide 0 P f as w Φ
  | .round l f t x y, w, Φ => RoundIn Fence.wide 0 P l f t x y w Φ
  | _, _, _ => False
/-- The function value v, called with these values where memory has Pre, returns a value and leaves pieces of which R is true. -/
def FnV (P : Program) (v : Value) (args : List Value) (Pre : List HP) (R : Value → List HP → Prop) : Prop :=
  ∃ fn caps, v = .func fn #[] caps ∧ ∀ F w, sat (Pre ++ F) w → ∃ nx, (invoke (.fn fn caps) args.toArray).run P w = .ok nx w ∧ NxOk P nx w (Ret w F R)
theorem FnV.of {P : Program} {f : FuncId} [hc : Cal P f] {args caps : List Value} {Pre : List HP} {R : Value → List HP → Prop} (h : Fn P f (args ++ caps).toArray Pre R) : FnV P (.func (.func f) #[] caps.toArray) args Pre R :=
  ⟨_, _, rfl, fun F w s => ⟨.enter f (args ++ caps).toArray, by simp [invoke, hc.out], h F w s⟩⟩
theorem NxOk.mono {P : Program} {nx : Next} {w : World} {Φ Ψ : Ending → World → Prop} (h : NxOk P nx w Φ) (k : ∀ e w', Φ e w' → Ψ e w') : NxOk P nx w Ψ := by
  cases nx with
  | enter f as => exact CallsIn.mono h k
  | round l f t x y => exact RoundIn.mono h k
  | _ => exact h.elim
theorem FnV.mono {P : Program} {v : Value} {args : List Value} {Pre : List HP} {R R' : Value → List HP → Prop} (h : FnV P v args Pre R) (k : ∀ v Q, R v Q → R' v Q) : FnV P v args Pre R' :=
  let ⟨fn, caps, hv, h⟩ := h
  ⟨fn, caps, hv, fun F w s => let ⟨nx, h1, h2⟩ := h F w s; ⟨nx, h1, h2.mono fun _ _ => Ret.mono k⟩⟩
theorem rounds_round {r : Option Nat} {P : Program} {l : Nat} {f : FuncId} {t : Array Value} {x y : Code} {w : World} {R : Ending → World → Prop} (h : RoundIn Fence.wide 0 P l f t x y w R) : RoundIn (fen r) 0 P l f t x y w R := h
section rules
variable {P : Program} {c : Cx} {A : Array Oper} {rest : List Oper} {K : Kont} {L : Env} {H F : List HP} {t : TypeId} {p : String} {e : Array Edge} {vs : List Value} {d : Nat}
theorem GO.callVG {dst : Option Nat} {x : Operand} {v0 : Value} {xs : List Operand} {ats : Array TypeId} {Pre : List HP} {R : Value → List HP → Prop} (hN : (match dst with | some d => Nat.blt d c.N | none => true) = true)
    (hx : evl L x = some v0) (hv : Vals L xs vs) (spec : FnV P v0 vs Pre R) (tk : Tks Pre H F)
    (k : ∀ v Q, R v Q → GO P c A rest K (match dst with | some d => (d, v) :: L | none => L) (Q ++ F)) : GO P c A (⟨dst, .call ⟨.value x, xs.toArray, ats⟩, t, p, e, none⟩ :: rest) K L H := by
  rintro a w ⟨h1, h2, D, h3, h4, h5⟩
  obtain ⟨fn, caps, rfl, spec⟩ := spec
  have s1 : sat (Pre ++ (F ++ (c.X ++ D.map dblk))) w := by
    rw [← List.append_assoc]; exact sat_perm (List.Perm.append_right _ tk) h5
  obtain ⟨nx, hrun, hnx⟩ := spec _ w s1
  have hargs : xs.toArray.map a.eval = vs.toArray := by simp [Vals.map h1 hv]
  have hex : (execOp a.eval ⟨dst, .call ⟨.value x, xs.toArray, ats⟩, t, p, e, none⟩).run P w = .ok nx w := by
    have he := h1.eval hx
    have hf : (#[] : Array Value) ++ vs.toArray = vs.toArray := by simp
    simp only [execOp, resolve, hargs, he, Deferred.ofValue, Sem.run_bind, Sem.run_pure, Result.andThen_ok, hf, hrun]
  simp only [opsWp, Region.wanted, if_true]
  rw [semAt_nd _ _ _ rfl, hex]
  have fin : ∀ en w', Ret w (F ++ (c.X ++ D.map dblk)) R en w' → ∃ v, en = .returned v ∧ opsWp (fen c.r) P A (Post c K) rest (a.put dst v) w' := by
    rintro en w' ⟨v, Q, rfl, hs, hR, hq⟩
    refine ⟨v, rfl, k v Q hR _ w' ⟨?_, h2.trans hs, D, ?_, h4, ?_⟩⟩
    · cases dst with
      | none => simpa [Act.put] using h1
      | some d => exact h1.put hN
    · cases dst <;> simpa [Act.put] using h3
    · rw [List.append_assoc]; exact hq
  cases nx with
  | enter f as =>
    refine ⟨fun h => by simp [fen, Fence.wide] at h, calls_round ?_⟩
    refine CallsIn.mono hnx fun en w' hr => ?_
    obtain ⟨v, rfl, h⟩ := fin en w' hr
    exact h
  | round l f t x y =>
    refine ⟨fun h => by simp [fen, Fence.wide] at h, rounds_round ?_⟩
    refine RoundIn.mono hnx fun en w' hr => ?_
    obtain ⟨v, rfl, h⟩ := fin en w' hr
    exact h
  | _ => exact hnx.elim
theorem GO.callV1 {x x1 : Operand} {v0 v1 : Value} {ats : Array TypeId} {Pre : List HP} {R : Value → List HP → Prop} (hN : Nat.blt d c.N = true) (hx : evl L x = some v0) (h1 : evl L x1 = some v1) (spec : FnV P v0 [v1] Pre R) (tk : Tks Pre H F)
    (k : ∀ v Q, R v Q → GO P c A rest K ((d, v) :: L) (Q ++ F)) : GO P c A (⟨some d, .call ⟨.value x, #[x1], ats⟩, t, p, e, none⟩ :: rest) K L H :=
  GO.callVG (dst := some d) (xs := [x1]) (vs := [v1]) hN hx ⟨h1, trivial⟩ spec tk k
theorem GO.callV2 {x x1 x2 : Operand} {v0 v1 v2 : Value} {ats : Array TypeId} {Pre : List HP} {R : Value → List HP → Prop} (hN : Nat.blt d c.N = true) (hx : evl L x = some v0) (h1 : evl L x1 = some v1) (h2 : evl L x2 = some v2) (spec : FnV P v0 [v1, v2] Pre R) (tk : Tks Pre H F)
    (k : ∀ v Q, R v Q → GO P c A rest K ((d, v) :: L) (Q ++ F)) : GO P c A (⟨some d, .call ⟨.value x, #[x1, x2], ats⟩, t, p, e, none⟩ :: rest) K L H :=
  GO.callVG (dst := some d) (xs := [x1, x2]) (vs := [v1, v2]) hN hx ⟨h1, h2, trivial⟩ spec tk k
/-- A closure made. -/
theorem GO.makeFunc {f : Go.Fn} {xs : List Operand} (hN : Nat.blt d c.N = true) (hv : Vals L xs vs)
    (k : GO P c A rest K ((d, .func f #[] vs.toArray) :: L) H) : GO P c A (⟨some d, .makeFunc f #[] xs.toArray, t, p, e, none⟩ :: rest) K L H :=
  GO.val hN rfl (fun a w Y h _ => by
    have hargs : xs.toArray.map a.eval = vs.toArray := by simp [Vals.map h hv]
    simp [execOp, hargs, Instr.makeFunc, Result.andThen]) k
theorem GO.makeFunc1 {f : Go.Fn} {x1 : Operand} {v1 : Value} (hN : Nat.blt d c.N = true) (h1 : evl L x1 = some v1)
    (k : GO P c A rest K ((d, .func f #[] #[v1]) :: L) H) : GO P c A (⟨some d, .makeFunc f #[] #[x1], t, p, e, none⟩ :: rest) K L H :=
  GO.makeFunc (xs := [x1]) (vs := [v1]) hN ⟨h1, trivial⟩ k
end rules

/-! ## Iterators -/
/-- g goes over xs: it hands them to yield one by one, till that says no more. J i: what memory has when i of them have come; X i: when yield has said no more at the i-th; Sh: what both look at; Gm: the iterator's own. -/
def SeqOK (P : Program) (g : Value) (xs : List (List Value)) (Sh Gm : List HP) : Prop :=
  ∃ gf caps, g = .func (.func gf) #[] caps ∧ Cal P gf ∧ ∀ (y : Value) (J X : Nat → List HP),
    (∀ i u, xs[i]? = some u → FnV P y u (J i ++ Sh) (fun v Q => (v = .bool true ∧ Q = J (i + 1) ++ Sh) ∨ (v = .bool false ∧ Q = X i ++ Sh))) →
    Fn P gf (#[y] ++ caps) (J 0 ++ (Sh ++ Gm)) (fun _ Q => Q = J xs.length ++ (Sh ++ Gm) ∨ ∃ i, i < xs.length ∧ Q = X i ++ (Sh ++ Gm))

def lrec (fn : FuncId) (tmps : Array Value) (ps : Array Tmp) (x y : Code) (D : Nat) (st : LoopState) (pe : Option Code) : Loop := { state := st, pending := pe, fn, tmps, params := ps, assign := x, body := y, defers := D }
def envP : List Nat → List Value → Env → Env
  | p :: ps, v :: vs, L => envP ps vs ((p, v) :: L)
  | _, _, L => L
theorem at_envP {N : Nat} {ds : List Deferred} : ∀ (ps : List Nat) (vs : List Value) (L : Env) (t : Array Value), (ps.all fun p => Nat.blt p N) = true → At N L { tmps := t, defers := ds } →
    At N (envP ps vs L) { tmps := (ps.zip vs).foldl (fun t (p, v) => t.setIfInBounds p v) t, defers := ds }
  | [], _, _, _, _, h => by simpa [envP] using h
  | _ :: _, [], _, _, _, h => by simpa [envP] using h
  | p :: ps, v :: vs, L, t, hp, h => by
    simp only [List.all_cons, Bool.and_eq_true] at hp
    simp only [envP, List.zip_cons_cons, List.foldl_cons]
    exact at_envP ps vs _ _ hp.2 (h.put (d := p) (v := v) hp.1)
theorem At.defs {N : Nat} {L : Env} {a : Act} {ds : List Deferred} (h : At N L a) : At N L { a with defers := ds } := h

section
variable {P : Program} {N : Nat} {l : Nat} {fn : FuncId} {tmps : Array Value} {psl : List Nat} {x y : Code} {D : Nat} {L : Env} {Sh : List HP}
def KB (J : List HP) (X : Code → List HP) (Sh F : List HP) : Kont
  | .normal, _, H => ImpS H (J ++ Sh ++ F)
  | .ret, _, H => ImpS H (X .ret ++ Sh ++ F)
  | .exit id, _, H => ImpS H (X (.exit id) ++ Sh ++ F)
  | .goto t, _, H => ImpS H (X (.goto t) ++ Sh ++ F)
  | _, _, _ => False
def KA (P : Program) (c : Cx) (y : Code) (K : Kont) : Kont
  | .normal, L, H => G P c y K L H
  | _, _, _ => False
/-- A round's contract out of the walk of the loop's body. -/
theorem FnV.yield {us : List Value} {J J' : List HP} {X : Code → List HP} (hN : (psl.all fun p => Nat.blt p N) = true) (hlen : us.length = psl.length) (ha : ∀ ds, At N L { tmps := tmps, defers := ds })
    (walk : ∀ w0 F, G P ⟨some l, N, w0, [pt l (.loop (lrec fn tmps psl.toArray x y D .ready none))], [], false⟩ x (KA P ⟨some l, N, w0, [pt l (.loop (lrec fn tmps psl.toArray x y D .busy none))], [], false⟩ y (KB J' X Sh F)) (envP psl us L) (J ++ Sh ++ F)) :
    FnV P (.func (.yield l) #[] #[]) us ((pt l (.loop (lrec fn tmps psl.toArray x y D .ready none)) :: J) ++ Sh)
      (fun v Q => (v = .bool true ∧ Q = (pt l (.loop (lrec fn tmps psl.toArray x y D .ready none)) :: J') ++ Sh) ∨ (v = .bool false ∧ Q = [exs fun jc => star (pt l (.loop (lrec fn tmps psl.toArray x y D .done (some jc))) :: X jc)] ++ Sh)) := by
  refine ⟨_, _, rfl, fun F w s => ?_⟩
  have hl := sat_pt s
  have hy := run_yield (P := P) (args := us.toArray) hl (by simp [lrec, hlen])
  have hy2 : (Instr.yield l us.toArray).run P w = .ok (.round l fn ((psl.zip us).foldl (fun t (p, v) => t.setIfInBounds p v) tmps) x y) w := by
    rw [hy]
    show Result.ok (Next.round l fn ((psl.toArray.zip us.toArray).foldl (fun t (p, v) => t.setIfInBounds p v) tmps) x y) w = _
    rw [← Array.foldl_toList]; simp
  refine ⟨_, by simp only [invoke]; exact hy2, ?_⟩
  show RoundIn Fence.wide 0 P l _ _ _ _ w _
  refine roundIn_of_wpIn trivial ?_
  have hat : At N (envP psl us L) { tmps := (psl.zip us).foldl (fun t (x : Nat × Value) => t.setIfInBounds x.1 x.2) tmps, defers := [] } := at_envP psl us L tmps hN (ha [])
  have s1 : sat ((J ++ Sh ++ F) ++ ([pt l (.loop (lrec fn tmps psl.toArray x y D .ready none))] ++ ([] : List Nat).map dblk)) w := by
    refine sat_perm ?_ s
    simp only [List.map_nil, List.append_nil, List.cons_append, List.append_assoc]
    exact (List.perm_append_singleton _ _).symm.trans (by simp)
  have g := walk w F { tmps := (psl.zip us).foldl (fun t (x : Nat × Value) => t.setIfInBounds x.1 x.2) tmps, defers := [] } w ⟨hat, Same.refl w, [], rfl, fun _ => rfl, s1⟩
  refine wpIn_mono g ?_
  rintro e1 a1 w1 ⟨L1, H1, ⟨hat1, hsm1, ds1, hd1, hr1, hs1⟩, k1⟩
  cases e1 <;> try exact k1.elim
  have hds1 : ds1 = [] := hr1 rfl
  subst hds1
  have s2 : sat (pt l (.loop (lrec fn tmps psl.toArray x y D .ready none)) :: H1) w1 := by
    simp only [List.map_nil, List.append_nil] at hs1
    exact sat_perm (List.perm_append_singleton _ _) hs1
  have hl1 := sat_pt s2
  refine ⟨_, run_beginRound hl1 rfl, ?_⟩
  have s3 : sat (pt l (.loop (lrec fn tmps psl.toArray x y D .busy none)) :: H1) (w1.putObj l (.loop (lrec fn tmps psl.toArray x y D .busy none))) :=
    sat_upd s2 (World.putObj_heap_same (Array.getElem?_eq_some_iff.1 hl1).1) (fun k hk => World.putObj_heap_other hk)
  have s3' : sat (H1 ++ ([pt l (.loop (lrec fn tmps psl.toArray x y D .busy none))] ++ ([] : List Nat).map dblk)) (w1.putObj l (.loop (lrec fn tmps psl.toArray x y D .busy none))) := by
    simp only [List.map_nil, List.append_nil]
    exact sat_perm (List.perm_append_singleton _ _).symm s3
  refine wpIn_mono (k1 a1 _ ⟨hat1, hsm1.trans (Same.putObj _ _ _), [], hd1, fun _ => rfl, s3'⟩) ?_
  rintro e2 a2 w2 ⟨L2, H2, ⟨hat2, hsm2, ds2, hd2, hr2, hs2⟩, k2⟩
  have hds2 : ds2 = [] := hr2 rfl
  subst hds2
  have s4 : sat (pt l (.loop (lrec fn tmps psl.toArray x y D .busy none)) :: H2) w2 := by
    simp only [List.map_nil, List.append_nil] at hs2
    exact sat_perm (List.perm_append_singleton _ _) hs2
  have hl2 := sat_pt s4
  have fin : ∀ (jc : Code), ImpS H2 (X jc ++ Sh ++ F) → ∃ v w', (Instr.endRound l (some jc)).run P w2 = .ok v w' ∧ Ret w F (fun v Q => (v = .bool true ∧ Q = (pt l (.loop (lrec fn tmps psl.toArray x y D .ready none)) :: J') ++ Sh) ∨ (v = .bool false ∧ Q = [exs fun jc => star (pt l (.loop (lrec fn tmps psl.toArray x y D .done (some jc))) :: X jc)] ++ Sh)) (.returned v) w' := by
    intro jc hsb
    refine ⟨_, _, run_endRound (some jc) hl2, .bool false, [exs fun jc => star (pt l (.loop (lrec fn tmps psl.toArray x y D .done (some jc))) :: X jc)] ++ Sh, rfl, hsm2.trans (Same.putObj _ _ _), .inr ⟨rfl, rfl⟩, ?_⟩
    have s5 := sat_upd s4 (World.putObj_heap_same (o := .loop (lrec fn tmps psl.toArray x y D .done (some jc))) (Array.getElem?_eq_some_iff.1 hl2).1) (fun k hk => World.putObj_heap_other hk)
    change sat _ (w2.putObj l (.loop (lrec fn tmps psl.toArray x y D .done (some jc))))
    refine sat_exs.2 ⟨jc, sat_flat.2 ?_⟩
    have h6 : ImpS (pt l (.loop (lrec fn tmps psl.toArray x y D .done (some jc))) :: H2) (pt l (.loop (lrec fn tmps psl.toArray x y D .done (some jc))) :: (X jc ++ Sh ++ F)) := ImpS.cons Tk.h hsb
    have := h6 [] _ (by simpa using s5)
    simpa using this
  cases e2 with
  | normal =>
    refine ⟨_, _, run_endRound none hl2, .bool true, (pt l (.loop (lrec fn tmps psl.toArray x y D .ready none)) :: J') ++ Sh, rfl, hsm2.trans (Same.putObj _ _ _), .inl ⟨rfl, rfl⟩, ?_⟩
    have s5 := sat_upd s4 (World.putObj_heap_same (o := .loop (lrec fn tmps psl.toArray x y D .ready none)) (Array.getElem?_eq_some_iff.1 hl2).1) (fun k hk => World.putObj_heap_other hk)
    have h6 : ImpS (pt l (.loop (lrec fn tmps psl.toArray x y D .ready none)) :: H2) (pt l (.loop (lrec fn tmps psl.toArray x y D .ready none)) :: (J' ++ Sh ++ F)) := ImpS.cons Tk.h k2
    have := h6 [] _ (by simpa using s5)
    change sat _ (w2.putObj l (.loop (lrec fn tmps psl.toArray x y D .ready none)))
    simpa using this
  | ret => exact fin .ret k2
  | exit id => exact fin (.exit id) k2
  | goto t => exact fin (.goto t) k2
  | panic ch => exact k2.elim
  | outgrown => exact k2.elim
end

/-- The statement 'for .. := range g { .. }'. -/
theorem G.rangeF {P : Program} {c : Cx} {K : Kont} {L : Env} {H F : List HP} {g : Operand} {psl : List Nat} {x y : Code} {v : Value} {xs : List (List Value)} {Sh Gm : List HP} (J : Nat → List HP) (X : Nat → Code → List HP)
    (hX : ∀ l0, c.r = some l0 → ∃ r0 X', c.X = pt l0 (.loop r0) :: X') (hN : (psl.all fun p => Nat.blt p c.N) = true) (hlen : ∀ u ∈ xs, u.length = psl.length)
    (hg : evl L g = some v) (seq : SeqOK P v xs Sh Gm) (tk : Tks (J 0 ++ (Sh ++ Gm)) H F)
    (round : ∀ l Lr Lb w0 F i u, xs[i]? = some u → G P ⟨some l, c.N, w0, [pt l (.loop Lr)], [], false⟩ x (KA P ⟨some l, c.N, w0, [pt l (.loop Lb)], [], false⟩ y (KB (J (i + 1)) (X i) Sh F)) (envP psl u L) (J i ++ Sh ++ F))
    (done : K .normal L (J xs.length ++ (Sh ++ Gm) ++ F))
    (stop : ∀ i jc, i < xs.length → G P c jc K L (X i jc ++ (Sh ++ Gm) ++ F)) (hnd : c.nd = false := by rfl) : G P c (.rangeFunc g psl.toArray x y) K L H := by
  rintro a w ⟨h1, h2, ds, h3, h4, h5⟩
  obtain ⟨gf, caps, rfl, hcal, seq⟩ := seq
  have tk : H.Perm (J 0 ++ (Sh ++ Gm) ++ F) := tk
  refine wpIn_rangeFunc fun fn _ => ?_
  have hge := h1.eval hg
  have main : ∀ (l D : Nat) (ms : List Nat) (w1 : World), (Instr.enterLoop fn a.tmps psl.toArray x y (fen c.r).round).run P w = .ok (l, ms.map mark) w1 → Same w w1 → ((c.r.isSome || c.nd) = true → ms = []) →
      sat (pt l (.loop (lrec fn a.tmps psl.toArray x y D .ready none)) :: (H ++ (c.X ++ (ms ++ ds).map dblk))) w1 →
      ∃ (l : Nat) (mark : List Deferred) (w₁ : World) (d : Deferred) (w₁' : World) (f : FuncId) (args : Array Value) (w₂ : World),
      (Instr.enterLoop fn a.tmps psl.toArray x y (fen c.r).round).run P w = .ok (l, mark) w₁ ∧
      (resolve a.eval (rangeCall g l) 0).run P w₁ = .ok d w₁' ∧
      (∀ f', Target.leads P w₁' d.target d.args = some f' → (fen c.r).fn f') ∧
      (invoke d.target d.args).run P w₁' = .ok (.enter f args) w₂ ∧
      ((fen c.r).depth.isSome = true → 1 ≤ 0) ∧
      CallsIn (fen c.r) (0 - 1) P f args w₂ (rangePost (fen c.r) 0 P l (Post c K) { a with defers := mark ++ a.defers }) := by
    intro l D ms w1 hent hsame hms hsat
    refine ⟨l, ms.map mark, w1, { target := .fn (.func gf) caps, args := #[.func (.yield l) #[] #[]] }, w1, gf, #[.func (.yield l) #[] #[]] ++ caps, w1, hent, ?_, fun _ _ => trivial, ?_, fun h => by simp [fen, Fence.wide] at h, ?_⟩
    · have hcv : a.eval (.const (.func (.yield l) #[] #[])) = .func (.yield l) #[] #[] := rfl
      simp [resolve, hge, Deferred.ofValue, hcv]
    · simp [invoke, hcal.out]
    · have hd2 : ms.map mark ++ a.defers = (ms ++ ds).map mark ++ c.D := by rw [h3, List.map_append, List.append_assoc]
      have hr2 : (c.r.isSome || c.nd) = true → ms ++ ds = [] := fun h => by rw [hms h, h4 h]; rfl
      have s0 : sat ((pt l (.loop (lrec fn a.tmps psl.toArray x y D .ready none)) :: J 0) ++ (Sh ++ Gm) ++ (F ++ (c.X ++ (ms ++ ds).map dblk))) w1 := by
        refine sat_perm ?_ hsat
        simp only [List.cons_append]
        refine List.Perm.cons _ ?_
        have := List.Perm.append_right (c.X ++ (ms ++ ds).map dblk) tk
        simpa only [List.append_assoc] using this
      have hc := seq (.func (.yield l) #[] #[]) (fun i => pt l (.loop (lrec fn a.tmps psl.toArray x y D .ready none)) :: J i) (fun i => [Go.Proofs.YtbconcohpfkncaaGreat.exs fun jc => star (pt l (.loop (lrec fn a.tmps psl.toArray x y D .done (some jc))) :: X i jc)])
        (fun i u hu => FnV.yield (J' := J (i + 1)) (X := X i) hN (hlen u (List.mem_of_getElem? hu)) (fun ds => h1.defs (ds := ds)) (fun w0 F => round l _ _ w0 F i u hu))
      refine calls_round ((hc _ w1 s0).mono ?_)
      rintro en w2 ⟨r, Q, rfl, hsm, hQ, hq⟩
      rcases hQ with rfl | ⟨i, hi, rfl⟩
      · have hl2 := sat_pt hq
        refine ⟨none, _, run_endLoop hl2 (by simp [lrec]), L, J xs.length ++ (Sh ++ Gm) ++ F, ⟨h1.defs, (h2.trans hsame).trans (hsm.trans (Same.putObj _ _ _)), ms ++ ds, hd2, hr2, ?_⟩, done⟩
        have s5 := sat_upd hq (World.putObj_heap_same (o := .loop { (lrec fn a.tmps psl.toArray x y D .ready none) with state := .exhausted }) (Array.getElem?_eq_some_iff.1 hl2).1) (fun k hk => World.putObj_heap_other hk)
        have := sat_right (l := [pt l _]) s5
        simpa using this
      · obtain ⟨jc, hq⟩ := sat_exs.1 (by simpa using hq)
        have hq := sat_flat.1 hq
        have hl2 := sat_pt hq
        refine ⟨some jc, _, run_endLoop hl2 (by simp [lrec]), ?_⟩
        refine stop i jc hi _ _ ⟨h1.defs, (h2.trans hsame).trans (hsm.trans (Same.putObj _ _ _)), ms ++ ds, hd2, hr2, ?_⟩
        have s5 := sat_upd hq (World.putObj_heap_same (o := .loop { (lrec fn a.tmps psl.toArray x y D .done (some jc)) with state := .exhausted }) (Array.getElem?_eq_some_iff.1 hl2).1) (fun k hk => World.putObj_heap_other hk)
        have := sat_right (l := [pt l _]) s5
        simpa using this
  cases hr : c.r with
  | none =>
    rw [hr] at main
    refine main (w.heap.size + 1) w.heap.size [w.heap.size] _ (run_enterLoop_outer _ _ _ _ _) ((Same.alloc _ _).trans (Same.alloc _ _)) (fun h => by simp [hnd] at h) ?_
    have s1 := sat_alloc h5 (.deferred (some []))
    have s2 := sat_alloc s1 (.loop (lrec fn a.tmps psl.toArray x y w.heap.size .ready none))
    rw [World.size_alloc] at s2
    refine sat_perm (List.Perm.cons _ ?_) s2
    simp only [List.cons_append, List.nil_append, List.map_cons]
    have e1 : (dblk w.heap.size :: (H ++ (c.X ++ ds.map dblk))).Perm (H ++ (dblk w.heap.size :: (c.X ++ ds.map dblk))) := List.perm_middle.symm
    exact e1.trans (List.Perm.append_left H List.perm_middle.symm)
  | some l0 =>
    obtain ⟨r0, X', hX'⟩ := hX l0 hr
    rw [hr] at main
    have hl0 : w.heap[l0]? = some (.loop r0) := by
      rw [hX'] at h5
      have : sat (pt l0 (.loop r0) :: (H ++ (X' ++ ds.map dblk))) w := sat_perm (by simp only [List.cons_append]; exact List.perm_middle) h5
      exact sat_pt this
    refine main w.heap.size r0.defers [] _ (run_enterLoop_inner hl0 _ _ _ _ _) (Same.alloc _ _) (fun _ => rfl) ?_
    exact sat_alloc h5 _
end Go.Proofs.YtbconcohpfkncaaGreat
