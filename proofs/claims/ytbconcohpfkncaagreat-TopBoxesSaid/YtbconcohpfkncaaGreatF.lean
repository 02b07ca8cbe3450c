/-
  A region whose order of evaluation is open: operations that change nothing, in any order, then the others in a forced order. Any program.
-/
import Derived.Test.YtbconcohpfkncaaGreatE
namespace Go.Proofs.YtbconcohpfkncaaGreat
open Go

def Act.putD (a : Act) (D : List Deferred) (dst : Option Nat) (v : Value) : Act := ({ a with defers := D ++ a.defers } : Act).put dst v
theorem putD_self {a : Act} {D : List Deferred} {d : Nat} {v : Value} (h : d < a.tmps.size) : (Act.putD a D (some d) v).tmps[d]? = some v := by
  simp only [Act.putD, Act.put]; rw [Array.getElem?_setIfInBounds_self_of_lt h]
theorem putD_ne {a : Act} {D : List Deferred} {dst : Option Nat} {s : Nat} {v : Value} (h : ∀ d, dst = some d → d ≠ s) : (Act.putD a D dst v).tmps[s]? = a.tmps[s]? := by
  cases dst with
  | none => rfl
  | some d => simp only [Act.putD, Act.put]; rw [Array.getElem?_setIfInBounds_ne (h d rfl)]
/-- One operation, with what becomes of its value. -/
def oneOp (F : Fence) (P : Program) (A : Array Oper) (o : Oper) (a : Act) (w : World) (Φ : List Deferred → Value → World → Prop) : Prop :=
  if Region.wanted o (yielded A a.tmps) then
    match (o.semAt F.round a.eval).run P w with
    | .ok (.value v) w' => Φ [] v w'
    | .ok .skip w' => Φ [] undef w'
    | .ok (.defer d) w' => Φ [d] undef w'
    | .ok (.enter f args) w' => (F.depth.isSome = true → 1 ≤ 0) ∧ CallsIn F (0 - 1) P f args w' fun | .returned v, w'' => Φ [] v w'' | _, _ => False
    | .ok (.row r args) w' => (F.depth.isSome = true → 1 ≤ 0) ∧ RowsIn F (0 - 1) P r args w' fun v w'' => Φ [] v w''
    | .ok (.round l f t x y) w' => (F.depth.isSome = true → 1 ≤ 0) ∧ RoundIn F (0 - 1) P l f t x y w' fun | .returned v, w'' => Φ [] v w'' | _, _ => False
    | _ => False
  else Φ [] undef w

theorem oneOp_of {F : Fence} {P : Program} {A : Array Oper} {Q : Exit → Act → World → Prop} {o : Oper} {a : Act} {w : World} (hn : ∀ e a w, Q e a w → e = .normal)
    (h : opsWp F P A Q [o] a w) : oneOp F P A o a w (fun D v w' => Q .normal (Act.putD a D o.dst v) w') := by
  simp only [opsWp] at h
  unfold oneOp
  split
  · rename_i hw
    rw [if_pos hw] at h
    cases hr : (o.semAt F.round a.eval).run P w with
    | halt x w' =>
      rw [hr] at h
      cases x with
      | panic v => have := hn _ _ _ h; cases this
      | _ => exact h.elim
    | ok x w' =>
      rw [hr] at h
      have kill : ∀ {e : Ending} {w'' : World}, (match e, w'' with | .returned v, w'' => Q .normal (a.put o.dst v) w'' | .panicked chain, w'' => Q (.panic chain) a w'' | .outgrown, _ => LetsOut Q) → (match e, w'' with | .returned v, w'' => Q .normal (a.put o.dst v) w'' | _, _ => False) := by
        intro e w'' he
        cases e with
        | returned v => exact he
        | panicked chain => have := hn _ _ _ he; cases this
        | outgrown => obtain ⟨x, y, hq⟩ := he; have := hn _ _ _ hq; cases this
      cases x with
      | value v => exact h
      | skip => exact h
      | defer d => exact h
      | enter f args => exact ⟨h.1, h.2.mono fun e w'' he => kill he⟩
      | row r args => exact h
      | round l f t x y => exact ⟨h.1, h.2.mono fun e w'' he => kill he⟩
      | _ => exact h.elim
  · rename_i hw
    rw [if_neg hw] at h
    exact h
theorem oneOp_mono {F : Fence} {P : Program} {A : Array Oper} {o : Oper} {a : Act} {w : World} {Φ Ψ : List Deferred → Value → World → Prop} (h : oneOp F P A o a w Φ) (k : ∀ D v w', Φ D v w' → Ψ D v w') : oneOp F P A o a w Ψ := by
  unfold oneOp at h ⊢
  split
  · rename_i hw
    rw [if_pos hw] at h
    cases hr : (o.semAt F.round a.eval).run P w with
    | halt x w' => rw [hr] at h; exact h.elim
    | ok x w' =>
      rw [hr] at h
      cases x with
      | value v => exact k _ _ _ h
      | skip => exact k _ _ _ h
      | defer d => exact k _ _ _ h
      | enter f args => exact ⟨h.1, h.2.mono fun e w'' he => by cases e with | returned v => exact k _ _ _ he | _ => exact he.elim⟩
      | row r args => exact ⟨h.1, h.2.mono fun v w'' he => k _ _ _ he⟩
      | round l f t x y => exact ⟨h.1, h.2.mono fun e w'' he => by cases e with | returned v => exact k _ _ _ he | _ => exact he.elim⟩
      | _ => exact h.elim
  · rename_i hw
    rw [if_neg hw] at h
    exact k _ _ _ h
theorem oneOp_run {F : Fence} {P : Program} {A : Array Oper} {Q : Exit → Act → World → Prop} {o : Oper} {i : Nat} {l : List Nat} {a : Act} {w : World} (hF : ∀ f, F.fn f) (ho : A[i]? = some o)
    (h : oneOp F P A o a w (fun D v w' => wpOpsIn F 0 P A Q l (Act.putD a D o.dst v) w')) : wpOpsIn F 0 P A Q (i :: l) a w := by
  simp only [wpOpsIn, ho]
  unfold oneOp at h
  split
  · rename_i hw
    rw [if_pos hw] at h
    refine ⟨fun f _ => hF f, ?_⟩
    cases hr : (o.semAt F.round a.eval).run P w with
    | halt x w' => rw [hr] at h; exact h.elim
    | ok x w' =>
      rw [hr] at h
      cases x with
      | value v => exact h
      | skip => exact h
      | defer d => exact h
      | enter f args => exact ⟨h.1, h.2.mono fun e w'' he => by cases e with | returned v => exact he | _ => exact he.elim⟩
      | row r args => exact h
      | round l f t x y => exact ⟨h.1, h.2.mono fun e w'' he => by cases e with | returned v => exact he | _ => exact he.elim⟩
      | _ => exact h.elim
  · rename_i hw
    rw [if_neg hw] at h
    exact ⟨fun f _ => hF f, h⟩

/-! ### An operation looks at its operands alone -/
theorem call_congr {ρ ρ' : Operand → Value} {c : Call} (h : ∀ x ∈ c.operands.toList, ρ x = ρ' x) (t : TypeId) : resolve ρ c t = resolve ρ' c t := by
  have hargs : c.args.map ρ = c.args.map ρ' := by
    apply Array.ext'
    simp only [Array.toList_map]
    apply List.map_congr_left
    intro x hx
    exact h x (by unfold Call.operands; simp [hx])
  unfold resolve
  rw [hargs]
  cases hc : c.callee with
  | value f => simp only [h f (by unfold Call.operands; simp [hc])]
  | invoke r m => simp only [h r (by unfold Call.operands; simp [hc])]
  | builtin b => rfl
def qkind : Op → Bool
  | .move _ | .assign _ | .pick _ _ _ | .load _ _ | .binOp _ _ _ _ _ | .unOp _ _ _ | .convert _ _ _ | .extract _ _ | .fieldAddr _ _ _ | .field _ _ _ | .indexAddr _ _ _ | .index _ _ _ | .lookup _ _ _ _ | .call _ | .nilCheck _ | .slice _ _ _ _ _ | .makeInterface _ _ | .box _ _ | .alloc _ | .store _ _ _ | .entry _ | .build _ _ | .makeFunc _ _ _ | .buildSlice _ _ _ | .makeSlice _ _ _ | .mapUpdate _ _ _ _ => true
  | _ => false
theorem qk_ndef {op : Op} (h : qkind op = true) : ndef op = true := by cases op <;> first | rfl | (simp [qkind] at h)
theorem exec_congr {ρ ρ' : Operand → Value} {o : Oper} (hq : qkind o.op = true) (h : ∀ x ∈ o.op.operands.toList, ρ x = ρ' x) : execOp ρ o = execOp ρ' o := by
  obtain ⟨dst, op, t, p, e, g⟩ := o
  cases op <;> simp only [qkind, Bool.false_eq_true] at hq <;> simp only [Op.operands] at h <;> unfold execOp <;> try (simp_all; done)
  case slice t x lo hi mx =>
    simp only [h x (by simp)]
    have e1 : lo.map ρ = lo.map ρ' := by cases lo with | none => rfl | some y => simp [h y (by simp)]
    have e2 : hi.map ρ = hi.map ρ' := by cases hi with | none => rfl | some y => simp [h y (by simp)]
    have e3 : mx.map ρ = mx.map ρ' := by cases mx with | none => rfl | some y => simp [h y (by simp)]
    rw [e1, e2, e3]
  case build t ps =>
    have e1 : ps.map (fun (i, x) => (i, ρ x)) = ps.map (fun (i, x) => (i, ρ' x)) := by
      apply Array.ext'
      simp only [Array.toList_map]
      apply List.map_congr_left
      intro x hx
      have := h x.2 (by simp; exact ⟨x.1, by simpa using hx⟩)
      simp [this]
    simp only [e1]
  case buildSlice t n ps =>
    have e1 : ps.map (fun (i, x) => (i, ρ x)) = ps.map (fun (i, x) => (i, ρ' x)) := by
      apply Array.ext'
      simp only [Array.toList_map]
      apply List.map_congr_left
      intro x hx
      have := h x.2 (by simp; exact ⟨x.1, by simpa using hx⟩)
      simp [this]
    simp only [e1]
  case makeFunc f fs cs =>
    have e1 : fs.map ρ = fs.map ρ' := by
      apply Array.ext'
      simp only [Array.toList_map]
      exact List.map_congr_left fun x hx => h x (by simp; exact .inl (by simpa using hx))
    have e2 : cs.map ρ = cs.map ρ' := by
      apply Array.ext'
      simp only [Array.toList_map]
      exact List.map_congr_left fun x hx => h x (by simp; exact .inr (by simpa using hx))
    simp only [e1, e2]
  case call c => simp only [call_congr h]

/-! ### The check -/
def opTmps (o : Oper) : List Nat := o.op.operands.toList.filterMap fun | .tmp t => some t | _ => none
def bnd (e : Edge) : Bool := match e.ground with | .textOnly _ => false | .gcOnly _ => false | _ => true
def dstIs (A : Array Oper) (j t : Nat) : Bool := match A[j]? with | some o => (match o.dst with | some d => Nat.beq d t | none => false) | none => false
def bit (R : List Nat) (i j : Nat) : Bool := Nat.testBit (R.getD i 0) j
/-- Which operations must stand ahead of one, by the edges that bind always. -/
def edgeMask (R : List Nat) (o : Oper) : Nat := o.after.toList.foldr (fun e m => bif bnd e then (Nat.shiftLeft 1 e.on) ||| ((R.getD e.on 0) ||| m) else m) 0
def cloL (A : Array Oper) : Nat → List Nat
  | 0 => []
  | n + 1 => (cloL A n) ++ [match A[n]? with | some o => edgeMask (cloL A n) o | none => 0]
def opOK (N q : Nat) (A : Array Oper) (R : List Nat) (i : Nat) (o : Oper) : Bool :=
  Nat.beq ((R.getD i 0) ||| edgeMask R o) (edgeMask R o) &&
  (bif Nat.blt i q then
    qkind o.op &&
    (match o.dst with | some d => Nat.blt d N && (List.range q).all (fun j => Nat.beq j i || !dstIs A j d) | none => true) &&
    (opTmps o).all (fun t => (List.range q).all fun j => !dstIs A j t || ((bit R i j && Nat.blt j i) || (bit R j i && Nat.blt i j))) &&
    (match o.guard with | some (j, _) => Nat.blt j q && bit R i j && Nat.blt j i | none => true)
  else (List.range i).all (fun j => bit R i j) && o.after.toList.all (fun e => Nat.blt e.on i))

/-! ### The schedule -/
def cand (m : Region.Mode) (A : Array Oper) (B : Array Bool) (i : Nat) : Bool := !B.getD i true && ((A[i]?).map (·.after.all fun e => !Region.binds m e || B.getD e.on false)).getD false
def lin (m : Region.Mode) (A : Array Oper) : Nat → Nat → Array Bool → List Nat
  | 0, _, _ => []
  | n + 1, t, B =>
    let rs := (List.range A.size).filter (cand m A B)
    match rs[t % rs.length]? with
    | some i => i :: lin m A n (t / rs.length) (B.setIfInBounds i true)
    | none => []
def topo (m : Region.Mode) (A : Array Oper) : List Nat → Nat → Bool
  | [], s => (List.range A.size).all fun i => Nat.testBit s i
  | i :: l, s => (match A[i]? with | some o => o.after.toList.all fun e => !Region.binds m e || Nat.testBit s e.on | none => false) && topo m A l (s ||| Nat.shiftLeft 1 i)
def order (m : Region.Mode) (A : Array Oper) : List Nat := lin m A A.size 0 (Array.replicate A.size false)
def chk (N q : Nat) (A : Array Oper) (R : List Nat) : Bool := Nat.ble q A.size && (List.range A.size).all fun i => match A[i]? with | some o => opOK N q A R i o | none => false
def drawOK (N q : Nat) (A : Array Oper) : Bool := chk N q A (cloL A A.size) && (topo .any A (order .any A) 0 && (topo .text A (order .text A) 0 && topo .gc A (order .gc A) 0))

theorem lin_eq (m : Region.Mode) (A : Array Oper) : ∀ (n t : Nat) (B : Array Bool) (acc : List Nat), Region.linearise.go m A n t B acc = acc.reverse ++ lin m A n t B
  | 0, t, B, acc => by simp [Region.linearise.go, lin]
  | n + 1, t, B, acc => by
    simp only [Region.linearise.go, lin]
    have e : (List.range A.size).filter (fun i => !B.getD i true && ((A[i]?).map (·.after.all fun e => !Region.binds m e || B.getD e.on false)).getD false) = (List.range A.size).filter (cand m A B) := rfl
    rw [e]
    cases h : ((List.range A.size).filter (cand m A B))[t % ((List.range A.size).filter (cand m A B)).length]? with
    | none => simp
    | some i => simp only; rw [lin_eq m A n]; simp
theorem binds_bnd {m : Region.Mode} {e : Edge} (h : bnd e = true) : Region.binds m e = true := by
  obtain ⟨on, g⟩ := e
  cases g <;> simp_all [bnd, Region.binds]
theorem getD_tf {B : Array Bool} {i : Nat} (h : i < B.size) : B.getD i true = B.getD i false := by
  rw [Array.getD_eq_getD_getElem?, Array.getD_eq_getD_getElem?]; simp [h]
/-- What is listed has what must stand ahead of it listed too. -/
def Closed (A : Array Oper) (R : List Nat) (B : Array Bool) : Prop := ∀ i j, i < A.size → B.getD i true = true → bit R i j = true → B.getD j false = true
theorem edgeMask_bit {R : List Nat} {o : Oper} {j : Nat} (h : (edgeMask R o).testBit j = true) : ∃ e ∈ o.after.toList, bnd e = true ∧ (e.on = j ∨ bit R e.on j = true) := by
  unfold edgeMask at h
  generalize o.after.toList = l at h
  induction l with
  | nil => simp at h
  | cons e l ih =>
    simp only [List.foldr_cons] at h
    cases hb : bnd e with
    | false =>
      simp only [hb, cond_false] at h
      obtain ⟨e', h1, h2⟩ := ih h
      exact ⟨e', by simp [h1], h2⟩
    | true =>
      simp only [hb, cond_true, Nat.testBit_or, Bool.or_eq_true] at h
      rcases h with h | h | h
      · refine ⟨e, by simp, hb, .inl ?_⟩
        have : (1 <<< e.on).testBit j = true := h
        rw [Nat.testBit_shiftLeft] at this
        simp only [Bool.and_eq_true, decide_eq_true_eq] at this
        obtain ⟨h1, h2⟩ := this
        have : j - e.on = 0 := by
          cases hz : j - e.on with
          | zero => rfl
          | succ n => rw [hz] at h2; simp [Nat.testBit_succ] at h2
        omega
      · exact ⟨e, by simp, hb, .inr h⟩
      · obtain ⟨e', h1, h2⟩ := ih h
        exact ⟨e', by simp [h1], h2⟩
theorem sub_mask {x y j : Nat} (h : Nat.beq (x ||| y) y = true) (hx : x.testBit j = true) : y.testBit j = true := by
  have e : x ||| y = y := Nat.eq_of_beq_eq_true h
  rw [← e, Nat.testBit_or, hx]; rfl
theorem cand_pred {N q : Nat} {m : Region.Mode} {A : Array Oper} {R : List Nat} {B : Array Bool} {i j : Nat} {o : Oper} (hc : cand m A B i = true) (ho : A[i]? = some o) (hok : opOK N q A R i o = true) (cl : Closed A R B) (hs : B.size = A.size)
    (hj : bit R i j = true) : B.getD j false = true := by
  unfold cand at hc
  simp only [ho, Option.map_some, Option.getD_some, Bool.and_eq_true] at hc
  unfold opOK at hok
  simp only [Bool.and_eq_true] at hok
  obtain ⟨e, he, hb, h⟩ := edgeMask_bit (sub_mask hok.1 hj)
  have h2 := (Array.all_eq_true_iff_forall_mem.1 hc.2) e (by simpa using he)
  rw [binds_bnd hb] at h2
  simp only [Bool.not_true, Bool.false_or] at h2
  rcases h with rfl | h
  · exact h2
  · have hlt : e.on < A.size := by
      rw [Array.getD_eq_getD_getElem?] at h2
      apply Classical.byContradiction
      intro hge
      have : B[e.on]? = none := by rw [Array.getElem?_eq_none]; omega
      simp [this] at h2
    exact cl e.on j hlt (by rw [getD_tf (by omega)]; exact h2) h
theorem cand_not {m : Region.Mode} {A : Array Oper} {B : Array Bool} {i : Nat} (hc : cand m A B i = true) : B.getD i true = false := by
  unfold cand at hc
  simp only [Bool.and_eq_true] at hc
  simpa using hc.1
theorem topo_cand {m : Region.Mode} {A : Array Oper} {B : Array Bool} (hs : B.size = A.size) : ∀ (l : List Nat) (s : Nat), topo m A l s = true → (∀ i, s.testBit i = true → B.getD i false = true) → (∃ i, i < A.size ∧ B.getD i true = false) →
    ∃ i, i < A.size ∧ cand m A B i = true
  | [], s, h, hB, ⟨i, hi, hb⟩ => by
    simp only [topo, List.all_eq_true, List.mem_range] at h
    have := hB i (h i hi)
    rw [getD_tf (by omega), this] at hb; cases hb
  | i :: l, s, h, hB, hex => by
    simp only [topo, Bool.and_eq_true] at h
    obtain ⟨h1, h2⟩ := h
    cases ho : A[i]? with
    | none => simp [ho] at h1
    | some o =>
      have hi : i < A.size := (Array.getElem?_eq_some_iff.1 ho).1
      simp only [ho, List.all_eq_true] at h1
      cases hb : B.getD i true with
      | false =>
        refine ⟨i, hi, ?_⟩
        unfold cand
        simp only [hb, Bool.not_false, Bool.true_and, ho, Option.map_some, Option.getD_some]
        rw [Array.all_eq_true_iff_forall_mem]
        intro e he
        have := h1 e (by simpa using he)
        simp only [Bool.or_eq_true] at this ⊢
        rcases this with h | h
        · exact .inl h
        · exact .inr (hB _ h)
      | true =>
        refine topo_cand hs l _ h2 (fun j hj => ?_) hex
        rw [Nat.testBit_or, Bool.or_eq_true] at hj
        rcases hj with hj | hj
        · exact hB j hj
        · have : (1 <<< i).testBit j = true := hj
          rw [Nat.testBit_shiftLeft] at this
          simp only [Bool.and_eq_true, decide_eq_true_eq] at this
          obtain ⟨h3, h4⟩ := this
          have : j - i = 0 := by
            cases hz : j - i with
            | zero => rfl
            | succ n => rw [hz] at h4; simp [Nat.testBit_succ] at h4
          have : j = i := by omega
          subst this
          rw [← getD_tf (by omega)]; exact hb

theorem filter_one {k n : Nat} {f : Nat → Bool} (hk : k < n) (hf : ∀ i, i < n → f i = decide (i = k)) : (List.range n).filter f = [k] := by
  rw [List.filter_congr (q := fun i => decide (i = k)) (fun i hi => hf i (by simpa using hi))]
  clear hf
  induction n with
  | zero => omega
  | succ s ih =>
    rw [List.range_succ, List.filter_append]
    by_cases hks : k = s
    · subst hks
      have : (List.range k).filter (fun i => decide (i = k)) = [] := by rw [List.filter_eq_nil_iff]; intro x hx; simp at hx; simp; omega
      rw [this]; simp
    · rw [ih (by omega)]; simp; omega
/-- The tail's order is forced. -/
theorem lin_tail {N q : Nat} {m : Region.Mode} {A : Array Oper} {R : List Nat} (ok : chk N q A R = true) : ∀ (n k t : Nat) (B : Array Bool), k + n = A.size → q ≤ k → B.size = A.size → Closed A R B → (∀ i, i < A.size → B.getD i true = decide (i < k)) → lin m A n t B = List.range' k n
  | 0, k, t, B, _, _, _, _, _ => by simp [lin]
  | n + 1, k, t, B, hk, hq, hs, cl, hB => by
    have hop : ∀ i (hi : i < A.size), opOK N q A R i A[i] = true := by
      intro i hi
      unfold chk at ok
      simp only [Bool.and_eq_true, List.all_eq_true, List.mem_range] at ok
      have := ok.2 i hi; simpa [hi] using this
    have tail : ∀ i (hi : i < A.size), q ≤ i → (∀ j, j < i → bit R i j = true) ∧ ∀ e ∈ A[i].after.toList, e.on < i := by
      intro i hi hqi
      have h := hop i hi
      unfold opOK at h
      have hb : Nat.blt i q = false := by
        cases e : Nat.blt i q with
        | false => rfl
        | true => have : i < q := by simpa using e
                  omega
      simp only [hb, cond_false, Bool.and_eq_true, List.all_eq_true, List.mem_range] at h
      exact ⟨h.2.1, fun e he => by simpa using h.2.2 e he⟩
    have hrs : (List.range A.size).filter (cand m A B) = [k] := by
      refine filter_one (by omega) fun i hi => ?_
      have ho : A[i]? = some A[i] := by simp [hi]
      by_cases hik : i = k
      · subst hik
        unfold cand
        simp only [ho, Option.map_some, Option.getD_some, hB i hi, decide_true, Nat.lt_irrefl, decide_false, Bool.not_false, Bool.true_and]
        rw [Array.all_eq_true_iff_forall_mem]
        intro e he
        have hlt := (tail i hi hq).2 e (by simpa using he)
        have := hB e.on (by omega)
        simp only [hlt, decide_true] at this
        rw [getD_tf (by omega)] at this
        simp [this]
      · by_cases hlt : i < k
        · unfold cand; simp [hB i hi, hlt, hik]
        · cases hc : cand m A B i with
          | false => simp [hik]
          | true =>
            exfalso
            have h1 := cand_pred hc ho (hop i hi) cl hs ((tail i hi (by omega)).1 k (by omega))
            have h3 := hB k (by omega)
            simp only [Nat.lt_irrefl, decide_false] at h3
            rw [getD_tf (by omega), h1] at h3; cases h3
    simp only [lin, hrs, List.length_singleton, Nat.mod_one, List.getElem?_cons_zero, Nat.div_one]
    have hB' : ∀ i, i < A.size → (B.setIfInBounds k true).getD i true = decide (i < k + 1) := by
      intro i hi
      rw [Array.getD_eq_getD_getElem?]
      by_cases hik : k = i
      · subst hik; simp [hs, hi]
      · rw [Array.getElem?_setIfInBounds_ne hik]
        have := hB i hi
        rw [Array.getD_eq_getD_getElem?] at this
        rw [this]; simp; omega
    have hck : cand m A B k = true := by
      have : k ∈ (List.range A.size).filter (cand m A B) := by rw [hrs]; simp
      exact (List.mem_filter.1 this).2
    rw [lin_tail ok n (k + 1) t (B.setIfInBounds k true) (by omega) (by omega) (by simpa using hs) ?_ hB']
    · simp [List.range'_succ]
    · intro i j hi hb hj
      by_cases hik : i = k
      · subst hik
        have h1 := cand_pred hck (by simp [hi]) (hop i hi) cl hs hj
        rw [Array.getD_eq_getD_getElem?] at h1 ⊢
        by_cases hij : i = j
        · subst hij; simp [hs, hi]
        · rw [Array.getElem?_setIfInBounds_ne hij]; exact h1
      · have h0 : B.getD i true = true := by
          rw [Array.getD_eq_getD_getElem?, Array.getElem?_setIfInBounds_ne (Ne.symm hik)] at hb
          rw [Array.getD_eq_getD_getElem?]; exact hb
        have h1 := cl i j hi h0 hj
        rw [Array.getD_eq_getD_getElem?] at h1 ⊢
        by_cases hij : k = j
        · subst hij; simp [hs]; have : k < A.size := by omega
          simp [this]
        · rw [Array.getElem?_setIfInBounds_ne hij]; exact h1

/-! ### The rule -/
def ext (d : Option Nat) (v : Value) (L : Env) : Env := match d with | some d => (d, v) :: L | none => L
def KQ (L1 : Env) (H1 : List HP) : Kont := fun e L H => e = .normal ∧ L = L1 ∧ Sb H1 H
/-- The operations os each yield a value; each may read M and may turn a piece of its own (R: those that are still to turn; D: those that have been turned); then k. -/
def GQ (P : Program) (c : Cx) (A : Array Oper) : List Oper → (Env → List HP → Prop) → Env → List HP → List HP → List HP → Prop
  | [], k, L, M, D, R => R = [] ∧ k L (D ++ M)
  | o :: os, k, L, M, D, R => ∃ v X Y R', R = X ++ R' ∧ (∀ Z, GO P c A [o] (KQ (ext o.dst v L) (Y ++ (M ++ Z))) L (X ++ (M ++ Z))) ∧ GQ P c A os k (ext o.dst v L) M (Y ++ D) R'
section
variable {P : Program} {c : Cx} {A : Array Oper} {os : List Oper} {k : Env → List HP → Prop} {K : Kont} {L : Env} {H M D R : List HP}
theorem GQ.nil (h : k L (D ++ M)) : GQ P c A [] k L M D [] := ⟨rfl, h⟩
theorem GQ.step {d : Nat} {op : Op} {t : TypeId} {p : String} {e : Array Edge} {g : Option (Nat × Bool)} {v : Value} (h : ∀ Z, GO P c A [⟨some d, op, t, p, e, g⟩] (KQ ((d, v) :: L) (M ++ Z)) L (M ++ Z)) (r : GQ P c A os k ((d, v) :: L) M D R) : GQ P c A (⟨some d, op, t, p, e, g⟩ :: os) k L M D R :=
  ⟨v, [], [], R, rfl, h, r⟩
theorem KQ.i {L1 : Env} {H1 : List HP} : KQ L1 H1 .normal L1 H1 := ⟨rfl, rfl, Sb.r⟩
theorem KQ.s {L1 : Env} {H1 H2 : List HP} (h : Sb H1 H2) : KQ L1 H1 .normal L1 H2 := ⟨rfl, rfl, h⟩

theorem KQ.z {L1 : Env} {H1 : List HP} : GO P c A [] (KQ L1 H1) L1 H1 := fun _ _ h => ⟨L1, H1, h, KQ.i⟩

def Lat (os : List Oper) (V : Nat → Value) (L : Env) : Nat → Env
  | 0 => L
  | i + 1 => match os[i]? with | some o => ext o.dst (V i) (Lat os V L i) | none => Lat os V L i
theorem Lat_cons (o : Oper) (os : List Oper) (V : Nat → Value) (L : Env) : ∀ i, Lat (o :: os) V L (i + 1) = Lat os (fun j => V (j + 1)) (ext o.dst (V 0) L) i
  | 0 => by simp [Lat]
  | i + 1 => by
    have := Lat_cons o os V L i
    conv => lhs; unfold Lat
    conv => rhs; unfold Lat
    simp only [List.getElem?_cons_succ]
    rw [this]
/-- All of the pieces that a choice tells. -/
def pcs (n : Nat) (f : Nat → List HP) : List HP := (List.range n).flatMap f
theorem pcs_succ (n : Nat) (f : Nat → List HP) : pcs (n + 1) f = f 0 ++ pcs n (fun i => f (i + 1)) := by
  unfold pcs
  rw [List.range_succ_eq_map]
  simp [List.flatMap_map]
theorem GQ.get : ∀ {os : List Oper} {L : Env} {D R : List HP}, GQ P c A os k L M D R → ∃ (V : Nat → Value) (X Y : Nat → List HP),
    R = pcs os.length X ∧ (∀ i o, os[i]? = some o → ∀ Z, GO P c A [o] (KQ (ext o.dst (V i) (Lat os V L i)) (Y i ++ (M ++ Z))) (Lat os V L i) (X i ++ (M ++ Z))) ∧
    ∃ D', D'.Perm (pcs os.length Y ++ D) ∧ k (Lat os V L os.length) (D' ++ M)
  | [], L, D, R, ⟨h1, h2⟩ => ⟨fun _ => undef, fun _ => [], fun _ => [], by simp [pcs, h1], fun i o e => by simp at e, D, by simp [pcs], h2⟩
  | o :: os, L, D, R, ⟨v, x, y, R', hR, h1, h2⟩ => by
    obtain ⟨V, X, Y, hX, hV, D', hD, hk⟩ := GQ.get h2
    refine ⟨fun j => match j with | 0 => v | j + 1 => V j, fun j => match j with | 0 => x | j + 1 => X j, fun j => match j with | 0 => y | j + 1 => Y j, ?_, ?_, D', ?_, ?_⟩
    · rw [hR, hX, List.length_cons, pcs_succ]
    · intro i o' e
      cases i with
      | zero => simp at e; subst e; exact h1
      | succ i =>
        simp only [List.getElem?_cons_succ] at e
        rw [Lat_cons]
        exact hV i o' e
    · rw [List.length_cons, pcs_succ]
      refine hD.trans ?_
      simp only
      rw [← List.append_assoc]
      exact List.Perm.append_right _ List.perm_append_comm
    · simp only [List.length_cons]; rw [Lat_cons]; exact hk
theorem perm_one {q i : Nat} (h : i < q) : (List.range q).Perm (i :: (List.range q).filter (fun j => decide (j ≠ i))) := by
  have h1 : (List.range q).Perm ((List.range q).filter (fun j => decide (j = i)) ++ (List.range q).filter (fun j => !decide (j = i))) := (List.filter_append_perm _ _).symm
  rw [filter_one h (fun j _ => rfl)] at h1
  have e : (List.range q).filter (fun j => !decide (j = i)) = (List.range q).filter (fun j => decide (j ≠ i)) := by
    apply List.filter_congr; intro x _; simp
  rw [e] at h1; exact h1
theorem pcs_perm {q i : Nat} (h : i < q) (f : Nat → List HP) : (pcs q f).Perm (f i ++ ((List.range q).filter (fun j => decide (j ≠ i))).flatMap f) := by
  unfold pcs
  exact (List.Perm.flatMap_right f (perm_one h)).trans (by rw [List.flatMap_cons])
theorem flat_congr {l : List Nat} {f g : Nat → List HP} (h : ∀ i ∈ l, f i = g i) : l.flatMap f = l.flatMap g := by
  induction l with
  | nil => rfl
  | cons a l ih => rw [List.flatMap_cons, List.flatMap_cons, h a (by simp), ih (fun i hi => h i (by simp [hi]))]

/-- Slot s is where the operation j puts its value. -/
def dstAt (A : Array Oper) (j s : Nat) : Prop := ∃ o, A[j]? = some o ∧ o.dst = some s
theorem dstIs_of {j s : Nat} (h : dstAt A j s) : dstIs A j s = true := by
  obtain ⟨o, h1, h2⟩ := h
  simp [dstIs, h1, h2]
theorem look_ext {d : Option Nat} {v : Value} {s : Nat} : look (ext d v L) s = if d = some s then some v else look L s := by
  cases d with
  | none => simp [ext]
  | some d =>
    simp only [ext, look, Option.some.injEq]
    by_cases h : d = s
    · subst h; simp
    · simp [nbeq h, h]
theorem look_Lat {L : Env} {q : Nat} {V : Nat → Value} (hA : q ≤ A.size) (ssa : ∀ i j s, i < q → j < q → dstAt A i s → dstAt A j s → i = j) : ∀ i, i ≤ q →
    (∀ j s, j < i → dstAt A j s → look (Lat (A.toList.take q) V L i) s = some (V j)) ∧ (∀ s, (∀ j, j < i → ¬ dstAt A j s) → look (Lat (A.toList.take q) V L i) s = look L s)
  | 0, _ => ⟨fun j s h => by omega, fun s _ => rfl⟩
  | i + 1, hi => by
    obtain ⟨ih1, ih2⟩ := look_Lat (V := V) (L := L) hA ssa i (by omega)
    have hi' : i < A.size := by omega
    have ho : (A.toList.take q)[i]? = some A[i] := by rw [List.getElem?_take_of_lt (by omega)]; simp [hi']
    constructor
    · intro j s hj hd
      simp only [Lat, ho]
      rw [look_ext]
      by_cases hs : A[i].dst = some s
      · have : i = j := ssa i j s (by omega) (by omega) ⟨A[i], by simp [hi'], hs⟩ hd
        subst this; simp [hs]
      · have hne : j ≠ i := by
          rintro rfl
          obtain ⟨o, h1, h2⟩ := hd
          simp [hi'] at h1; subst h1; exact hs h2
        simp only [hs, if_false]; exact ih1 j s (by omega) hd
    · intro s hs
      simp only [Lat, ho]
      rw [look_ext]
      have : ¬ A[i].dst = some s := fun h => hs i (by omega) ⟨A[i], by simp [hi'], h⟩
      simp only [this, if_false]; exact ih2 s (fun j hj => hs j (by omega))

theorem countP_upd {f g : Nat → Bool} {i : Nat} (hf : f i = true) (hg : g i = false) (hfg : ∀ j, j ≠ i → f j = g j) : ∀ l : List Nat, l.Nodup → i ∈ l → l.countP g + 1 = l.countP f
  | [], _, h => by simp at h
  | a :: l, hn, h => by
    obtain ⟨h1, h2⟩ := List.nodup_cons.1 hn
    by_cases ha : a = i
    · subst ha
      have : l.countP g = l.countP f := by
        apply List.countP_congr
        intro x hx
        have : x ≠ a := fun e => h1 (e ▸ hx)
        rw [hfg x this]
      simp [List.countP_cons, hf, hg, this]
    · have hi : i ∈ l := by simpa [Ne.symm ha] using h
      have := countP_upd hf hg hfg l h2 hi
      simp only [List.countP_cons, hfg a ha]; omega
theorem countP_ge (q : Nat) : ∀ n, q ≤ n → (List.range n).countP (fun i => !decide (i < q)) = n - q
  | 0, _ => by simp
  | n + 1, h => by
    rw [List.range_succ, List.countP_append]
    by_cases hq : q ≤ n
    · rw [countP_ge q n hq]; simp [Nat.not_lt.2 hq]; omega
    · have : q = n + 1 := by omega
      subst this
      have h0 : (List.range n).countP (fun i => !decide (i < n + 1)) = 0 := by
        rw [List.countP_eq_zero]; intro a ha; simp at ha; simp; omega
      rw [h0]; simp

set_option maxHeartbeats 400000 in
theorem draw_run {q : Nat} {m : Region.Mode} {V : Nat → Value} {X Y : Nat → List HP} {RR : List Nat} {D' : List HP} (ok : chk c.N q A RR = true) (tp : topo m A (order m A) 0 = true)
    (hV : ∀ i o, (A.toList.take q)[i]? = some o → ∀ Z, GO P c A [o] (KQ (ext o.dst (V i) (Lat (A.toList.take q) V L i)) (Y i ++ (M ++ Z))) (Lat (A.toList.take q) V L i) (X i ++ (M ++ Z)))
    (hD : D'.Perm (pcs q Y)) (hk : GO P c A (A.toList.drop q) K (Lat (A.toList.take q) V L q) (D' ++ M)) : ∀ (n t : Nat) (B : Array Bool) (a : Act) (w : World),
    B.size = A.size → Closed A RR B → (List.range A.size).countP (fun i => !B.getD i true) = n → (∀ i, q ≤ i → i < A.size → B.getD i true = false) →
    a.tmps.size = c.N → Same c.w0 w → (∃ ds : List Nat, a.defers = ds.map mark ++ c.D ∧ ((c.r.isSome || c.nd) = true → ds = []) ∧ sat (pcs q (fun i => if B.getD i true = true then Y i else X i) ++ (M ++ (c.X ++ ds.map dblk))) w) →
    (∀ j d, j < q → B.getD j true = true → dstAt A j d → a.tmps[d]? = some (V j)) → (∀ s v, look L s = some v → (∀ j, j < q → B.getD j true = true → ¬ dstAt A j s) → a.tmps[s]? = some v) →
    wpOpsIn (fen c.r) 0 P A (Post c K) (lin m A n t B) a w := by
  have hok := ok
  unfold chk at hok
  simp only [Bool.and_eq_true, List.all_eq_true, List.mem_range] at hok
  obtain ⟨hqb, hok⟩ := hok
  have hq : q ≤ A.size := by simpa using hqb
  have hop : ∀ i (hi : i < A.size), opOK c.N q A RR i A[i] = true := fun i hi => by have := hok i hi; simpa [hi] using this
  have hqop : ∀ i (hi : i < A.size), i < q → qkind A[i].op = true ∧ (∀ d, A[i].dst = some d → d < c.N ∧ ∀ j, j < q → j ≠ i → ¬ dstAt A j d) ∧
      (∀ t, .tmp t ∈ A[i].op.operands.toList → ∀ j, j < q → dstAt A j t → (bit RR i j = true ∧ j < i) ∨ (bit RR j i = true ∧ i < j)) ∧ (∀ j b, A[i].guard = some (j, b) → j < q ∧ bit RR i j = true ∧ j < i) := by
    intro i hi hiq
    have h := hop i hi
    unfold opOK at h
    have hb : Nat.blt i q = true := by simpa using hiq
    simp only [hb, cond_true, Bool.and_eq_true] at h
    obtain ⟨_, ⟨⟨h1, h2⟩, h3⟩, h4⟩ := h
    refine ⟨h1, ?_, ?_, ?_⟩
    · intro d hd
      rw [hd] at h2
      simp only [Bool.and_eq_true, List.all_eq_true, List.mem_range] at h2
      refine ⟨by simpa using h2.1, fun j hj hne hdj => ?_⟩
      have := h2.2 j hj
      rw [dstIs_of hdj, nbeq hne] at this
      simp at this
    · intro t ht j hj hdj
      simp only [List.all_eq_true, List.mem_range] at h3
      have := h3 t (by unfold opTmps; rw [List.mem_filterMap]; exact ⟨.tmp t, ht, rfl⟩) j hj
      rw [dstIs_of hdj] at this
      simpa using this
    · intro j b hg
      rw [hg] at h4
      simp only [Bool.and_eq_true] at h4
      exact ⟨by simpa using h4.1.1, h4.1.2, by simpa using h4.2⟩
  have ssa : ∀ i j s, i < q → j < q → dstAt A i s → dstAt A j s → i = j := by
    intro i j s hi hj h1 h2
    by_cases hij : i = j
    · exact hij
    · exfalso
      obtain ⟨o, ho, hd⟩ := h1
      have hi' : i < A.size := by omega
      simp [hi'] at ho
      have := (hqop i hi' hi).2.1 s (by rw [ho]; exact hd)
      exact this.2 j hj (Ne.symm hij) h2
  -- when all of the first q are done
  have done : ∀ (B : Array Bool) (a : Act) (w : World), (∀ i, i < q → B.getD i true = true) → a.tmps.size = c.N → Same c.w0 w → (∃ ds : List Nat, a.defers = ds.map mark ++ c.D ∧ ((c.r.isSome || c.nd) = true → ds = []) ∧ sat (pcs q (fun i => if B.getD i true = true then Y i else X i) ++ (M ++ (c.X ++ ds.map dblk))) w) →
      (∀ j d, j < q → B.getD j true = true → dstAt A j d → a.tmps[d]? = some (V j)) → (∀ s v, look L s = some v → (∀ j, j < q → B.getD j true = true → ¬ dstAt A j s) → a.tmps[s]? = some v) → St c (Lat (A.toList.take q) V L q) (D' ++ M) a w := by
    intro B a w hquiet hN hsame hmem hI1 hI2
    refine ⟨⟨hN, fun s v hs => ?_⟩, hsame, ?_⟩
    · obtain ⟨l1, l2⟩ := look_Lat (V := V) (L := L) hq ssa q (Nat.le_refl q)
      by_cases h : ∃ j, j < q ∧ dstAt A j s
      · obtain ⟨j, hj, hd⟩ := h
        rw [l1 j s hj hd] at hs
        simp only [Option.some.injEq] at hs
        rw [← hs]; exact hI1 j s hj (hquiet j hj) hd
      · rw [l2 s (fun j hj hd => h ⟨j, hj, hd⟩)] at hs
        exact hI2 s v hs (fun j hj _ hd => h ⟨j, hj, hd⟩)
    · obtain ⟨ds, h1, h2, h3⟩ := hmem
      refine ⟨ds, h1, h2, ?_⟩
      have e : pcs q (fun i => if B.getD i true = true then Y i else X i) = pcs q Y := flat_congr fun i hi => by rw [if_pos (hquiet i (by simpa using hi))]
      rw [e] at h3
      rw [List.append_assoc]
      exact sat_perm (List.Perm.append_right _ hD.symm) h3
  intro n
  induction n with
  | zero =>
    intro t B a w hBs cl hcnt htail hN hsame hmem hI1 hI2
    have hall : ∀ i, i < A.size → B.getD i true = true := by
      intro i hi
      rw [List.countP_eq_zero] at hcnt
      simpa using hcnt i (by simpa using hi)
    have hqs : q = A.size := by
      by_cases h : q < A.size
      · have h1 := hall q h; have h2 := htail q (by omega) h; rw [h1] at h2; cases h2
      · omega
    simp only [lin]
    have hdrop : A.toList.drop q = [] := by rw [hqs]; simp
    rw [hdrop] at hk
    exact hk a w (done B a w (fun i hi => hall i (by omega)) hN hsame hmem hI1 hI2)
  | succ n ih =>
    intro t B a w hBs cl hcnt htail hN hsame hmem hI1 hI2
    by_cases hquiet : ∀ i, i < q → B.getD i true = true
    · -- the tail
      have hB : ∀ i, i < A.size → B.getD i true = decide (i < q) := by
        intro i hi
        by_cases h : i < q
        · simp [h, hquiet i h]
        · simp [h, htail i (by omega) hi]
      have hcn : n + 1 = A.size - q := by
        rw [← hcnt, ← countP_ge q A.size hq]
        apply List.countP_congr
        intro x hx
        rw [hB x (by simpa using hx)]
      rw [lin_tail ok (n + 1) q t B (by omega) (Nat.le_refl q) hBs cl hB]
      refine wpOps_of_list (fen_fn c.r) _ (A.toList.drop q) a w ?_ (hk a w (done B a w hquiet hN hsame hmem hI1 hI2))
      apply List.ext_getElem?
      intro i
      simp only [List.getElem?_map, List.getElem?_range', List.getElem?_drop]
      by_cases h : i < n + 1
      · have h' : q + i < A.size := by omega
        simp [h, h']
      · have h' : ¬ q + i < A.size := by omega
        have e1 : A.toList[q + i]? = none := by rw [List.getElem?_eq_none]; simpa using h'
        simp [h, e1]
    · -- one of the others
      have hex : ∃ i, i < A.size ∧ B.getD i true = false := by
        apply Classical.byContradiction
        intro h
        apply hquiet
        intro i hi
        cases e : B.getD i true with
        | true => rfl
        | false => exact absurd ⟨i, by omega, e⟩ h
      obtain ⟨i0, hi0, hc0⟩ := topo_cand hBs _ 0 tp (fun i h => by simp at h) hex
      have hne : 0 < ((List.range A.size).filter (cand m A B)).length := by
        apply List.length_pos_of_mem (a := i0)
        rw [List.mem_filter]; exact ⟨by simpa using hi0, hc0⟩
      have hlt := Nat.mod_lt t hne
      have hget := List.getElem?_eq_getElem hlt
      generalize hidef : ((List.range A.size).filter (cand m A B))[t % ((List.range A.size).filter (cand m A B)).length] = i at hget
      have himem : i ∈ (List.range A.size).filter (cand m A B) := by rw [← hidef]; exact List.getElem_mem hlt
      rw [List.mem_filter] at himem
      obtain ⟨hir, hci⟩ := himem
      have hi : i < A.size := by simpa using hir
      have hBi : B.getD i true = false := cand_not hci
      have hiA : A[i]? = some A[i] := by simp [hi]
      have pred : ∀ j, bit RR i j = true → B.getD j true = true := by
        intro j hj
        have h2 := cand_pred hci hiA (hop i hi) cl hBs hj
        rw [Array.getD_eq_getD_getElem?] at h2 ⊢
        cases hb : B[j]? with
        | none => simp
        | some b => simp [hb] at h2 ⊢; exact h2
      have hiq : i < q := by
        apply Classical.byContradiction
        intro hnq
        apply hquiet
        intro j hj
        have h := hop i hi
        unfold opOK at h
        have hb : Nat.blt i q = false := by
          cases e : Nat.blt i q with
          | false => rfl
          | true => have : i < q := by simpa using e
                    omega
        simp only [hb, cond_false, Bool.and_eq_true, List.all_eq_true, List.mem_range] at h
        exact pred j (h.2.1 j (by omega))
      obtain ⟨hqk, hdst, hops, hgd⟩ := hqop i hi hiq
      have htake : (A.toList.take q)[i]? = some A[i] := by rw [List.getElem?_take_of_lt (by omega)]; simp [hi]
      obtain ⟨l1, l2⟩ := look_Lat (V := V) (L := L) hq ssa i (by omega)
      -- the act as the text's order would have it
      obtain ⟨ds, hdef, hdr, hsat⟩ := hmem
      let a2 : Act := { tmps := Array.ofFn (n := c.N) fun s => (look (Lat (A.toList.take q) V L i) s.1).getD (a.tmps.getD s.1 undef), defers := a.defers }
      have ha2 : ∀ s, s < c.N → a2.tmps[s]? = some ((look (Lat (A.toList.take q) V L i) s).getD (a.tmps.getD s undef)) := by
        intro s hs; simp [a2, Array.getElem?_ofFn, hs]
      have hLsz : ∀ s v, look (Lat (A.toList.take q) V L i) s = some v → s < c.N := by
        intro s v hs
        by_cases h : ∃ j, j < i ∧ dstAt A j s
        · obtain ⟨j, hj, o, hd1, hd2⟩ := h
          have hj' : j < A.size := by omega
          simp [hj'] at hd1
          exact ((hqop j hj' (by omega)).2.1 s (by rw [hd1]; exact hd2)).1
        · rw [l2 s (fun j hj hd => h ⟨j, hj, hd⟩)] at hs
          apply Classical.byContradiction
          intro hge
          by_cases h' : ∃ j, j < q ∧ B.getD j true = true ∧ dstAt A j s
          · obtain ⟨j, hj, _, o, hd1, hd2⟩ := h'
            have hj' : j < A.size := by omega
            simp [hj'] at hd1
            exact hge ((hqop j hj' hj).2.1 s (by rw [hd1]; exact hd2)).1
          · have := hI2 s v hs (fun j hj hb hd => h' ⟨j, hj, hb, hd⟩)
            have := (Array.getElem?_eq_some_iff.1 this).1
            omega
      have pX := pcs_perm hiq (fun i => if B.getD i true = true then Y i else X i)
      simp only [hBi, Bool.false_eq_true, if_false] at pX
      generalize hZ : ((List.range q).filter (fun j => decide (j ≠ i))).flatMap (fun i => if B.getD i true = true then Y i else X i) = Z at pX
      have hst2 : St c (Lat (A.toList.take q) V L i) (X i ++ (M ++ Z)) a2 w := by
        refine ⟨⟨by simp [a2], fun s v hs => ?_⟩, hsame, ds, hdef, hdr, ?_⟩
        · rw [ha2 s (hLsz s v hs), hs]; rfl
        · refine sat_perm ?_ hsat
          refine (List.Perm.append_right _ pX).trans ?_
          simp only [List.append_assoc]
          refine List.Perm.append_left _ ?_
          exact List.perm_append_comm_assoc _ _ _
      have hone := hV i A[i] htake Z a2 w hst2
      have hone1 := oneOp_of (F := fen c.r) (P := P) (A := A) (o := A[i]) (a := a2) (w := w) (fun e a w h => by obtain ⟨_, _, _, h, _⟩ := h; exact h) hone
      -- what the operation sees is what it would see
      have hslot : ∀ s, (.tmp s ∈ A[i].op.operands.toList ∨ ∃ j b, A[i].guard = some (j, b) ∧ dstAt A j s) → a2.tmps.getD s undef = a.tmps.getD s undef ∧ a2.tmps[s]? = a.tmps[s]? := by
        intro s hs
        have key : a2.tmps[s]? = a.tmps[s]? := by
          by_cases hsN : s < c.N
          · rw [ha2 s hsN]
            by_cases h : ∃ j, j < q ∧ dstAt A j s
            · obtain ⟨j, hj, hd⟩ := h
              have hE : (bit RR i j = true ∧ j < i) ∨ (bit RR j i = true ∧ i < j) := by
                rcases hs with hs | ⟨j', b, hg, hd'⟩
                · exact hops s hs j hj hd
                · obtain ⟨hj', hE⟩ := hgd j' b hg
                  have : j' = j := ssa j' j s hj' hj hd' hd
                  subst this; exact .inl hE
              rcases hE with hE | hE
              · rw [l1 j s hE.2 hd]
                rw [hI1 j s hj (pred j hE.1) hd]; rfl
              · -- the writer stands behind: the slot still holds what it held
                have hnj : ¬ B.getD j true = true := fun hb => by
                  have h1 := cl j i (by omega) hb hE.1
                  rw [Array.getD_eq_getD_getElem?] at h1 hBi
                  cases hbi : B[i]? with
                  | none => simp [hbi] at hBi
                  | some b => simp [hbi] at h1 hBi; rw [h1] at hBi; cases hBi
                have hn : ∀ j', j' < q → dstAt A j' s → j' = j := fun j' hj' hd' => ssa j' j s hj' hj hd' hd
                rw [l2 s (fun j' hj' hd' => by have := hn j' (by omega) hd'; omega)]
                cases hl : look L s with
                | none =>
                  simp only [Option.getD_none]
                  rw [Array.getD_eq_getD_getElem?]
                  have hh : s < a.tmps.size := by omega
                  simp [hh]
                | some v =>
                  rw [hI2 s v hl (fun j' hj' hb hd' => by rw [hn j' hj' hd'] at hb; exact hnj hb)]; rfl
            · have hn : ∀ j, j < q → ¬ dstAt A j s := fun j hj hd => h ⟨j, hj, hd⟩
              rw [l2 s (fun j hj => hn j (by omega))]
              cases hl : look L s with
              | none =>
                simp only [Option.getD_none]
                rw [Array.getD_eq_getD_getElem?]
                have hh : s < a.tmps.size := by omega
                simp [hh]
              | some v =>
                rw [hI2 s v hl (fun j hj _ => hn j hj)]; rfl
          · have h1 : a.tmps[s]? = none := by rw [Array.getElem?_eq_none]; omega
            have h2 : a2.tmps[s]? = none := by rw [Array.getElem?_eq_none]; simp [a2]; omega
            rw [h1, h2]
        exact ⟨by rw [Array.getD_eq_getD_getElem?, Array.getD_eq_getD_getElem?, key], key⟩
      have hev : execOp a.eval A[i] = execOp a2.eval A[i] := by
        refine exec_congr hqk fun x hx => ?_
        cases x with
        | tmp s => exact (hslot s (.inl hx)).1.symm
        | const v => rfl
        | global g => rfl
        | func f => rfl
      have hwt : Region.wanted A[i] (yielded A a.tmps) = Region.wanted A[i] (yielded A a2.tmps) := by
        unfold Region.wanted
        cases hg : A[i].guard with
        | none => rfl
        | some jb =>
          obtain ⟨j, b⟩ := jb
          simp only
          congr 1
          unfold yielded
          have hj := (hgd j b hg).1
          have hjA : j < A.size := by omega
          simp only [hjA, getElem?_pos, Option.bind_some]
          cases hd : A[j].dst with
          | none => rfl
          | some s =>
            simp only [Option.bind_some]
            rw [(hslot s (.inr ⟨j, b, hg, A[j], by simp [hjA], hd⟩)).2]
      have hnd : ndef A[i].op = true := qk_ndef hqk
      have hone2 : oneOp (fen c.r) P A A[i] a w (fun D v w' => Post c (KQ (ext A[i].dst (V i) (Lat (A.toList.take q) V L i)) (Y i ++ (M ++ Z))) .normal (Act.putD a2 D A[i].dst v) w') := by
        unfold oneOp at hone1 ⊢
        rw [hwt, semAt_nd _ _ _ hnd, hev]
        rw [semAt_nd _ _ _ hnd] at hone1
        exact hone1
      -- and on
      have hlin : lin m A (n + 1) t B = i :: lin m A n (t / ((List.range A.size).filter (cand m A B)).length) (B.setIfInBounds i true) := by
        simp only [lin, hget]
      rw [hlin]
      refine oneOp_run (fen_fn c.r) hiA (oneOp_mono hone2 ?_)
      rintro D v w' ⟨L', H', ⟨hat, hs', ds', hdef', hdr', hsat'⟩, _, rfl, hsb⟩
      have hgd2 : ∀ j, (B.setIfInBounds i true).getD j true = if j = i then true else B.getD j true := by
        intro j
        rw [Array.getD_eq_getD_getElem?, Array.getD_eq_getD_getElem?]
        by_cases h : i = j
        · subst h
          have : i < B.size := by omega
          simp [this]
        · rw [Array.getElem?_setIfInBounds_ne h]; simp [Ne.symm h]
      have hv : ∀ d, A[i].dst = some d → v = V i := by
        intro d hd
        have h1 := hat.2 d (V i) (by rw [hd]; simp [ext, look])
        have hdN := (hdst d hd).1
        rw [hd, putD_self (by simp [a2]; exact hdN)] at h1
        simpa using h1
      refine ih _ _ _ w' (by simpa using hBs) ?_ ?_ ?_ ?_ hs' ?_ ?_ ?_
      · intro i' j hi' hb hj
        rw [hgd2] at hb
        have h1 : B.getD j false = true := by
          by_cases h : i' = i
          · subst h; exact cand_pred hci hiA (hop i' hi) cl hBs hj
          · rw [if_neg h] at hb; exact cl i' j hi' hb hj
        rw [Array.getD_eq_getD_getElem?] at h1 ⊢
        by_cases h : i = j
        · subst h
          have : i < B.size := by omega
          simp [this]
        · rw [Array.getElem?_setIfInBounds_ne h]; exact h1
      · have := countP_upd (f := fun j => !B.getD j true) (g := fun j => !(B.setIfInBounds i true).getD j true) (i := i) (by simp [hBi]) (by simp [hgd2]) (fun j hj => by simp [hgd2, hj]) (List.range A.size) List.nodup_range (by simpa using hi)
        omega
      · intro j hj hja
        rw [hgd2, if_neg (by omega)]; exact htail j hj hja
      · cases hd : A[i].dst <;> simp only [Act.putD, Act.put, Array.size_setIfInBounds, hN]
      · refine ⟨ds', ?_, hdr', ?_⟩
        · have : (Act.putD a2 D A[i].dst v).defers = D ++ a.defers := by cases A[i].dst <;> rfl
          rw [this] at hdef'
          cases A[i].dst <;> exact hdef'
        · have pY := pcs_perm hiq (fun j => if (B.setIfInBounds i true).getD j true = true then Y j else X j)
          simp only [hgd2 i, if_true] at pY
          have eZ : ((List.range q).filter (fun j => decide (j ≠ i))).flatMap (fun j => if (B.setIfInBounds i true).getD j true = true then Y j else X j) = Z := by
            rw [← hZ]
            refine flat_congr fun j hj => ?_
            have : j ≠ i := by have := (List.mem_filter.1 hj).2; simpa using this
            rw [hgd2, if_neg this]
          rw [eZ] at pY
          refine sat_perm ?_ ((Sb.app hsb).sat hsat')
          refine List.Perm.trans ?_ (List.Perm.append_right _ pY.symm)
          simp only [List.append_assoc]
          refine List.Perm.append_left _ ?_
          exact List.perm_append_comm_assoc _ _ _
      · intro j d hj hb hd
        rw [hgd2] at hb
        by_cases hji : j = i
        · subst hji
          obtain ⟨o, ho1, ho2⟩ := hd
          simp [hi] at ho1; subst ho1
          rw [hv d ho2, ho2]
          exact putD_self (Nat.lt_of_lt_of_eq (hdst d ho2).1 hN.symm)
        · rw [if_neg hji] at hb
          have hne : ∀ d', A[i].dst = some d' → d' ≠ d := by
            rintro d' hd' rfl
            exact (hdst d' hd').2 j hj hji hd
          rw [putD_ne hne]; exact hI1 j d hj hb hd
      · intro s u hs hnone
        have hne : ∀ d', A[i].dst = some d' → d' ≠ s := by
          rintro d' hd' rfl
          exact hnone i hiq (by rw [hgd2]; simp) ⟨A[i], hiA, hd'⟩
        rw [putD_ne hne]
        refine hI2 s u hs (fun j hj hb hd => hnone j hj ?_ hd)
        rw [hgd2]
        by_cases hji : j = i
        · rw [if_pos hji]
        · rw [if_neg hji]; exact hb

/-- A region that draws its order: q operations, each with what it turns alone, then the others, whose order is forced. -/
theorem G.drawP {id : Nat} (q : Nat) (R M : List HP) (ok : drawOK c.N q A = true) (tk : H.Perm (R ++ M)) (h : GQ P c A (A.toList.take q) (fun L' H' => GO P c A (A.toList.drop q) K L' H') L M [] R) : G P c (.region id A true) K L H := by
  intro a w hs
  refine wpIn_region_draw fun t => ?_
  unfold drawOK at ok
  simp only [Bool.and_eq_true] at ok
  obtain ⟨ok1, ok2, ok3, ok4⟩ := ok
  have hq : q ≤ A.size := by
    unfold chk at ok1
    simp only [Bool.and_eq_true] at ok1
    simpa using ok1.1
  have hlen : (A.toList.take q).length = q := by simp; omega
  obtain ⟨V, X, Y, hX, hV, D', hD, hk⟩ := GQ.get h
  rw [hlen] at hX hD hk
  have run : ∀ m t, topo m A (order m A) 0 = true → wpOpsIn (fen c.r) 0 P A (Post c K) (Region.linearise m A t) a { w with drawn := w.drawn + 1 } := by
    intro m t tp
    unfold Region.linearise
    rw [lin_eq]
    simp only [List.reverse_nil, List.nil_append]
    obtain ⟨h1, h2, ds, h3, h4, h5⟩ := hs
    have hrep : ∀ i, i < A.size → (Array.replicate A.size false).getD i true = false := by
      intro i hi; rw [Array.getD_eq_getD_getElem?]; simp [hi]
    refine draw_run (RR := cloL A A.size) ok1 tp hV (by simpa using hD) hk _ _ _ a _ (by simp) (fun i j hi hb => by rw [hrep i hi] at hb; cases hb) ?_ (fun i _ hi => hrep i hi) h1.1 (h2.trans (Same.drawn _ (Nat.le_add_right _ _))) ⟨ds, h3, h4, ?_⟩ ?_ (fun s v hs _ => h1.2 s v hs)
    · rw [List.countP_eq_length.2]
      · simp
      · intro i hi; rw [hrep i (by simpa using hi)]; rfl
    · have e : pcs q (fun i => if (Array.replicate A.size false).getD i true = true then Y i else X i) = pcs q X := flat_congr fun i hi => by
        rw [hrep i (by have : i < q := by simpa using hi
                       omega)]; rfl
      rw [e, ← hX, ← List.append_assoc]
      exact sat_heap (sat_perm (List.Perm.append_right _ tk) h5) rfl
    · intro j d hj hb _
      rw [hrep j (by omega)] at hb; cases hb
  unfold Region.schedule
  split
  · exact run _ _ ok2
  · split
    · exact run _ _ ok3
    · exact run _ _ ok4
theorem G.draw {id : Nat} (q : Nat) (ok : drawOK c.N q A = true) (h : GQ P c A (A.toList.take q) (fun L' H' => GO P c A (A.toList.drop q) K L' H') L H [] []) : G P c (.region id A true) K L H :=
  G.drawP q [] H ok (List.Perm.refl _) h
end
end Go.Proofs.YtbconcohpfkncaaGreat
