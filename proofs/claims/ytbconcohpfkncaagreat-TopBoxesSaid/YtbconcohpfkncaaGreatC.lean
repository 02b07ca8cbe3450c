/-
  The rules for the single operations: symbolic execution, continued. Any program.
-/
import Derived.Test.YtbconcohpfkncaaGreatB
import Derived.IntWalk
namespace Go.Proofs.YtbconcohpfkncaaGreat
open Go

class UL (P : Program) (t : TypeId) (d : outParam TypeDesc) : Prop where out : P.underlying t = some d
class SZ (P : Program) (t : TypeId) (n : outParam Nat) : Prop where out : (P.info? t).map (·.size) = some n
class BY (P : Program) (t : TypeId) (n : outParam Nat) : Prop where out : (P.info? t).map (·.bytes) = some n
class ZC (P : Program) (t : TypeId) (l : outParam (List Value)) : Prop where out : ((P.info? t).bind (·.zero)).map (fun z => z.cells.toList) = some l
class Cal (P : Program) (f : FuncId) : Prop where out : ∀ args w, (callFunc f args).run P w = .ok (.enter f args) w

/-- A block of cells that may be written. -/
def row (l : List Value) (T : TypeId) : Obj := .cells l.toArray T (0, 0)
/-- The piece x has the cell v at the address a. -/
def Rd (x : HP) (a : Addr) (v : Value) : Prop := ∀ l w, sat (x :: l) w → w.cell? a = some v
theorem Rd.row {b : Nat} {l : List Value} {T : TypeId} {o : Nat} {v : Value} (h : l[o]? = some v) : Rd (pt b (row l T)) ⟨b, o, none⟩ v := by
  intro l' w s
  have := sat_pt s
  simp [World.cell?, this, YtbconcohpfkncaaGreat.row, h]
theorem Rd.init {w0 : World} {a : Addr} {v : Value} (h : w0.cell? a = some v) : Rd (init w0) a v := by
  intro l w s
  have hb : a.block < w0.heap.size := by
    simp only [World.cell?] at h
    split at h
    · rename_i e; exact (Array.getElem?_eq_some_iff.1 e).1
    · cases h
  obtain ⟨k, hl, h1, h2, d, rfl, rfl, _⟩ := s
  cases e : w0.heap[a.block]? with
  | none => simp [World.cell?, e] at h
  | some o =>
    have : w.heap[a.block]? = some o := hl _ _ (by unfold Hp.cup; simp only [hb, if_true, e]; rfl)
    rw [← h]; simp only [World.cell?, this, e]

section rules
variable {P : Program} {c : Cx} {A : Array Oper} {rest : List Oper} {K : Kont} {L : Env} {H : List HP} {t : TypeId} {p : String} {e : Array Edge}

theorem GO.nil (k : K .normal L H) : GO P c A [] K L H := fun _ _ h => ⟨L, H, h, k⟩
theorem GO.sub {os : List Oper} {L' : Env} {H' : List HP} (hL : SubE L' L) (hH : Sb H' H) (k : GO P c A os K L' H') : GO P c A os K L H := fun a w h => k a w (h.sub hL hH)
theorem GO.mem {os : List Oper} {H' : List HP} (hH : Sb H' H) (k : GO P c A os K L H') : GO P c A os K L H := GO.sub SubE.r hH k
theorem GO.exs {α : Type} {os : List Oper} {q : α → HP} (k : ∀ y, GO P c A os K L (q y :: H)) : GO P c A os K L (exs q :: H) := by
  rintro a w ⟨h1, h2, ds, h3, h4, h5⟩
  obtain ⟨y, hy⟩ := sat_exs.1 h5
  exact k y a w ⟨h1, h2, ds, h3, h4, hy⟩
theorem GO.pur {os : List Oper} {φ : Prop} (k : φ → GO P c A os K L H) : GO P c A os K L (pur φ :: H) := by
  rintro a w ⟨h1, h2, ds, h3, h4, h5⟩
  obtain ⟨y, hy⟩ := sat_pur.1 h5
  exact k y a w ⟨h1, h2, ds, h3, h4, hy⟩
theorem GO.flat {os : List Oper} {l : List HP} (k : GO P c A os K L (l ++ H)) : GO P c A os K L (star l :: H) := by
  rintro a w ⟨h1, h2, ds, h3, h4, h5⟩
  refine k a w ⟨h1, h2, ds, h3, h4, ?_⟩
  rw [List.append_assoc]; exact sat_flat.1 h5
theorem GO.take {os : List Oper} {q : HP} {F : List HP} (tk : Tk q H F) (k : GO P c A os K L (q :: F)) : GO P c A os K L H := by
  rintro a w ⟨h1, h2, ds, h3, h4, h5⟩
  exact k a w ⟨h1, h2, ds, h3, h4, sat_perm (List.Perm.append_right _ tk) h5⟩

def ndef : Op → Bool
  | .defer _ => false
  | _ => true
theorem semAt_nd (ro : Option Nat) (ρ : Operand → Value) (o : Oper) (h : ndef o.op = true) : o.semAt ro ρ = execOp ρ o :=
  Oper.semAt_eq ro ρ o (fun c e => by rw [e] at h; cases h)
/-- An operation that yields a value. -/
theorem GO.gen {d : Nat} {op : Op} (hN : Nat.blt d c.N = true) (nd : ndef op = true) (R : Value → List HP → Prop)
    (hr : ∀ a w Y, At c.N L a → sat (H ++ Y) w → ∃ v w' H', (execOp a.eval ⟨some d, op, t, p, e, none⟩).run P w = .ok (.value v) w' ∧ Same w w' ∧ R v H' ∧ sat (H' ++ Y) w')
    (k : ∀ v H', R v H' → GO P c A rest K ((d, v) :: L) H') : GO P c A (⟨some d, op, t, p, e, none⟩ :: rest) K L H := by
  rintro a w ⟨h1, h2, ds, h3, h4, h5⟩
  obtain ⟨v, w', H', hrun, hs, hR, hsat⟩ := hr a w _ h1 h5
  simp only [opsWp, Region.wanted, if_true]
  rw [semAt_nd _ _ _ nd, hrun]
  exact k v H' hR _ w' ⟨h1.put hN, h2.trans hs, ds, h3, h4, hsat⟩
/-- Likewise where nobody takes the value. -/
theorem GO.gen0 {op : Op} (nd : ndef op = true) (R : Value → List HP → Prop)
    (hr : ∀ a w Y, At c.N L a → sat (H ++ Y) w → ∃ v w' H', (execOp a.eval ⟨none, op, t, p, e, none⟩).run P w = .ok (.value v) w' ∧ Same w w' ∧ R v H' ∧ sat (H' ++ Y) w')
    (k : ∀ v H', R v H' → GO P c A rest K L H') : GO P c A (⟨none, op, t, p, e, none⟩ :: rest) K L H := by
  rintro a w ⟨h1, h2, ds, h3, h4, h5⟩
  obtain ⟨v, w', H', hrun, hs, hR, hsat⟩ := hr a w _ h1 h5
  simp only [opsWp, Region.wanted, if_true]
  rw [semAt_nd _ _ _ nd, hrun]
  exact k v H' hR _ w' ⟨h1, h2.trans hs, ds, h3, h4, hsat⟩
/-- An operation that yields nothing. -/
theorem GO.genS {op : Op} {H' : List HP} (nd : ndef op = true)
    (hr : ∀ a w Y, At c.N L a → sat (H ++ Y) w → ∃ w', (execOp a.eval ⟨none, op, t, p, e, none⟩).run P w = .ok .skip w' ∧ Same w w' ∧ sat (H' ++ Y) w')
    (k : GO P c A rest K L H') : GO P c A (⟨none, op, t, p, e, none⟩ :: rest) K L H := by
  rintro a w ⟨h1, h2, ds, h3, h4, h5⟩
  obtain ⟨w', hrun, hs, hsat⟩ := hr a w _ h1 h5
  simp only [opsWp, Region.wanted, if_true]
  rw [semAt_nd _ _ _ nd, hrun]
  exact k _ w' ⟨h1, h2.trans hs, ds, h3, h4, hsat⟩
/-- An operation whose value is known and that leaves all as it is. -/
theorem GO.val {d : Nat} {op : Op} {v : Value} (hN : Nat.blt d c.N = true) (nd : ndef op = true)
    (hr : ∀ a w Y, At c.N L a → sat (H ++ Y) w → (execOp a.eval ⟨some d, op, t, p, e, none⟩).run P w = .ok (.value v) w)
    (k : GO P c A rest K ((d, v) :: L) H) : GO P c A (⟨some d, op, t, p, e, none⟩ :: rest) K L H :=
  GO.gen hN nd (fun u H' => u = v ∧ H' = H) (fun a w Y h s => ⟨v, w, H, hr a w Y h s, Same.refl w, ⟨rfl, rfl⟩, s⟩) (by rintro _ _ ⟨rfl, rfl⟩; exact k)

/-! ### Guards -/
def gslot (A : Array Oper) (j : Nat) : Option Nat := (A[j]?).bind (·.dst)
theorem yielded_at {a : Act} {j s : Nat} {b : Bool} (h : At c.N L a) (hj : gslot A j = some s) (hl : look L s = some (.bool b)) : yielded A a.tmps j = some b := by
  unfold gslot at hj
  simp [yielded, hj, h.2 s _ hl]
theorem GO.gT {d : Option Nat} {op : Op} {j s : Nat} {want b : Bool} (hj : gslot A j = some s) (hl : look L s = some (.bool b)) (hb : b = want)
    (k : GO P c A (⟨d, op, t, p, e, none⟩ :: rest) K L H) : GO P c A (⟨d, op, t, p, e, some (j, want)⟩ :: rest) K L H := by
  intro a w h
  have := k a w h
  simp only [opsWp, Region.wanted, if_true] at this
  simp only [opsWp, Region.wanted, yielded_at h.at_ hj hl, hb, beq_self_eq_true, if_true]
  exact this
theorem GO.gF {d : Nat} {op : Op} {j s : Nat} {want b : Bool} (hN : Nat.blt d c.N = true) (hj : gslot A j = some s) (hl : look L s = some (.bool b)) (hb : b = !want)
    (k : GO P c A rest K ((d, undef) :: L) H) : GO P c A (⟨some d, op, t, p, e, some (j, want)⟩ :: rest) K L H := by
  rintro a w h
  have hw : (some b == some want) = false := by rw [hb]; cases want <;> rfl
  simp only [opsWp, Region.wanted, yielded_at h.at_ hj hl, hw, Bool.false_eq_true, if_false]
  obtain ⟨h1, h2, h3⟩ := h
  exact k _ w ⟨h1.put hN, h2, h3⟩
/-! ### Values alone -/
theorem GO.move {d : Nat} {x : Operand} {v : Value} (hN : Nat.blt d c.N = true) (hx : evl L x = some v) (k : GO P c A rest K ((d, v) :: L) H) : GO P c A (⟨some d, .move x, t, p, e, none⟩ :: rest) K L H :=
  GO.val hN rfl (fun a w Y h _ => by simp [execOp, h.eval hx]) k
theorem GO.assign {d : Nat} {x : Operand} {v : Value} (hN : Nat.blt d c.N = true) (hx : evl L x = some v) (k : GO P c A rest K ((d, v) :: L) H) : GO P c A (⟨some d, .assign x, t, p, e, none⟩ :: rest) K L H :=
  GO.val hN rfl (fun a w Y h _ => by simp [execOp, h.eval hx]) k
theorem GO.pickT {d : Nat} {x y z : Operand} {v : Value} (hN : Nat.blt d c.N = true) (hx : evl L x = some (.bool true)) (hy : evl L y = some v) (k : GO P c A rest K ((d, v) :: L) H) : GO P c A (⟨some d, .pick x y z, t, p, e, none⟩ :: rest) K L H :=
  GO.val hN rfl (fun a w Y h _ => by simp [execOp, h.eval hx, h.eval hy, asBool]) k
theorem GO.pickF {d : Nat} {x y z : Operand} {v : Value} (hN : Nat.blt d c.N = true) (hx : evl L x = some (.bool false)) (hz : evl L z = some v) (k : GO P c A rest K ((d, v) :: L) H) : GO P c A (⟨some d, .pick x y z, t, p, e, none⟩ :: rest) K L H :=
  GO.val hN rfl (fun a w Y h _ => by simp [execOp, h.eval hx, h.eval hz, asBool]) k
def nthV : List Value → Nat → Option Value
  | [], _ => none
  | v :: _, 0 => some v
  | _ :: l, i + 1 => nthV l i
theorem nthV_eq : ∀ (l : List Value) (i : Nat), nthV l i = l[i]?
  | [], i => by simp [nthV]
  | v :: l, 0 => by simp [nthV]
  | v :: l, i + 1 => by simp [nthV, nthV_eq l i]
theorem GO.extract {d i : Nat} {x : Operand} {vs : List Value} {v : Value} (hN : Nat.blt d c.N = true) (hx : evl L x = some (.tuple vs.toArray)) (hv : nthV vs i = some v) (k : GO P c A rest K ((d, v) :: L) H) : GO P c A (⟨some d, .extract x i, t, p, e, none⟩ :: rest) K L H :=
  GO.val hN rfl (fun a w Y h _ => by rw [nthV_eq] at hv; simp [execOp, h.eval hx, Instr.extract, hv]) k
theorem GO.not {d : Nat} {x : Operand} {b : Bool} {ty : TypeId} (hN : Nat.blt d c.N = true) (hx : evl L x = some (.bool b)) (k : GO P c A rest K ((d, .bool (!b)) :: L) H) : GO P c A (⟨some d, .unOp .not ty x, t, p, e, none⟩ :: rest) K L H :=
  GO.val hN rfl (fun a w Y h _ => by simp [execOp, h.eval hx, Op.unary]) k

theorem run_eqGuard_int (op : BinOp) (ty : TypeId) (x y : Operand) (k k' : IntKind) (a b : Int) (w : World) : (eqGuard op ty x y (.int k a) (.int k' b)).run P w = .ok () w := by
  unfold eqGuard; split <;> rfl
/-- An operation on two integers of one kind. -/
def binI (op : BinOp) (k : IntKind) (a b : Int) : Option Value :=
  match op with
  | .add => some (.int k (k.wrap (a + b)))
  | .sub => some (.int k (k.wrap (a - b)))
  | .mul => some (.int k (k.wrap (a * b)))
  | .quo => if b = 0 then none else some (.int k (k.wrap (a.tdiv b)))
  | .rem => if b = 0 then none else some (.int k (a.tmod b))
  | .and => some (.int k (k.wrap (BitVec.ofInt k.bits a &&& BitVec.ofInt k.bits b).toNat))
  | .or => some (.int k (k.wrap (BitVec.ofInt k.bits a ||| BitVec.ofInt k.bits b).toNat))
  | .xor => some (.int k (k.wrap (BitVec.ofInt k.bits a ^^^ BitVec.ofInt k.bits b).toNat))
  | .andNot => some (.int k (k.wrap (BitVec.ofInt k.bits a &&& ~~~BitVec.ofInt k.bits b).toNat))
  | .eql => some (.bool (decide (a = b)))
  | .neq => some (.bool (decide (a ≠ b)))
  | .lss => some (.bool (decide (a < b)))
  | .leq => some (.bool (decide (a ≤ b)))
  | .gtr => some (.bool (decide (b < a)))
  | .geq => some (.bool (decide (b ≤ a)))
  | _ => none
theorem run_binI {op : BinOp} {ty : TypeId} {k : IntKind} {a b : Int} {v : Value} (h : binI op k a b = some v) (w : World) : (binOp op ty (.int k a) (.int k b)).run P w = .ok v w := by
  cases op <;> simp only [binI] at h
  case quo => split at h <;> simp_all [binOp, Op.intDiv]
  case rem => split at h <;> simp_all [binOp, Op.intDiv]
  all_goals first | (cases h; done) | (simp only [Option.some.injEq] at h; subst h; simp [binOp, Op.intArith, Op.intBits, Op.intCmp]; done) | (simp only [Option.some.injEq] at h; subst h; simp only [binOp, Op.intCmp]; first | rfl | (simp [bne]; rfl) | (simp; congr; done))
theorem GO.bin {d : Nat} {op : BinOp} {x y : Operand} {k : IntKind} {m n : Int} {v : Value} {ty ty' : TypeId} (hN : Nat.blt d c.N = true) (hx : evl L x = some (.int k m)) (hy : evl L y = some (.int k n)) (hv : binI op k m n = some v)
    (kk : GO P c A rest K ((d, v) :: L) H) : GO P c A (⟨some d, .binOp op ty x y ty', t, p, e, none⟩ :: rest) K L H :=
  GO.val hN rfl (fun a w Y h _ => by
    simp only [execOp, h.eval hx, h.eval hy]
    simp [Sem.run_bind, run_eqGuard_int, run_binI hv, Result.andThen]) kk
end rules
end Go.Proofs.YtbconcohpfkncaaGreat
