/-
  The law QuadPlays, part 4.
-/
import Derived.Test.YtfoahdfflchidaaDoorM3
namespace Go.Proofs.YtfoahdfflchidaaDoor
open Go
/-- The block of the cells that lie in it. -/
def blkTo (l : List (Nat × Nat)) (i j : Nat) : Blk := l.foldl (fun B p => if p.1 / 64 = i ∧ p.2 / 64 = j then bitB B (p.1 % 64) (p.2 % 64) else B) zeroB
theorem blkTo_succ {l : List (Nat × Nat)} {k : Nat} {x : Nat × Nat} (i j : Nat) (h : l[k]? = some x) : blkTo (l.take (k + 1)) i j = if x.1 / 64 = i ∧ x.2 / 64 = j then bitB (blkTo (l.take k) i j) (x.1 % 64) (x.2 % 64) else blkTo (l.take k) i j := by
  unfold blkTo
  rw [List.take_add_one, h, Option.toList_some, List.foldl_append]; rfl
theorem bitB_at (B : Blk) (r k r' c : Nat) (hc : c < 64) : (bitB B r k r').getLsbD c = ((B r').getLsbD c || (decide (r' = r) && decide (c = k))) := by
  unfold bitB updB
  by_cases h : r' = r
  · subst h
    rw [if_pos rfl, BitVec.getLsbD_or, getLsbD_bit c k hc, decide_eq_true rfl, Bool.true_and]
  · rw [if_neg h, decide_eq_false h, Bool.false_and, Bool.or_false]
theorem blk_fold (i j r c : Nat) (hr : r < 64) (hc : c < 64) : ∀ (l : List (Nat × Nat)) (B : Blk), ((l.foldl (fun B p => if p.1 / 64 = i ∧ p.2 / 64 = j then bitB B (p.1 % 64) (p.2 % 64) else B) B) r).getLsbD c = true ↔ (B r).getLsbD c = true ∨ (64 * i + r, 64 * j + c) ∈ l
  | [], B => by simp
  | x :: l, B => by
    rw [List.foldl_cons, blk_fold i j r c hr hc l, List.mem_cons]
    have e : ((64 * i + r, 64 * j + c) = x) ↔ (x.1 / 64 = i ∧ x.2 / 64 = j) ∧ r = x.1 % 64 ∧ c = x.2 % 64 := by
      obtain ⟨a, b⟩ := x
      rw [Prod.mk.injEq]
      omega
    rw [e]
    split
    · rename_i h1
      rw [bitB_at _ _ _ _ _ hc, Bool.or_eq_true, Bool.and_eq_true, decide_eq_true_iff, decide_eq_true_iff]
      constructor
      · rintro ((h | h) | h)
        · exact .inl h
        · exact .inr (.inl ⟨h1, h⟩)
        · exact .inr (.inr h)
      · rintro (h | ⟨_, h⟩ | h)
        · exact .inl (.inl h)
        · exact .inl (.inr h)
        · exact .inr h
    · rename_i h1
      constructor
      · rintro (h | h)
        · exact .inl h
        · exact .inr (.inr h)
      · rintro (h | ⟨h, _⟩ | h)
        · exact .inl h
        · exact absurd h h1
        · exact .inr h
theorem blkTo_end {s : Nat} {X : Nat → Nat → Bool} (hs : s ≤ 1024) (hx : ∀ r c, X r c = true → r < s ∧ c < s) (i j : Nat) : blk (blkTo (cellsX X) i j) = blk (blkAt X i j) := blk_congr fun r hr => eq_of_bits fun c hc => by
  rw [blkAt_bit _ _ _ _ _ hc, Bool.eq_iff_iff]
  unfold blkTo
  rw [blk_fold i j r c hr hc, cellsX_iff hs hx]
  constructor
  · rintro (h | h)
    · simp [zeroB] at h
    · exact h
  · exact .inr
attribute [local irreducible] G GO GR GT GW Fn FnV pt init exs pur sat own ImpS mat posL allV orL restX cellsX cellsV cntX lessX uniX rowX natsV lines plc swpL colsL blkTo
set_option maxHeartbeats 4000000 in
theorem rblock_spec (s : Nat) (i j : Int) (v : Value) (hv : v.oneCell' = true) (hs : s ≤ 1024) : Fn Tryd.prog 82 #[refV s v, i64 i, i64 j] [] (fun r Q => r = i64 (wbO s i j) ∧ Q = []) := by
  by_cases h0 : s = 0
  · subst h0
    rw [wbO_none]
    refine Fn.mk2 Tryd.func82 rfl rfl fun w0 F => ?_
    (refine G.seq ?_; refine G.region ?_; refine GO.box rfl rfl rfl fun b3 => ?_; refine GO.assign rfl rfl ?_; refine GO.nil ?_; refine kthen_n ?_; refine G.seq ?_; refine G.seq ?_; refine G.region ?_; refine GO.fieldAddr rfl rfl ?_; refine GO.load1 rfl rfl rfl Tk.h rfl ?_; refine GO.eqT rfl rfl rfl rfl ?_; refine GO.nil ?_; refine kthen_n ?_; refine G.condT rfl rfl ?_; refine G.seq ?_; refine G.region ?_; refine GO.assign rfl rfl ?_; refine GO.nil ?_; refine kthen_n ?_; refine G.ret ?_; refine kthen_r ?_)
    refine KF2.r1 rfl (RV.t rfl) ⟨rfl, rfl⟩ (ImpS.sb ?_)
    (skip; (refine Sb.s ?_; exact Sb.r))
  have d0 : decide (((s : Nat) : Int) = 0) = false := decide_eq_false (by omega)
  have hs1 : 1 ≤ s := by omega
  have hm : hasM s i j = (!decide (i < 0) && !decide (j < 0) && !decide (((s : Int) - 1) / 64 < i) && !decide (((s : Int) - 1) / 64 < j)) := by
    unfold hasM
    rw [Bool.eq_iff_iff]
    simp only [Bool.and_eq_true, Bool.not_eq_true', decide_eq_true_eq, decide_eq_false_iff_not]
    omega
  cases h1 : decide (i < 0) with
  | true =>
    rw [wbO_f hs1 (by rw [hm, h1]; rfl)]
    refine Fn.mk2 Tryd.func82 rfl rfl fun w0 F => ?_
    (refine G.seq ?_; refine G.region ?_; refine GO.box rfl rfl rfl fun b3 => ?_; refine GO.assign rfl rfl ?_; refine GO.nil ?_; refine kthen_n ?_; refine G.seq ?_; refine G.seq ?_; refine G.region ?_; refine GO.fieldAddr rfl rfl ?_; refine GO.load1 rfl rfl rfl Tk.h rfl ?_; refine GO.eqi rfl rfl rfl ?_; refine GO.nil ?_; refine kthen_n ?_; refine G.condF rfl (by assumption) ?_; refine G.skip ?_; refine kthen_n ?_; refine G.seq ?_; refine G.region ?_; refine GO.fieldAddr rfl rfl ?_; refine GO.load1 rfl rfl rfl Tk.h rfl ?_; refine GO.subi rfl rfl rfl (by omega) ?_; refine GO.quoi rfl rfl rfl (by omega) ?_; refine GO.assign rfl rfl ?_; refine GO.nil ?_; refine kthen_n ?_; refine G.seq ?_; refine G.seq ?_; refine G.region ?_; refine GO.move rfl rfl ?_; refine GO.lti rfl rfl rfl ?_; refine GO.move rfl rfl ?_; refine GO.gF rfl rfl rfl (by assumption) ?_; refine GO.gF rfl rfl rfl (by assumption) ?_; refine GO.pickTa rfl rfl (by assumption) rfl ?_; refine GO.move rfl rfl ?_; refine GO.gF rfl rfl rfl rfl ?_; refine GO.gF rfl rfl rfl rfl ?_; refine GO.gF rfl rfl rfl rfl ?_; refine GO.pickT rfl rfl rfl ?_; refine GO.move rfl rfl ?_; refine GO.gF rfl rfl rfl rfl ?_; refine GO.gF rfl rfl rfl rfl ?_; refine GO.gF rfl rfl rfl rfl ?_; refine GO.pickT rfl rfl rfl ?_; refine GO.nil ?_; refine kthen_n ?_; refine G.condT rfl rfl ?_; refine G.seq ?_; refine G.region ?_; refine GO.assign rfl rfl ?_; refine GO.nil ?_; refine kthen_n ?_; refine G.ret ?_; refine kthen_r ?_)
    refine KF2.r1 rfl (RV.t rfl) ⟨rfl, rfl⟩ (ImpS.sb ?_)
    (skip; (refine Sb.s ?_; exact Sb.r))
  | false =>
    cases h2 : decide (j < 0) with
    | true =>
      rw [wbO_f hs1 (by rw [hm, h1, h2]; rfl)]
      refine Fn.mk2 Tryd.func82 rfl rfl fun w0 F => ?_
      (refine G.seq ?_; refine G.region ?_; refine GO.box rfl rfl rfl fun b3 => ?_; refine GO.assign rfl rfl ?_; refine GO.nil ?_; refine kthen_n ?_; refine G.seq ?_; refine G.seq ?_; refine G.region ?_; refine GO.fieldAddr rfl rfl ?_; refine GO.load1 rfl rfl rfl Tk.h rfl ?_; refine GO.eqi rfl rfl rfl ?_; refine GO.nil ?_; refine kthen_n ?_; refine G.condF rfl (by assumption) ?_; refine G.skip ?_; refine kthen_n ?_; refine G.seq ?_; refine G.region ?_; refine GO.fieldAddr rfl rfl ?_; refine GO.load1 rfl rfl rfl Tk.h rfl ?_; refine GO.subi rfl rfl rfl (by omega) ?_; refine GO.quoi rfl rfl rfl (by omega) ?_; refine GO.assign rfl rfl ?_; refine GO.nil ?_; refine kthen_n ?_; refine G.seq ?_; refine G.seq ?_; refine G.region ?_; refine GO.move rfl rfl ?_; refine GO.lti rfl rfl rfl ?_; refine GO.move rfl rfl ?_; refine GO.gT rfl rfl (by assumption) ?_; refine GO.move rfl rfl ?_; refine GO.gT rfl rfl (by assumption) ?_; refine GO.lti rfl rfl rfl ?_; refine GO.pickFa rfl rfl (by assumption) rfl ?_; refine GO.move rfl rfl ?_; refine GO.gF rfl rfl rfl (by assumption) ?_; refine GO.gF rfl rfl rfl (by assumption) ?_; refine GO.gF rfl rfl rfl (by assumption) ?_; refine GO.pickTa rfl rfl (by assumption) rfl ?_; refine GO.move rfl rfl ?_; refine GO.gF rfl rfl rfl rfl ?_; refine GO.gF rfl rfl rfl rfl ?_; refine GO.gF rfl rfl rfl rfl ?_; refine GO.pickT rfl rfl rfl ?_; refine GO.nil ?_; refine kthen_n ?_; refine G.condT rfl rfl ?_; refine G.seq ?_; refine G.region ?_; refine GO.assign rfl rfl ?_; refine GO.nil ?_; refine kthen_n ?_; refine G.ret ?_; refine kthen_r ?_)
      refine KF2.r1 rfl (RV.t rfl) ⟨rfl, rfl⟩ (ImpS.sb ?_)
      (skip; (refine Sb.s ?_; exact Sb.r))
    | false =>
      cases h3 : decide (((s : Int) - 1) / 64 < i) with
      | true =>
        rw [wbO_f hs1 (by rw [hm, h1, h2, h3]; rfl)]
        refine Fn.mk2 Tryd.func82 rfl rfl fun w0 F => ?_
        (refine G.seq ?_; refine G.region ?_; refine GO.box rfl rfl rfl fun b3 => ?_; refine GO.assign rfl rfl ?_; refine GO.nil ?_; refine kthen_n ?_; refine G.seq ?_; refine G.seq ?_; refine G.region ?_; refine GO.fieldAddr rfl rfl ?_; refine GO.load1 rfl rfl rfl Tk.h rfl ?_; refine GO.eqi rfl rfl rfl ?_; refine GO.nil ?_; refine kthen_n ?_; refine G.condF rfl (by assumption) ?_; refine G.skip ?_; refine kthen_n ?_; refine G.seq ?_; refine G.region ?_; refine GO.fieldAddr rfl rfl ?_; refine GO.load1 rfl rfl rfl Tk.h rfl ?_; refine GO.subi rfl rfl rfl (by omega) ?_; refine GO.quoi rfl rfl rfl (by omega) ?_; refine GO.assign rfl rfl ?_; refine GO.nil ?_; refine kthen_n ?_; refine G.seq ?_; refine G.seq ?_; refine G.region ?_; refine GO.move rfl rfl ?_; refine GO.lti rfl rfl rfl ?_; refine GO.move rfl rfl ?_; refine GO.gT rfl rfl (by assumption) ?_; refine GO.move rfl rfl ?_; refine GO.gT rfl rfl (by assumption) ?_; refine GO.lti rfl rfl rfl ?_; refine GO.pickFa rfl rfl (by assumption) rfl ?_; refine GO.move rfl rfl ?_; refine GO.gT rfl rfl (by assumption) ?_; refine GO.move rfl rfl ?_; refine GO.gT rfl rfl (by assumption) ?_; refine GO.move rfl rfl ?_; refine GO.gT rfl rfl (by assumption) ?_; refine GO.gti rfl rfl rfl ?_; refine GO.pickFa rfl rfl (by assumption) rfl ?_; refine GO.move rfl rfl ?_; refine GO.gF rfl rfl rfl (by assumption) ?_; refine GO.gF rfl rfl rfl (by assumption) ?_; refine GO.gF rfl rfl rfl (by assumption) ?_; refine GO.pickTa rfl rfl (by assumption) rfl ?_; refine GO.nil ?_; refine kthen_n ?_; refine G.condT rfl rfl ?_; refine G.seq ?_; refine G.region ?_; refine GO.assign rfl rfl ?_; refine GO.nil ?_; refine kthen_n ?_; refine G.ret ?_; refine kthen_r ?_)
        refine KF2.r1 rfl (RV.t rfl) ⟨rfl, rfl⟩ (ImpS.sb ?_)
        (skip; (refine Sb.s ?_; exact Sb.r))
      | false =>
        cases h4 : decide (((s : Int) - 1) / 64 < j) with
        | true =>
          rw [wbO_f hs1 (by rw [hm, h1, h2, h3, h4]; rfl)]
          refine Fn.mk2 Tryd.func82 rfl rfl fun w0 F => ?_
          (refine G.seq ?_; refine G.region ?_; refine GO.box rfl rfl rfl fun b3 => ?_; refine GO.assign rfl rfl ?_; refine GO.nil ?_; refine kthen_n ?_; refine G.seq ?_; refine G.seq ?_; refine G.region ?_; refine GO.fieldAddr rfl rfl ?_; refine GO.load1 rfl rfl rfl Tk.h rfl ?_; refine GO.eqi rfl rfl rfl ?_; refine GO.nil ?_; refine kthen_n ?_; refine G.condF rfl (by assumption) ?_; refine G.skip ?_; refine kthen_n ?_; refine G.seq ?_; refine G.region ?_; refine GO.fieldAddr rfl rfl ?_; refine GO.load1 rfl rfl rfl Tk.h rfl ?_; refine GO.subi rfl rfl rfl (by omega) ?_; refine GO.quoi rfl rfl rfl (by omega) ?_; refine GO.assign rfl rfl ?_; refine GO.nil ?_; refine kthen_n ?_; refine G.seq ?_; refine G.seq ?_; refine G.region ?_; refine GO.move rfl rfl ?_; refine GO.lti rfl rfl rfl ?_; refine GO.move rfl rfl ?_; refine GO.gT rfl rfl (by assumption) ?_; refine GO.move rfl rfl ?_; refine GO.gT rfl rfl (by assumption) ?_; refine GO.lti rfl rfl rfl ?_; refine GO.pickFa rfl rfl (by assumption) rfl ?_; refine GO.move rfl rfl ?_; refine GO.gT rfl rfl (by assumption) ?_; refine GO.move rfl rfl ?_; refine GO.gT rfl rfl (by assumption) ?_; refine GO.move rfl rfl ?_; refine GO.gT rfl rfl (by assumption) ?_; refine GO.gti rfl rfl rfl ?_; refine GO.pickFa rfl rfl (by assumption) rfl ?_; refine GO.move rfl rfl ?_; refine GO.gT rfl rfl (by assumption) ?_; refine GO.move rfl rfl ?_; refine GO.gT rfl rfl (by assumption) ?_; refine GO.move rfl rfl ?_; refine GO.gT rfl rfl (by assumption) ?_; refine GO.gti rfl rfl rfl ?_; refine GO.pickFa rfl rfl (by assumption) rfl ?_; refine GO.nil ?_; refine kthen_n ?_; refine G.condT rfl (by assumption) ?_; refine G.seq ?_; refine G.region ?_; refine GO.assign rfl rfl ?_; refine GO.nil ?_; refine kthen_n ?_; refine G.ret ?_; refine kthen_r ?_)
          refine KF2.r1 rfl (RV.t rfl) ⟨rfl, rfl⟩ (ImpS.sb ?_)
          (skip; (refine Sb.s ?_; exact Sb.r))
        | false =>
          rw [wbO_t hs1 (by rw [hm, h1, h2, h3, h4]; rfl)]
          refine Fn.mk2 Tryd.func82 rfl rfl fun w0 F => ?_
          (refine G.seq ?_; refine G.region ?_; refine GO.box rfl rfl rfl fun b3 => ?_; refine GO.assign rfl rfl ?_; refine GO.nil ?_; refine kthen_n ?_; refine G.seq ?_; refine G.seq ?_; refine G.region ?_; refine GO.fieldAddr rfl rfl ?_; refine GO.load1 rfl rfl rfl Tk.h rfl ?_; refine GO.eqi rfl rfl rfl ?_; refine GO.nil ?_; refine kthen_n ?_; refine G.condF rfl (by assumption) ?_; refine G.skip ?_; refine kthen_n ?_; refine G.seq ?_; refine G.region ?_; refine GO.fieldAddr rfl rfl ?_; refine GO.load1 rfl rfl rfl Tk.h rfl ?_; refine GO.subi rfl rfl rfl (by omega) ?_; refine GO.quoi rfl rfl rfl (by omega) ?_; refine GO.assign rfl rfl ?_; refine GO.nil ?_; refine kthen_n ?_; refine G.seq ?_; refine G.seq ?_; refine G.region ?_; refine GO.move rfl rfl ?_; refine GO.lti rfl rfl rfl ?_; refine GO.move rfl rfl ?_; refine GO.gT rfl rfl (by assumption) ?_; refine GO.move rfl rfl ?_; refine GO.gT rfl rfl (by assumption) ?_; refine GO.lti rfl rfl rfl ?_; refine GO.pickFa rfl rfl (by assumption) rfl ?_; refine GO.move rfl rfl ?_; refine GO.gT rfl rfl (by assumption) ?_; refine GO.move rfl rfl ?_; refine GO.gT rfl rfl (by assumption) ?_; refine GO.move rfl rfl ?_; refine GO.gT rfl rfl (by assumption) ?_; refine GO.gti rfl rfl rfl ?_; refine GO.pickFa rfl rfl (by assumption) rfl ?_; refine GO.move rfl rfl ?_; refine GO.gT rfl rfl (by assumption) ?_; refine GO.move rfl rfl ?_; refine GO.gT rfl rfl (by assumption) ?_; refine GO.move rfl rfl ?_; refine GO.gT rfl rfl (by assumption) ?_; refine GO.gti rfl rfl rfl ?_; refine GO.pickFa rfl rfl (by assumption) rfl ?_; refine GO.nil ?_; refine kthen_n ?_; refine G.condF rfl (by assumption) ?_; refine G.skip ?_; refine kthen_n ?_; refine G.seq ?_; refine G.region ?_; refine GO.assign rfl rfl ?_; refine GO.nil ?_; refine kthen_n ?_; refine G.ret ?_)
          refine KF2.r1 rfl (RV.t rfl) ⟨rfl, rfl⟩ (ImpS.sb ?_)
          (skip; (refine Sb.s ?_; exact Sb.r))
set_option maxHeartbeats 4000000 in
theorem rBlock_err (s : Nat) (i j : Int) (va : Value) (ha : va.oneCell' = true) (hs : s ≤ 1024) (h : wbO s i j ≠ 0) : Fn Tryd.prog 63 #[refV s va, i64 i, i64 j] [] (fun r Q => r = .tuple #[blk zeroB, i64 (wbO s i j)] ∧ Q = []) := by
  have hw := rblock_spec s i j va ha hs
  have d0 : decide (wbO s i j ≠ 0) = true := decide_eq_true h
  generalize wbO s i j = e at hw d0 ⊢
  refine Fn.mk2 Tryd.func63 rfl rfl fun w0 F => ?_
  (refine G.seq ?_; refine G.region ?_; refine GO.box rfl rfl rfl fun b3 => ?_; refine GO.alloc rfl fun b6 => ?_; refine GO.assign rfl rfl ?_; refine GO.nil ?_; refine kthen_n ?_; refine G.seq ?_; refine G.region ?_; refine GO.alloc rfl fun b8 => ?_; refine GO.nil ?_; refine kthen_n ?_; refine G.seq ?_; refine G.region ?_; refine GO.loadW rfl rfl rfl (Tk.t (Tk.t Tk.h)) rfl ?_; refine GO.move rfl rfl ?_; refine GO.move rfl rfl ?_)
  rw [cells_zero]
  skip
  refine GO.call3 rfl rfl rfl rfl (hw) Tks.n ?_
  rintro _ _ ⟨rfl, rfl⟩
  (refine GO.assign rfl rfl ?_; refine GO.nil ?_; refine kthen_n ?_; refine G.seq ?_; refine G.seq ?_; refine G.region ?_; refine GO.move rfl rfl ?_; refine GO.nei rfl rfl rfl ?_; refine GO.nil ?_; refine kthen_n ?_; refine G.condT rfl (by assumption) ?_; refine G.seq ?_; refine G.region ?_; refine GO.loadW rfl rfl rfl Tk.h (cells_len _) ?_; refine GO.move rfl rfl ?_; refine GO.storeW rfl rfl (Tk.t Tk.h) ⟨cells_len _, cells_len _⟩ (cells_one _) ?_; refine GO.assign rfl rfl ?_; refine GO.nil ?_; refine kthen_n ?_; refine G.ret ?_; refine kthen_r ?_)
  refine KF2.r2 rfl (RV.cW rfl rfl (by (exact Tk.h)) (cells_len _)) (RV.t rfl) ⟨rfl, rfl⟩ (ImpS.sb ?_)
  (skip; (refine Sb.s ?_; refine Sb.s ?_; refine Sb.s ?_; exact Sb.r))
set_option maxHeartbeats 8000000 in
theorem rBlock_core (z : HP) (s m n : Nat) (va : Value) (la : List (Nat × Nat)) (hone : va.oneCell' = true) (hsl : SlC z va (castL la)) (hn : ¬ 1048576 < la.length) (hs : s ≤ 1024) (h : wbO s (m : Nat) (n : Nat) = 0) (hb : ∀ p ∈ la, ¬ 1024 ≤ p.1 ∧ ¬ 1024 ≤ p.2) :
    Fn Tryd.prog 63 #[refV s va, i64 (m : Nat), i64 (n : Nat)] [z] (fun r Q => r = .tuple #[blk (blkTo la m n), i64 0] ∧ Q = [z]) := by
  have hw := rblock_spec s (m : Nat) (n : Nat) va hone hs
  rw [h] at hw
  obtain ⟨aa, capa, rfl, _, hra⟩ := hsl
  rw [castL_len] at hra hw ⊢
  refine Fn.mk2 Tryd.func63 rfl rfl fun w0 F => ?_
  (refine G.seq ?_; refine G.region ?_; refine GO.box rfl rfl rfl fun b3 => ?_; refine GO.alloc rfl fun b6 => ?_; refine GO.assign rfl rfl ?_; refine GO.nil ?_; refine kthen_n ?_; refine G.seq ?_; refine G.region ?_; refine GO.alloc rfl fun b8 => ?_; refine GO.nil ?_; refine kthen_n ?_; refine G.seq ?_; refine G.region ?_; refine GO.loadW rfl rfl rfl (Tk.t (Tk.t Tk.h)) rfl ?_; refine GO.move rfl rfl ?_; refine GO.move rfl rfl ?_)
  rw [cells_zero]
  skip
  refine GO.call3 rfl rfl rfl rfl (hw) Tks.n ?_
  rintro _ _ ⟨rfl, rfl⟩
  (refine GO.assign rfl rfl ?_; refine GO.nil ?_; refine kthen_n ?_; refine G.seq ?_; refine G.seq ?_; refine G.region ?_; refine GO.move rfl rfl ?_; refine GO.neF rfl rfl rfl rfl ?_; refine GO.nil ?_; refine kthen_n ?_; refine G.condF rfl rfl ?_; refine G.skip ?_; refine kthen_n ?_; refine G.seq ?_; refine G.seq ?_; refine G.region ?_; refine GO.assign rfl rfl ?_; refine GO.nil ?_; refine kthen_n ?_; refine G.block ?_)
  refine G.loop (fun (k : Nat) => [(1, i64 (m : Nat)), (2, i64 (n : Nat)), (3, ptrV b3), (6, ptrV b6), (8, ptrV b8), (10, i64 (k : Nat))])
    (fun k => pt b8 (row (cells (blkTo (la.take k) m n)) 77) :: pt b6 (row (cells zeroB) 77) :: pt b3 (row [i64 (s : Nat), .slice aa la.length capa] 52) :: z :: F)
    (fun k => k ≤ la.length) (fun k => la.length - k) 0 (Nat.zero_le _) ?_ ?_ ?_
  · (refine SubE.c rfl rfl ?_; refine SubE.c rfl rfl ?_; refine SubE.c rfl rfl ?_; refine SubE.c rfl rfl ?_; refine SubE.c rfl rfl ?_; refine SubE.c rfl rfl ?_; exact SubE.n)
  · rw [show blkTo (la.take 0) m n = zeroB by unfold blkTo; rfl]
    ((refine Sb.c Tk.h ?_; refine Sb.c Tk.h ?_; refine Sb.c Tk.h ?_; refine Sb.c Tk.h ?_); (exact Sb.r))
  rintro k hk
  (refine G.seq ?_; refine G.seq ?_; refine G.region ?_; refine GO.move rfl rfl ?_; refine GO.fieldAddr rfl rfl ?_; refine GO.load1 rfl rfl rfl (Tk.t (Tk.t Tk.h)) rfl ?_; refine GO.lenS rfl rfl ?_; refine GO.lti rfl rfl rfl ?_; refine GO.nil ?_; refine kthen_n ?_)
  refine G.condD rfl (fun hlt => ?_) (fun hge => ?_)
  · have hkl : k < la.length := by omega
    obtain ⟨x, hxk⟩ : ∃ x, la[k]? = some x := ⟨_, List.getElem?_eq_getElem hkl⟩
    have hstep := blkTo_succ m n hxk
    obtain ⟨hb1, hb2⟩ := hb x (List.mem_of_getElem? hxk)
    have hpc : (castL la)[k]? = some ((x.1 : Int), (x.2 : Int)) := by unfold castL; rw [List.getElem?_map, hxk]; rfl
    obtain ⟨ba, oa, rfl, hrx⟩ := hra (by omega)
    have r1 : Rd z ⟨ba, oa + k * 2, none⟩ (i64 ((x.1 : Nat) : Int)) := hrx _ _ (cellsV_get hpc).1
    have r2 : Rd z ⟨ba, oa + k * 2 + 1, none⟩ (i64 ((x.2 : Nat) : Int)) := hrx _ _ (cellsV_get hpc).2
    cases e1 : decide (((x.1 : Nat) : Int) / 64 = ((m : Nat) : Int)) with
    | false =>
      have := of_decide_eq_false e1
      rw [if_neg (by omega)] at hstep
      (refine G.skip ?_; refine kthen_n ?_; refine G.seq ?_; refine G.block ?_; refine G.seq ?_; refine G.region ?_; refine GO.fieldAddr rfl rfl ?_; refine GO.load1 rfl rfl rfl (Tk.t (Tk.t Tk.h)) rfl ?_; refine GO.move rfl rfl ?_; refine GO.idxS rfl rfl rfl ⟨rfl, by omega⟩ ?_; refine GO.load2 rfl rfl rfl (Tk.t (Tk.t (Tk.t Tk.h))) (by assumption) (by assumption) ?_; refine GO.alloc rfl fun b11 => ?_; refine GO.storeW rfl rfl Tk.h ⟨rfl, rfl⟩ (by simp [Value.oneCell']) ?_; refine GO.nil ?_; refine kthen_n ?_; refine G.seq ?_; refine G.region ?_; refine GO.fieldAddr rfl rfl ?_; refine GO.load1 rfl rfl rfl Tk.h rfl ?_; refine GO.quoi rfl rfl rfl (by omega) ?_; refine GO.move rfl rfl ?_; refine GO.eqi rfl rfl rfl ?_; refine GO.move rfl rfl ?_; refine GO.gF rfl rfl rfl (by assumption) ?_; refine GO.gF rfl rfl rfl (by assumption) ?_; refine GO.gF rfl rfl rfl (by assumption) ?_; refine GO.gF rfl rfl rfl (by assumption) ?_; refine GO.gF rfl rfl rfl (by assumption) ?_; refine GO.pickFa rfl rfl (by assumption) rfl ?_; refine GO.nil ?_; refine kthen_n ?_; refine G.condF rfl rfl ?_; refine G.skip ?_; refine kblock_n ?_; refine kthen_n ?_; refine G.region ?_; refine GO.move rfl rfl ?_; refine GO.addi rfl rfl rfl (by omega) ?_; refine GO.assign rfl rfl ?_; refine GO.nil ?_; refine kthen_n ?_)
      refine ⟨k + 1, by omega, by omega, ?_, ?_⟩
      · (refine SubE.c rfl rfl ?_; refine SubE.c rfl rfl ?_; refine SubE.c rfl rfl ?_; refine SubE.c rfl rfl ?_; refine SubE.c rfl rfl ?_; refine SubE.c rfl rfl ?_; exact SubE.n)
      · rw [hstep]
        ((refine Sb.c (Tk.t Tk.h) ?_; refine Sb.c (Tk.t Tk.h) ?_; refine Sb.c (Tk.t Tk.h) ?_; refine Sb.c (Tk.t Tk.h) ?_); (refine Sb.s ?_; exact Sb.r))
    | true =>
      have g1 := of_decide_eq_true e1
      cases e2 : decide (((x.2 : Nat) : Int) / 64 = ((n : Nat) : Int)) with
      | false =>
        have := of_decide_eq_false e2
        rw [if_neg (by omega)] at hstep
        (refine G.skip ?_; refine kthen_n ?_; refine G.seq ?_; refine G.block ?_; refine G.seq ?_; refine G.region ?_; refine GO.fieldAddr rfl rfl ?_; refine GO.load1 rfl rfl rfl (Tk.t (Tk.t Tk.h)) rfl ?_; refine GO.move rfl rfl ?_; refine GO.idxS rfl rfl rfl ⟨rfl, by omega⟩ ?_; refine GO.load2 rfl rfl rfl (Tk.t (Tk.t (Tk.t Tk.h))) (by assumption) (by assumption) ?_; refine GO.alloc rfl fun b11 => ?_; refine GO.storeW rfl rfl Tk.h ⟨rfl, rfl⟩ (by simp [Value.oneCell']) ?_; refine GO.nil ?_; refine kthen_n ?_; refine G.seq ?_; refine G.region ?_; refine GO.fieldAddr rfl rfl ?_; refine GO.load1 rfl rfl rfl Tk.h rfl ?_; refine GO.quoi rfl rfl rfl (by omega) ?_; refine GO.move rfl rfl ?_; refine GO.eqi rfl rfl rfl ?_; refine GO.move rfl rfl ?_; refine GO.gT rfl rfl (by assumption) ?_; refine GO.fieldAddr rfl rfl ?_; refine GO.gT rfl rfl (by assumption) ?_; refine GO.load1 rfl rfl rfl Tk.h rfl ?_; refine GO.gT rfl rfl (by assumption) ?_; refine GO.quoi rfl rfl rfl (by omega) ?_; refine GO.gT rfl rfl (by assumption) ?_; refine GO.move rfl rfl ?_; refine GO.gT rfl rfl (by assumption) ?_; refine GO.eqi rfl rfl rfl ?_; refine GO.pickTa rfl rfl (by assumption) rfl ?_; refine GO.nil ?_; refine kthen_n ?_; refine G.condF rfl (by assumption) ?_; refine G.skip ?_; refine kblock_n ?_; refine kthen_n ?_; refine G.region ?_; refine GO.move rfl rfl ?_; refine GO.addi rfl rfl rfl (by omega) ?_; refine GO.assign rfl rfl ?_; refine GO.nil ?_; refine kthen_n ?_)
        refine ⟨k + 1, by omega, by omega, ?_, ?_⟩
        · (refine SubE.c rfl rfl ?_; refine SubE.c rfl rfl ?_; refine SubE.c rfl rfl ?_; refine SubE.c rfl rfl ?_; refine SubE.c rfl rfl ?_; refine SubE.c rfl rfl ?_; exact SubE.n)
        · rw [hstep]
          ((refine Sb.c (Tk.t Tk.h) ?_; refine Sb.c (Tk.t Tk.h) ?_; refine Sb.c (Tk.t Tk.h) ?_; refine Sb.c (Tk.t Tk.h) ?_); (refine Sb.s ?_; exact Sb.r))
      | true =>
        have g2 := of_decide_eq_true e2
        rw [if_pos (by omega)] at hstep
        (refine G.skip ?_; refine kthen_n ?_; refine G.seq ?_; refine G.block ?_; refine G.seq ?_; refine G.region ?_; refine GO.fieldAddr rfl rfl ?_; refine GO.load1 rfl rfl rfl (Tk.t (Tk.t Tk.h)) rfl ?_; refine GO.move rfl rfl ?_; refine GO.idxS rfl rfl rfl ⟨rfl, by omega⟩ ?_; refine GO.load2 rfl rfl rfl (Tk.t (Tk.t (Tk.t Tk.h))) (by assumption) (by assumption) ?_; refine GO.alloc rfl fun b11 => ?_; refine GO.storeW rfl rfl Tk.h ⟨rfl, rfl⟩ (by simp [Value.oneCell']) ?_; refine GO.nil ?_; refine kthen_n ?_; refine G.seq ?_; refine G.region ?_; refine GO.fieldAddr rfl rfl ?_; refine GO.load1 rfl rfl rfl Tk.h rfl ?_; refine GO.quoi rfl rfl rfl (by omega) ?_; refine GO.move rfl rfl ?_; refine GO.eqi rfl rfl rfl ?_; refine GO.move rfl rfl ?_; refine GO.gT rfl rfl (by assumption) ?_; refine GO.fieldAddr rfl rfl ?_; refine GO.gT rfl rfl (by assumption) ?_; refine GO.load1 rfl rfl rfl Tk.h rfl ?_; refine GO.gT rfl rfl (by assumption) ?_; refine GO.quoi rfl rfl rfl (by omega) ?_; refine GO.gT rfl rfl (by assumption) ?_; refine GO.move rfl rfl ?_; refine GO.gT rfl rfl (by assumption) ?_; refine GO.eqi rfl rfl rfl ?_; refine GO.pickTa rfl rfl (by assumption) rfl ?_; refine GO.nil ?_; refine kthen_n ?_; refine G.condT rfl (by assumption) ?_)
        refine G.draw 15 (by kernel_rfl) ?_
        ((apply GQ.step; focus (intro Z; refine GO.fieldAddr rfl rfl ?_; exact KQ.z)); (apply GQ.step; focus (intro Z; refine GO.load1 rfl rfl rfl Tk.h rfl ?_; exact KQ.z)); (apply GQ.step; focus (intro Z; refine GO.remi rfl rfl rfl (by omega) ?_; exact KQ.z)); (apply GQ.step; focus (intro Z; refine GO.fieldAddr rfl rfl ?_; exact KQ.z)); (apply GQ.step; focus (intro Z; refine GO.load1 rfl rfl rfl Tk.h rfl ?_; exact KQ.z)); (apply GQ.step; focus (intro Z; refine GO.remi rfl rfl rfl (by omega) ?_; exact KQ.z)))
        apply GQ.step; focus (intro Z; refine GO.idxA (j := x.1 % 64) rfl rfl rfl ⟨by omega, by omega⟩ ?_; exact KQ.z)
        apply GQ.step; focus (intro Z; refine GO.load1 rfl rfl rfl (Tk.t Tk.h) (cells_get (blkTo (la.take k) m n) (j := x.1 % 64) (by omega) (by omega)) ?_; exact KQ.z)
        ((apply GQ.step; focus (intro Z; refine GO.fieldAddr rfl rfl ?_; exact KQ.z)); (apply GQ.step; focus (intro Z; refine GO.load1 rfl rfl rfl Tk.h rfl ?_; exact KQ.z)); (apply GQ.step; focus (intro Z; refine GO.remi rfl rfl rfl (by omega) ?_; exact KQ.z)))
        apply GQ.step; focus (intro Z; refine GO.conv rfl rfl (by rw [IntWalk.u64_in]; omega) ?_; exact KQ.z)
        apply GQ.step; focus (intro Z; refine GO.shluK rfl (x.2 % 64) rfl rfl (by omega) ?_; exact KQ.z)
        ((apply GQ.step; focus (intro Z; refine GO.oru rfl rfl rfl ?_; exact KQ.z)))
        apply GQ.step; focus (intro Z; refine GO.idxA (j := x.1 % 64) rfl rfl rfl ⟨by omega, by omega⟩ ?_; exact KQ.z)
        (refine GQ.nil ?_)
        refine GO.store1 rfl rfl rfl (Tk.t Tk.h) (by rw [cells_len]; omega) ?_
        rw [cells_set _ _ (show 0 + x.1 % 64 * 1 = x.1 % 64 by omega)]
        (refine GO.nil ?_; refine kblock_n ?_; refine kthen_n ?_; refine G.region ?_; refine GO.move rfl rfl ?_; refine GO.addi rfl rfl rfl (by omega) ?_; refine GO.assign rfl rfl ?_; refine GO.nil ?_; refine kthen_n ?_)
        refine ⟨k + 1, by omega, by omega, ?_, ?_⟩
        · (refine SubE.c rfl rfl ?_; refine SubE.c rfl rfl ?_; refine SubE.c rfl rfl ?_; refine SubE.c rfl rfl ?_; refine SubE.c rfl rfl ?_; refine SubE.c rfl rfl ?_; exact SubE.n)
        · rw [hstep]
          ((refine Sb.c Tk.h ?_; refine Sb.c (Tk.t Tk.h) ?_; refine Sb.c (Tk.t Tk.h) ?_; refine Sb.c (Tk.t Tk.h) ?_); (refine Sb.s ?_; exact Sb.r))
  · obtain rfl : k = la.length := by omega
    rw [List.take_length]
    (refine G.exit ?_; refine kthen_x ?_; refine kthen_x ?_; refine kblock_x ?_; refine kthen_n ?_; refine G.seq ?_; refine G.region ?_; refine GO.loadW rfl rfl rfl Tk.h (cells_len _) ?_; refine GO.storeW rfl rfl (Tk.t Tk.h) ⟨cells_len _, cells_len _⟩ (cells_one _) ?_; refine GO.assign rfl rfl ?_; refine GO.nil ?_; refine kthen_n ?_; refine G.ret ?_)
    refine KF2.r2 rfl (RV.cW rfl rfl (by (exact Tk.h)) (cells_len _)) (RV.t rfl) ⟨rfl, rfl⟩ (ImpS.sb ?_)
    ((refine Sb.c (Tk.t (Tk.t (Tk.t Tk.h))) ?_); (refine Sb.s ?_; refine Sb.s ?_; refine Sb.s ?_; exact Sb.r))
theorem rBlockE (z : HP) (ra : Value) (o : OptM) (hra : RefO z ra o) (wo : WfM o) (i j : Int) :
    Fn Tryd.prog 63 #[ra, i64 i, i64 j] [z] (fun r Q => r = .tuple #[blk (blkG o i j), i64 (wbO (sideO o) i j)] ∧ Q = [z]) := by
  have hs : sideO o ≤ 1024 := by
    cases o with
    | none => exact Nat.zero_le _
    | some p => obtain ⟨s, X⟩ := p; exact (wo s X rfl).1.2
  obtain ⟨va, rfl, hone, hsl⟩ := hra
  by_cases h : wbO (sideO o) i j = 0
  · cases o with
    | none => rw [show wbO (sideO none) i j = 1 from wbO_none i j] at h; cases h
    | some p =>
      obtain ⟨s, X⟩ := p
      have hx := (wo s X rfl).2
      have h1 := (wo s X rfl).1.1
      cases hh : hasM s i j with
      | false => rw [show wbO (sideO (some (s, X))) i j = 2 from wbO_f h1 hh] at h; cases h
      | true =>
        obtain ⟨m, n, rfl, rfl, hm, hn⟩ := hasM_at hh
        have e := rBlock_core z s m n va (cellsX X) hone hsl (by have := cast_small X; rw [castL_len] at this; omega) hs h (fun p hp => by
          have := hx _ _ ((cellsX_iff hs hx p).1 hp)
          have h3 : s ≤ 1024 := hs
          omega)
        rw [blkTo_end hs hx] at e
        rw [show blkG (some (s, X)) (m : Nat) (n : Nat) = blkAt X m n from if_pos h, h]
        exact e
  · rw [show blkG o i j = zeroB from if_neg h]
    exact Fn.nilF z (rBlock_err (sideO o) i j va hone hs h)
end Go.Proofs.YtfoahdfflchidaaDoor
namespace Go.Proofs.YtfoahdfflchidaaDoor
open Go
theorem SlC.sup {q q' : HP} {v : Value} {l : List Cl} (hs : Sup q q') (h : SlC q v l) : SlC q' v l :=
  let ⟨a, cap, h3, h4, h5⟩ := h
  ⟨a, cap, h3, h4, fun hp => let ⟨b, o, e, hr⟩ := h5 hp; ⟨b, o, e, fun j u hj => hs _ _ (hr j u hj)⟩⟩
/-- The first K places of a block that are set, as cells. -/
def placL (B : Blk) (m n K : Nat) : List Cl := ((List.range K).filter fun z => (B (z / 64)).getLsbD (z % 64)).map fun z => (((64 * m + z / 64 : Nat) : Int), ((64 * n + z % 64 : Nat) : Int))
theorem placL_yes {B : Blk} {m n K : Nat} (h : (B (K / 64)).getLsbD (K % 64) = true) : placL B m n (K + 1) = placL B m n K ++ [(((64 * m + K / 64 : Nat) : Int), ((64 * n + K % 64 : Nat) : Int))] := by
  unfold placL
  rw [List.range_succ, List.filter_append, List.filter_cons_of_pos (p := fun z => (B (z / 64)).getLsbD (z % 64)) h, List.filter_nil, List.map_append]; rfl
theorem placL_no {B : Blk} {m n K : Nat} (h : (B (K / 64)).getLsbD (K % 64) = false) : placL B m n (K + 1) = placL B m n K := by
  unfold placL
  rw [List.range_succ, List.filter_append, List.filter_cons_of_neg (p := fun z => (B (z / 64)).getLsbD (z % 64)) (by rw [h]; simp), List.filter_nil, List.append_nil]
theorem placL_len (B : Blk) (m n K : Nat) : (placL B m n K).length ≤ K := by
  unfold placL
  rw [List.length_map]
  exact Nat.le_trans (List.length_filter_le _ _) (by rw [List.length_range]; exact Nat.le_refl _)
theorem placL_mem {B : Blk} {m n : Nat} {p : Cl} : p ∈ placL B m n 4096 ↔ ∃ r c, r < 64 ∧ c < 64 ∧ (B r).getLsbD c = true ∧ p = (((64 * m + r : Nat) : Int), ((64 * n + c : Nat) : Int)) := by
  unfold placL
  rw [List.mem_map]
  constructor
  · rintro ⟨z, hz, rfl⟩
    obtain ⟨h1, h2⟩ := List.mem_filter.1 hz
    have := List.mem_range.1 h1
    exact ⟨z / 64, z % 64, by omega, by omega, h2, rfl⟩
  · rintro ⟨r, c, hr, hc, hb, rfl⟩
    refine ⟨64 * r + c, List.mem_filter.2 ⟨List.mem_range.2 (by omega), ?_⟩, ?_⟩
    · rw [show (64 * r + c) / 64 = r by omega, show (64 * r + c) % 64 = c by omega]; exact hb
    · rw [show (64 * r + c) / 64 = r by omega, show (64 * r + c) % 64 = c by omega]
theorem placL_up (B : Blk) (m n K : Nat) : Up (placL B m n K) := by
  unfold Up placL
  rw [List.pairwise_map]
  refine (List.Pairwise.filter _ List.pairwise_lt_range).imp fun {a b} h => ?_
  rw [ltC_iff]
  dsimp only
  omega
theorem place_cells {s m n : Nat} {B : Blk} (hs : s ≤ 1024) (h : FitB s m n B) : placL B m n 4096 = castL (cellsX (orX noX m n B)) := by
  refine up_unique (placL_up _ _ _ _) (cells_up _) fun p => ?_
  rw [placL_mem, cast_mem hs (orX_in (fun r c h => by cases h) h)]
  constructor
  · rintro ⟨r, c, hr, hc, hb, rfl⟩
    refine ⟨by dsimp only; omega, by dsimp only; omega, ?_⟩
    rw [Int.toNat_natCast, Int.toNat_natCast, orX_at _ _ _ _ hr hc, hb, Bool.or_true]
  · rintro ⟨h1, h2, h3⟩
    obtain ⟨a, b⟩ := p
    dsimp only at h1 h2 h3
    unfold orX noX at h3
    simp only [Bool.false_or, Bool.and_eq_true, decide_eq_true_eq] at h3
    refine ⟨a.toNat % 64, b.toNat % 64, by omega, by omega, h3.2.2, ?_⟩
    rw [Prod.mk.injEq]
    omega
theorem uni_or (X : Nat → Nat → Bool) (m n : Nat) (B : Blk) : uniX X (orX noX m n B) = orX X m n B := by
  funext r c
  unfold uniX orX noX
  rw [Bool.false_or]
theorem newP (X : Nat → Nat → Bool) {m n : Nat} (hm : m < 16) (hn : n < 16) (B : Blk) : decide (cntX X < cntX (orX X m n B)) = decide (0 < lenB (lessB B (blkAt X m n)) 64) := by
  rw [cntX_or X hm hn B, decide_eq_decide]
  omega
attribute [local irreducible] G GO GR GT GW Fn FnV pt init exs pur sat own ImpS mat posL allV orL restX cellsX cellsV cntX lessX uniX rowX natsV lines plc swpL colsL blkTo placL orX
set_option maxHeartbeats 4000000 in
theorem rPut_err (s : Nat) (i j : Int) (B : Blk) (va : Value) (ha : va.oneCell' = true) (hs : s ≤ 1024) (h : wbO s i j ≠ 0) : Fn Tryd.prog 58 #[refV s va, i64 i, i64 j, blk B] [] (fun r Q => r = .tuple #[refV s va, .bool false, i64 (wbO s i j)] ∧ Q = []) := by
  have hw := rblock_spec s i j va ha hs
  have d0 : decide (wbO s i j ≠ 0) = true := decide_eq_true h
  generalize wbO s i j = e at hw d0 ⊢
  refine Fn.mk2 Tryd.func58 rfl rfl fun w0 F => ?_
  (refine G.seq ?_; refine G.region ?_; refine GO.box rfl rfl rfl fun b4 => ?_; refine GO.box rfl rfl rfl fun b7 => ?_; refine GO.alloc rfl fun b8 => ?_; refine GO.assign rfl rfl ?_; refine GO.assign rfl rfl ?_; refine GO.nil ?_; refine kthen_n ?_; refine G.seq ?_; refine G.region ?_; refine GO.loadW rfl rfl rfl (Tk.t (Tk.t Tk.h)) rfl ?_; refine GO.move rfl rfl ?_; refine GO.move rfl rfl ?_)
  refine GO.call3 rfl rfl rfl rfl (hw) Tks.n ?_
  rintro _ _ ⟨rfl, rfl⟩
  (refine GO.assign rfl rfl ?_; refine GO.nil ?_; refine kthen_n ?_; refine G.seq ?_; refine G.seq ?_; refine G.region ?_; refine GO.move rfl rfl ?_; refine GO.nei rfl rfl rfl ?_; refine GO.nil ?_; refine kthen_n ?_; refine G.condT rfl (by assumption) ?_; refine G.seq ?_; refine G.region ?_; refine GO.loadW rfl rfl rfl (Tk.t (Tk.t Tk.h)) rfl ?_; refine GO.move rfl rfl ?_; refine GO.storeW rfl rfl Tk.h ⟨rfl, rfl⟩ (by simp [Value.oneCell']; assumption) ?_; refine GO.assign rfl rfl ?_; refine GO.assign rfl rfl ?_; refine GO.nil ?_; refine kthen_n ?_; refine G.ret ?_; refine kthen_r ?_)
  refine KF2.r3 rfl (RV.cW (n := 2) rfl rfl (by (exact Tk.h)) rfl) (RV.t rfl) (RV.t rfl) ⟨rfl, rfl⟩ (ImpS.sb ?_)
  (skip; (refine Sb.s ?_; refine Sb.s ?_; refine Sb.s ?_; exact Sb.r))
theorem inS_nat {s k : Nat} : inS s (k : Nat) = decide (k < s) := by
  unfold inS
  rw [decide_eq_true (by omega), Bool.true_and, decide_eq_decide]
  omega
set_option maxHeartbeats 16000000 in
set_option maxRecDepth 40000 in
theorem rPut_core (z : HP) (s m n : Nat) (B : Blk) (va : Value) (la : List Cl) (hone : va.oneCell' = true) (hsl : SlC z va la) (hl : ¬ 1048576 < la.length) (hs : s ≤ 1024) (h : wbO s (m : Nat) (n : Nat) = 0) (hm : ¬ 16 ≤ m) (hn : ¬ 16 ≤ n) :
    Fn Tryd.prog 58 #[refV s va, i64 (m : Nat), i64 (n : Nat), blk B] [z] (fun r Q => (FitB s m n B ∧ ∃ v p, r = .tuple #[refV s v, .bool (mrgM la (placL B m n 4096)), i64 0] ∧ Q = [own 34 2 (mrg la (placL B m n 4096)).length v (cellsV (mrg la (placL B m n 4096))), star [p, z]]) ∨ (¬ FitB s m n B ∧ r = .tuple #[refV s va, .bool false, i64 2] ∧ Q = [z])) := by
  have hw := rblock_spec s (m : Nat) (n : Nat) va hone hs
  rw [h] at hw
  have hin := fun k : Int => refIn_spec s k va hone
  have hmg := fun (v : Value) (q : HP) (hq : SlC q v (placL B m n 4096)) => merge_spec (star [q, z]) va v la (placL B m n 4096) (hsl.sup (Sup.right _ _)).slR (hq.sup (Sup.left _ _)).slR (by have := placL_len B m n 4096; omega)
  obtain ⟨aa, capa, rfl, _, _⟩ := hsl
  refine Fn.mk2 Tryd.func58 rfl rfl fun w0 F => ?_
  refine G.ownNil (T := 34) (sz := 2) ?_
  (refine G.seq ?_; refine G.region ?_; refine GO.box rfl rfl rfl fun b4 => ?_; refine GO.box rfl rfl rfl fun b7 => ?_; refine GO.alloc rfl fun b8 => ?_; refine GO.assign rfl rfl ?_; refine GO.assign rfl rfl ?_; refine GO.nil ?_; refine kthen_n ?_; refine G.seq ?_; refine G.region ?_; refine GO.loadW rfl rfl rfl (Tk.t (Tk.t Tk.h)) rfl ?_; refine GO.move rfl rfl ?_; refine GO.move rfl rfl ?_)
  refine GO.call3 rfl rfl rfl rfl (hw) Tks.n ?_
  rintro _ _ ⟨rfl, rfl⟩
  (refine GO.assign rfl rfl ?_; refine GO.nil ?_; refine kthen_n ?_; refine G.seq ?_; refine G.seq ?_; refine G.region ?_; refine GO.move rfl rfl ?_; refine GO.neF rfl rfl rfl rfl ?_; refine GO.nil ?_; refine kthen_n ?_; refine G.condF rfl rfl ?_; refine G.skip ?_; refine kthen_n ?_; refine G.seq ?_; refine G.region ?_; refine GO.assign rfl rfl ?_; refine GO.nil ?_; refine kthen_n ?_; refine G.seq ?_; refine G.seq ?_; refine G.region ?_; refine GO.assign rfl rfl ?_; refine GO.nil ?_; refine kthen_n ?_; refine G.block ?_)
  refine G.loop2 (fun (r : Nat) (v : Value) => [(1, i64 (m : Nat)), (2, i64 (n : Nat)), (4, ptrV b4), (7, ptrV b7), (8, ptrV b8), (12, v), (13, i64 (r : Nat))])
    (fun r v => own 34 2 (placL B m n (64 * r)).length v (cellsV (placL B m n (64 * r))) :: pt b4 (row [i64 (s : Nat), .slice aa la.length capa] 52) :: pt b7 (row (cells B) 77) :: pt b8 (row [i64 0, .slice none 0 0] 52) :: z :: F)
    (fun r _ => r ≤ 64 ∧ ∀ k, k < 64 * r → (B (k / 64)).getLsbD (k % 64) = true → 64 * m + k / 64 < s ∧ 64 * n + k % 64 < s) (fun r _ => 64 - r) 0 (.slice none 0 0) ⟨Nat.zero_le _, fun k hk => by omega⟩ ?_ ?_ ?_
  · (refine SubE.c rfl rfl ?_; refine SubE.c rfl rfl ?_; refine SubE.c rfl rfl ?_; refine SubE.c rfl rfl ?_; refine SubE.c rfl rfl ?_; refine SubE.c rfl rfl ?_; refine SubE.c rfl rfl ?_; exact SubE.n)
  · rw [show placL B m n (64 * 0) = [] by unfold placL; rfl, show cellsV [] = [] by unfold cellsV; rfl]
    ((refine Sb.c (Tk.t (Tk.t (Tk.t Tk.h))) ?_; refine Sb.c (Tk.t (Tk.t Tk.h)) ?_; refine Sb.c (Tk.t Tk.h) ?_; refine Sb.c Tk.h ?_; refine Sb.c Tk.h ?_); (exact Sb.r))
  rintro r v ⟨hr, hall⟩
  (refine G.seq ?_; refine G.seq ?_; refine G.region ?_; refine GO.move rfl rfl ?_; refine GO.lti rfl rfl rfl ?_; refine GO.nil ?_; refine kthen_n ?_)
  refine G.condD rfl (fun hlt => ?_) (fun hge => ?_)
  · have hrl : r < 64 := by omega
    (refine G.skip ?_; refine kthen_n ?_; refine G.seq ?_; refine G.block ?_; refine G.seq ?_; refine G.region ?_; refine GO.assign rfl rfl ?_; refine GO.nil ?_; refine kthen_n ?_; refine G.block ?_)
    refine G.loop2 (fun (c : Nat) (v : Value) => [(1, i64 (m : Nat)), (2, i64 (n : Nat)), (4, ptrV b4), (7, ptrV b7), (8, ptrV b8), (12, v), (13, i64 (r : Nat)), (14, i64 (c : Nat))])
      (fun c v => own 34 2 (placL B m n (64 * r + c)).length v (cellsV (placL B m n (64 * r + c))) :: pt b4 (row [i64 (s : Nat), .slice aa la.length capa] 52) :: pt b7 (row (cells B) 77) :: pt b8 (row [i64 0, .slice none 0 0] 52) :: z :: F)
      (fun c _ => c ≤ 64 ∧ ∀ k, k < 64 * r + c → (B (k / 64)).getLsbD (k % 64) = true → 64 * m + k / 64 < s ∧ 64 * n + k % 64 < s) (fun c _ => 64 - c) 0 v ⟨Nat.zero_le _, hall⟩ ?_ ?_ ?_
    · (refine SubE.c rfl rfl ?_; refine SubE.c rfl rfl ?_; refine SubE.c rfl rfl ?_; refine SubE.c rfl rfl ?_; refine SubE.c rfl rfl ?_; refine SubE.c rfl rfl ?_; refine SubE.c rfl rfl ?_; refine SubE.c rfl rfl ?_; exact SubE.n)
    · ((refine Sb.c Tk.h ?_; refine Sb.c Tk.h ?_; refine Sb.c Tk.h ?_; refine Sb.c Tk.h ?_; refine Sb.c Tk.h ?_); (exact Sb.r))
    rintro c v ⟨hc, hall⟩
    (refine G.seq ?_; refine G.seq ?_; refine G.region ?_; refine GO.move rfl rfl ?_; refine GO.lti rfl rfl rfl ?_; refine GO.nil ?_; refine kthen_n ?_)
    refine G.condD rfl (fun hlt => ?_) (fun hge => ?_)
    · have hcl : c < 64 := by omega
      have kd : (64 * r + c) / 64 = r := by omega
      have km : (64 * r + c) % 64 = c := by omega
      have rd : Rd (pt b7 (row (cells B) 77)) ⟨b7, 0 + r * 1, none⟩ (u64 (B r)) := Rd.row (cells_get B hrl (by omega))
      have hlen := placL_len B m n (64 * r + c)
      (refine G.skip ?_; refine kthen_n ?_; refine G.seq ?_; refine G.block ?_; refine G.seq ?_; refine G.region ?_; refine GO.move rfl rfl ?_; refine GO.idxA rfl rfl rfl ⟨rfl, by omega⟩ ?_; refine GO.loadQ rfl rfl rfl (Tk.t (Tk.t Tk.h)) (by assumption) ?_; refine GO.move rfl rfl ?_)
      refine GO.conv rfl rfl (by rw [IntWalk.u64_in]; omega) ?_
      (refine GO.shru rfl rfl rfl ?_)
      refine GO.remu rfl rfl rfl (by decide) ?_
      (refine GO.equ rfl rfl rfl ?_; refine GO.nil ?_; refine kthen_n ?_)
      refine G.condD rfl (fun hb => ?_) (fun hb => ?_)
      · have hbit : (B ((64 * r + c) / 64)).getLsbD ((64 * r + c) % 64) = true := by rw [kd, km, ← has_eq]; exact decide_eq_true hb
        have hyes := placL_yes (m := m) (n := n) hbit
        rw [kd, km] at hyes
        (refine G.seq ?_; refine G.region ?_; refine GO.move rfl rfl ?_; refine GO.muli rfl rfl rfl (by omega) ?_; refine GO.move rfl rfl ?_; refine GO.addi rfl rfl rfl (by omega) ?_; refine GO.move rfl rfl ?_; refine GO.muli rfl rfl rfl (by omega) ?_; refine GO.move rfl rfl ?_; refine GO.addi rfl rfl rfl (by omega) ?_; refine GO.build2 rfl rfl rfl rfl ?_; refine GO.alloc rfl fun b15 => ?_)
        rw [show ∀ a b : Int, (putParts [i64 a, i64 b]).toArray = #[i64 a, i64 b] from fun a b => by simp [putParts, Value.cells]]
        (refine GO.storeW rfl rfl Tk.h ⟨rfl, rfl⟩ (by simp [Value.oneCell']) ?_; refine GO.nil ?_; refine kthen_n ?_; refine G.seq ?_; refine G.seq ?_; refine G.region ?_; refine GO.loadW rfl rfl rfl (Tk.t (Tk.t Tk.h)) rfl ?_; refine GO.fieldAddr rfl rfl ?_; refine GO.load1 rfl rfl rfl Tk.h rfl ?_)
        refine GO.call2 rfl rfl rfl (hin (64 * (m : Int) + (r : Int))) Tks.n ?_
        rintro _ _ ⟨rfl, rfl⟩
        cases h1 : inS s (64 * (m : Int) + (r : Int)) with
        | false =>
          (refine GO.not rfl rfl ?_; refine GO.move rfl rfl ?_; refine GO.gF rfl rfl rfl rfl ?_; refine GO.gF rfl rfl rfl rfl ?_; refine GO.gF rfl rfl rfl rfl ?_; refine GO.gF rfl rfl rfl rfl ?_; refine GO.gF rfl rfl rfl rfl ?_; refine GO.pickT rfl rfl rfl ?_; refine GO.nil ?_; refine kthen_n ?_; refine G.condT rfl rfl ?_; refine G.seq ?_; refine G.region ?_; refine GO.loadW rfl rfl rfl (Tk.t (Tk.t Tk.h)) rfl ?_; refine GO.storeW rfl rfl (Tk.t (Tk.t (Tk.t (Tk.t Tk.h)))) ⟨rfl, rfl⟩ (by simp [Value.oneCell']) ?_; refine GO.assign rfl rfl ?_; refine GO.assign rfl rfl ?_; refine GO.nil ?_; refine kthen_n ?_; refine G.ret ?_; refine kthen_r ?_; refine kblock_r ?_; refine kthen_r ?_; refine kthen_r ?_; refine kblock_r ?_; refine kblock_r ?_; refine kthen_r ?_; refine kthen_r ?_; refine kblock_r ?_; refine kthen_r ?_)
          refine KF2.r3 rfl (RV.cW (n := 2) rfl rfl (by (exact Tk.h)) rfl) (RV.t rfl) (RV.t rfl) (.inr ⟨fun hf => ?_, rfl, rfl⟩) (ImpS.sb ?_)
          · have := hf r c hrl hcl (by rw [kd, km] at hbit; exact hbit)
            rw [show 64 * (m : Int) + (r : Int) = ((64 * m + r : Nat) : Int) by omega, inS_nat, decide_eq_true this.1] at h1
            cases h1
          · ((refine Sb.c (Tk.t (Tk.t (Tk.t (Tk.t (Tk.t Tk.h))))) ?_); (refine Sb.s ?_; refine Sb.s ?_; refine Sb.s ?_; refine Sb.s ?_; refine Sb.s ?_; exact Sb.r))
        | true =>
          (refine GO.not rfl rfl ?_; refine GO.move rfl rfl ?_; refine GO.gT rfl rfl rfl ?_; refine GO.loadW rfl rfl rfl (Tk.t (Tk.t Tk.h)) rfl ?_; refine GO.gT rfl rfl rfl ?_; refine GO.fieldAddr rfl rfl ?_; refine GO.gT rfl rfl rfl ?_; refine GO.load1 rfl rfl rfl Tk.h rfl ?_; refine GO.gT rfl rfl rfl ?_)
          refine GO.call2 rfl rfl rfl (hin (64 * (n : Int) + (c : Int))) Tks.n ?_
          rintro _ _ ⟨rfl, rfl⟩
          cases h2 : inS s (64 * (n : Int) + (c : Int)) with
          | false =>
            (refine GO.gT rfl rfl rfl ?_; refine GO.not rfl rfl ?_; refine GO.pickF rfl rfl rfl ?_; refine GO.nil ?_; refine kthen_n ?_; refine G.condT rfl rfl ?_; refine G.seq ?_; refine G.region ?_; refine GO.loadW rfl rfl rfl (Tk.t (Tk.t Tk.h)) rfl ?_; refine GO.storeW rfl rfl (Tk.t (Tk.t (Tk.t (Tk.t Tk.h)))) ⟨rfl, rfl⟩ (by simp [Value.oneCell']) ?_; refine GO.assign rfl rfl ?_; refine GO.assign rfl rfl ?_; refine GO.nil ?_; refine kthen_n ?_; refine G.ret ?_; refine kthen_r ?_; refine kblock_r ?_; refine kthen_r ?_; refine kthen_r ?_; refine kblock_r ?_; refine kblock_r ?_; refine kthen_r ?_; refine kthen_r ?_; refine kblock_r ?_; refine kthen_r ?_)
            refine KF2.r3 rfl (RV.cW (n := 2) rfl rfl (by (exact Tk.h)) rfl) (RV.t rfl) (RV.t rfl) (.inr ⟨fun hf => ?_, rfl, rfl⟩) (ImpS.sb ?_)
            · have := hf r c hrl hcl (by rw [kd, km] at hbit; exact hbit)
              rw [show 64 * (n : Int) + (c : Int) = ((64 * n + c : Nat) : Int) by omega, inS_nat, decide_eq_true this.2] at h2
              cases h2
            · ((refine Sb.c (Tk.t (Tk.t (Tk.t (Tk.t (Tk.t Tk.h))))) ?_); (refine Sb.s ?_; refine Sb.s ?_; refine Sb.s ?_; refine Sb.s ?_; refine Sb.s ?_; exact Sb.r))
          | true =>
            rw [show 64 * (m : Int) + (r : Int) = ((64 * m + r : Nat) : Int) by omega, inS_nat] at h1
            rw [show 64 * (n : Int) + (c : Int) = ((64 * n + c : Nat) : Int) by omega, inS_nat] at h2
            have g1 := of_decide_eq_true h1
            have g2 := of_decide_eq_true h2
            (refine GO.gT rfl rfl rfl ?_; refine GO.not rfl rfl ?_; refine GO.pickF rfl rfl rfl ?_; refine GO.nil ?_; refine kthen_n ?_; refine G.condF rfl rfl ?_; refine G.skip ?_; refine kthen_n ?_; refine G.region ?_; refine GO.move rfl rfl ?_; refine GO.loadW rfl rfl rfl Tk.h rfl ?_)
            refine GO.buildSlice1 rfl rfl (by simp; rfl) rfl ⟨by omega, by omega⟩ fun bs => ?_
            refine GO.appendOwn (m := 1) (news := [i64 (64 * (m : Int) + (r : Int)), i64 (64 * (n : Int) + (c : Int))]) rfl rfl rfl (Tk.t (Tk.t Tk.h)) Tk.h rfl (by simp [Value.oneCell']) ⟨by decide, rfl⟩ Nat.one_pos (by unfold maxLen; omega) (by omega) fun v4 => ?_
            rw [cellsV_snoc (p := (64 * (m : Int) + (r : Int), 64 * (n : Int) + (c : Int))), show (placL B m n (64 * r + c)).length + 1 = (placL B m n (64 * r + c) ++ [(64 * (m : Int) + (r : Int), 64 * (n : Int) + (c : Int))]).length by rw [List.length_append]; rfl, show placL B m n (64 * r + c) ++ [(64 * (m : Int) + (r : Int), 64 * (n : Int) + (c : Int))] = placL B m n (64 * r + (c + 1)) from by rw [show 64 * r + (c + 1) = 64 * r + c + 1 from rfl, hyes, Int.natCast_add, Int.natCast_add, Int.natCast_mul, Int.natCast_mul]; rfl]
            (refine GO.assign rfl rfl ?_; refine GO.nil ?_; refine kblock_n ?_; refine kthen_n ?_; refine G.region ?_; refine GO.move rfl rfl ?_; refine GO.addi rfl rfl rfl (by omega) ?_; refine GO.assign rfl rfl ?_; refine GO.nil ?_; refine kthen_n ?_)
            refine ⟨c + 1, v4, ⟨by omega, fun k hk hb2 => ?_⟩, by omega, ?_, ?_⟩
            · rcases Nat.lt_or_ge k (64 * r + c) with h3 | h3
              · exact hall k h3 hb2
              · obtain rfl : k = 64 * r + c := by omega
                rw [kd, km]
                exact ⟨g1, g2⟩
            · (refine SubE.c rfl rfl ?_; refine SubE.c rfl rfl ?_; refine SubE.c rfl rfl ?_; refine SubE.c rfl rfl ?_; refine SubE.c rfl rfl ?_; refine SubE.c rfl rfl ?_; refine SubE.c rfl rfl ?_; refine SubE.c rfl rfl ?_; exact SubE.n)
            · ((refine Sb.c Tk.h ?_; refine Sb.c (Tk.t (Tk.t Tk.h)) ?_; refine Sb.c (Tk.t (Tk.t Tk.h)) ?_; refine Sb.c (Tk.t (Tk.t Tk.h)) ?_; refine Sb.c (Tk.t (Tk.t Tk.h)) ?_); (refine Sb.s ?_; refine Sb.s ?_; exact Sb.r))
      · have hbit : (B ((64 * r + c) / 64)).getLsbD ((64 * r + c) % 64) = false := by rw [kd, km, ← has_eq]; exact decide_eq_false hb
        have hno := placL_no (m := m) (n := n) hbit
        (refine G.skip ?_; refine kblock_n ?_; refine kthen_n ?_; refine G.region ?_; refine GO.move rfl rfl ?_; refine GO.addi rfl rfl rfl (by omega) ?_; refine GO.assign rfl rfl ?_; refine GO.nil ?_; refine kthen_n ?_)
        refine ⟨c + 1, v, ⟨by omega, fun k hk hb2 => ?_⟩, by omega, ?_, ?_⟩
        · rcases Nat.lt_or_ge k (64 * r + c) with h3 | h3
          · exact hall k h3 hb2
          · obtain rfl : k = 64 * r + c := by omega
            rw [hbit] at hb2
            cases hb2
        · (refine SubE.c rfl rfl ?_; refine SubE.c rfl rfl ?_; refine SubE.c rfl rfl ?_; refine SubE.c rfl rfl ?_; refine SubE.c rfl rfl ?_; refine SubE.c rfl rfl ?_; refine SubE.c rfl rfl ?_; refine SubE.c rfl rfl ?_; exact SubE.n)
        · rw [show 64 * r + (c + 1) = 64 * r + c + 1 from rfl, hno]
          ((refine Sb.c Tk.h ?_; refine Sb.c Tk.h ?_; refine Sb.c Tk.h ?_; refine Sb.c Tk.h ?_; refine Sb.c Tk.h ?_); (exact Sb.r))
    · obtain rfl : c = 64 := by omega
      (refine G.exit ?_; refine kthen_x ?_; refine kthen_x ?_; refine kblock_x ?_; refine kblock_n ?_; refine kthen_n ?_; refine G.region ?_; refine GO.move rfl rfl ?_; refine GO.addi rfl rfl rfl (by omega) ?_; refine GO.assign rfl rfl ?_; refine GO.nil ?_; refine kthen_n ?_)
      refine ⟨r + 1, v, ⟨by omega, fun k hk => hall k (by omega)⟩, by omega, ?_, ?_⟩
      · (refine SubE.c rfl rfl ?_; refine SubE.c rfl rfl ?_; refine SubE.c rfl rfl ?_; refine SubE.c rfl rfl ?_; refine SubE.c rfl rfl ?_; refine SubE.c rfl rfl ?_; refine SubE.c rfl rfl ?_; exact SubE.n)
      · rw [show 64 * (r + 1) = 64 * r + 64 by omega]
        ((refine Sb.c Tk.h ?_; refine Sb.c Tk.h ?_; refine Sb.c Tk.h ?_; refine Sb.c Tk.h ?_; refine Sb.c Tk.h ?_); (exact Sb.r))
  · obtain rfl : r = 64 := by omega
    have hfit : FitB s m n B := fun r c hr hc hb => by
      have := hall (64 * r + c) (by omega) (by rw [show (64 * r + c) / 64 = r by omega, show (64 * r + c) % 64 = c by omega]; exact hb)
      omega
    rw [show 64 * 64 = 4096 from rfl]
    (refine G.exit ?_; refine kthen_x ?_; refine kthen_x ?_; refine kblock_x ?_; refine kthen_n ?_; refine G.seq ?_; refine G.region ?_; refine GO.fieldAddr rfl rfl ?_; refine GO.load1 rfl rfl rfl (Tk.t Tk.h) rfl ?_; refine GO.move rfl rfl ?_)
    refine GO.ownSlC (l := placL B m n 4096) Tk.h fun hq => ?_
    refine GO.merge (x := own 34 2 (placL B m n 4096).length v (cellsV (placL B m n 4096))) (y := z) (Tks.c Tk.h (Tks.c (Tk.t (Tk.t (Tk.t Tk.h))) Tks.n)) ?_
    refine GO.call2 rfl rfl rfl (hmg v _ hq) (Tks.c Tk.h Tks.n) ?_
    rintro _ _ ⟨v2, rfl, rfl⟩
    refine GO.ownV Tk.h fun a9 cap9 hv9 => ?_
    subst hv9
    (refine GO.move rfl rfl ?_; refine GO.extract rfl rfl rfl ?_; refine GO.extract rfl rfl rfl ?_; refine GO.assign rfl rfl ?_; refine GO.assign rfl rfl ?_; refine GO.nil ?_; refine kthen_n ?_; refine G.seq ?_; refine G.region ?_; refine GO.fieldAddr rfl rfl ?_; refine GO.load1 rfl rfl rfl (Tk.t (Tk.t Tk.h)) rfl ?_; refine GO.move rfl rfl ?_; refine GO.build2 rfl rfl rfl rfl ?_; refine GO.move rfl rfl ?_)
    rw [show ∀ k : Nat, (putParts [i64 (s : Nat), Value.slice a9 k cap9]).toArray = #[i64 (s : Nat), Value.slice a9 k cap9] from fun k => by simp [putParts, Value.cells]]
    (refine GO.storeW rfl rfl (Tk.t (Tk.t (Tk.t (Tk.t Tk.h)))) ⟨rfl, rfl⟩ (by simp [Value.oneCell']) ?_; refine GO.assign rfl rfl ?_; refine GO.assign rfl rfl ?_; refine GO.nil ?_; refine kthen_n ?_; refine G.ret ?_)
    refine KF2.r3 rfl (RV.cW (n := 2) rfl rfl (by (exact Tk.h)) rfl) (RV.t rfl) (RV.t rfl) (.inl ⟨hfit, _, own 34 2 (placL B m n 4096).length v (cellsV (placL B m n 4096)), rfl, rfl⟩) (ImpS.sb ?_)
    ((refine Sb.c (Tk.t Tk.h) ?_; refine Sb.c (Tk.t Tk.h) ?_); (refine Sb.s ?_; refine Sb.s ?_; refine Sb.s ?_; exact Sb.r))
theorem rPutE (z : HP) (ra : Value) (o : OptM) (hra : RefO z ra o) (wo : WfM o) (i j : Int) (B : Blk) :
    Fn Tryd.prog 58 #[ra, i64 i, i64 j, blk B] [z] (fun r Q => ∃ v z', r = .tuple #[refV (sideO o) v, .bool (putG o i j B), i64 (wpO (sideO o) i j B)] ∧ v.oneCell' = true ∧ RefO z' (refV (sideO o) v) (putO o i j B) ∧ Sup z z' ∧ Q = [z']) := by
  have hs : sideO o ≤ 1024 := by
    cases o with
    | none => exact Nat.zero_le _
    | some p => obtain ⟨s, X⟩ := p; exact (wo s X rfl).1.2
  have hra0 := hra
  obtain ⟨va, rfl, hone, hsl⟩ := hra
  by_cases h : wbO (sideO o) i j = 0
  · cases o with
    | none => rw [show wbO (sideO none) i j = 1 from wbO_none i j] at h; cases h
    | some p =>
      obtain ⟨s, X⟩ := p
      have hx := (wo s X rfl).2
      have h1 := (wo s X rfl).1.1
      cases hh : hasM s i j with
      | false => rw [show wbO (sideO (some (s, X))) i j = 2 from wbO_f h1 hh] at h; cases h
      | true =>
        obtain ⟨m, n, rfl, rfl, hm, hn⟩ := hasM_at hh
        have h3 : s ≤ 1024 := hs
        have e := rPut_core z s m n B va (castL (cellsX X)) hone hsl (by have := cast_small X; omega) hs h (by omega) (by omega)
        unfold Fn at *
        intro F w hw
        refine (e F w hw).mono ?_
        rintro e w' ⟨v, Q, e1, e2, ⟨hf, u, p, rfl, rfl⟩ | ⟨hf, rfl, rfl⟩, d⟩
        · have e0 : wpO (sideO (some (s, X))) (m : Nat) (n : Nat) B = 0 := wpO_t h1 hm hn hf
          have hin : ∀ r c, orX noX m n B r c = true → r < s ∧ c < s := orX_in (fun r c h => by cases h) hf
          rw [place_cells hs hf, mrg_uni hs hx hin, mrgM_uni hs hx hin, uni_or] at *
          have d1 := own_one d
          have d2 := own_slC d
          refine ⟨_, _, e1, e2, ⟨u, star [_, star [p, z]], ?_, d1, ?_, (Sup.right p z).trans (Sup.right _ _), rfl⟩, sat_flat.2 d⟩
          · unfold putG
            rw [e0, decide_eq_true rfl, Bool.true_and, Int.toNat_natCast, Int.toNat_natCast, newP X (by omega) (by omega) B]; rfl
          · unfold putO
            rw [if_pos e0]
            exact (RefO.own d1 d2).left
        · have e0 : wpO (sideO (some (s, X))) (m : Nat) (n : Nat) B = 2 := wpO_f h1 fun m' n' q1 q2 _ _ hf2 => by
            obtain rfl : m = m' := by omega
            obtain rfl : n = n' := by omega
            exact hf hf2
          have h0 : wpO (sideO (some (s, X))) (m : Nat) (n : Nat) B ≠ 0 := by rw [e0]; decide
          refine ⟨_, _, e1, e2, ⟨va, z, ?_, hone, ?_, Sup.refl z, rfl⟩, d⟩
          · rw [putG_no h0, e0]; rfl
          · rw [putO_no h0]; exact hra0
  · have e0 : wpO (sideO o) i j B = wbO (sideO o) i j := if_neg h
    have h0 : wpO (sideO o) i j B ≠ 0 := by rw [e0]; exact h
    rw [putO_no h0, putG_no h0, e0]
    exact (Fn.nilF z (rPut_err (sideO o) i j B va hone hs h)).mono fun r Q hq => ⟨va, z, hq.1, hone, hra0, Sup.refl z, hq.2⟩
end Go.Proofs.YtfoahdfflchidaaDoor
namespace Go.Proofs.YtfoahdfflchidaaDoor
open Go
/-- The first K blocks that have a cell. -/
def pos2 (X : Nat → Nat → Bool) (K : Nat) : List Nat := (List.range K).filter fun z => hasB X (z / 16) (z % 16)
theorem pos2_yes {X : Nat → Nat → Bool} {K : Nat} (h : hasB X (K / 16) (K % 16) = true) : pos2 X (K + 1) = pos2 X K ++ [K] := by
  unfold pos2
  rw [List.range_succ, List.filter_append, List.filter_cons_of_pos (p := fun z => hasB X (z / 16) (z % 16)) h, List.filter_nil]
theorem pos2_no {X : Nat → Nat → Bool} {K : Nat} (h : hasB X (K / 16) (K % 16) = false) : pos2 X (K + 1) = pos2 X K := by
  unfold pos2
  rw [List.range_succ, List.filter_append, List.filter_cons_of_neg (p := fun z => hasB X (z / 16) (z % 16)) (by rw [h]; simp), List.filter_nil, List.append_nil]
theorem pos2_len (X : Nat → Nat → Bool) (K : Nat) : (pos2 X K).length ≤ K := by
  unfold pos2
  exact Nat.le_trans (List.length_filter_le _ _) (by rw [List.length_range]; exact Nat.le_refl _)
theorem pos2_skip {X : Nat → Nat → Bool} {K : Nat} : ∀ d, (∀ z, K ≤ z → z < K + d → hasB X (z / 16) (z % 16) = false) → pos2 X (K + d) = pos2 X K
  | 0, _ => rfl
  | d + 1, h => by rw [← Nat.add_assoc, pos2_no (h _ (by omega) (by omega)), pos2_skip d fun z h1 h2 => h z h1 (by omega)]
theorem pos2_to {X : Nat → Nat → Bool} {K K' : Nat} (hk : K ≤ K') (h : ∀ z, K ≤ z → z < K' → hasB X (z / 16) (z % 16) = false) : pos2 X K' = pos2 X K := by
  obtain ⟨d, rfl⟩ := Nat.exists_eq_add_of_le hk
  exact pos2_skip d h
theorem pos2_all (X : Nat → Nat → Bool) : pos2 X 256 = posL X := by unfold pos2 posL; rfl
theorem hasB_out {s : Nat} {X : Nat → Nat → Bool} (hx : ∀ r c, X r c = true → r < s ∧ c < s) {i j : Nat} (h : s ≤ 64 * i ∨ s ≤ 64 * j) : hasB X i j = false := by
  cases hb : hasB X i j with
  | false => rfl
  | true =>
    obtain ⟨r, c, _, _, h1⟩ := hasB_iff.1 hb
    have := hx _ _ h1
    omega
theorem hasB_eq (X : Nat → Nat → Bool) (i j : Nat) : hasB X i j = !eqBlk (blkAt X i j) zeroB := by
  cases h : eqBlk (blkAt X i j) zeroB with
  | true =>
    cases hb : hasB X i j with
    | false => rfl
    | true =>
      obtain ⟨r, c, hr, hc, h1⟩ := hasB_iff.1 hb
      have := eqBlk_e h r hr
      rw [← blkAt_bit X i j r c hc, this] at h1
      simp [zeroB] at h1
  | false =>
    obtain ⟨r, c, hr, hc, h1⟩ := eqBlk_f h
    rw [hasB_iff.2 ⟨r, c, hr, hc, by
      rw [blkAt_bit _ _ _ _ _ hc] at h1
      cases h2 : X (64 * i + r) (64 * j + c) with
      | true => rfl
      | false => rw [h2] at h1; simp [zeroB] at h1⟩]
    rfl
theorem allV_snoc (X : Nat → Nat → Bool) (l : List Nat) (z : Nat) : allV X (l ++ [z]) = allV X l ++ plV X z := by
  unfold allV
  rw [List.flatMap_append]
  simp [qV]
attribute [local irreducible] G GO GR GT GW Fn FnV pt init exs pur sat own ImpS mat posL allV orL restX cellsX cellsV cntX lessX uniX rowX natsV lines plc swpL colsL blkTo placL orX pos2 hasB
set_option maxHeartbeats 16000000 in
theorem rBlocks_core (z : HP) (s : Nat) (X : Nat → Nat → Bool) (va : Value) (hone : va.oneCell' = true) (hs : s ≤ 1024) (hx : ∀ r c, X r c = true → r < s ∧ c < s)
    (hbl : ∀ i j : Nat, 64 * i < s → 64 * j < s → Fn Tryd.prog 63 #[refV s va, i64 (i : Nat), i64 (j : Nat)] [z] (fun r Q => r = .tuple #[blk (blkAt X i j), i64 0] ∧ Q = [z])) :
    Fn Tryd.prog 83 #[refV s va] [z] (fun r Q => Q = [own 134 66 (posL X).length r (allV X (posL X)), z]) := by
  refine Fn.mk2 Tryd.func83 rfl rfl fun w0 F => ?_
  refine G.ownNil (T := 134) (sz := 66) ?_
  (refine G.seq ?_; refine G.region ?_; refine GO.box rfl rfl rfl fun b1 => ?_; refine GO.assign rfl rfl ?_; refine GO.nil ?_; refine kthen_n ?_; refine G.seq ?_; refine G.region ?_; refine GO.assign rfl rfl ?_; refine GO.nil ?_; refine kthen_n ?_; refine G.seq ?_; refine G.seq ?_; refine G.region ?_; refine GO.assign rfl rfl ?_; refine GO.nil ?_; refine kthen_n ?_; refine G.block ?_)
  refine G.loop2 (fun (i : Nat) (v : Value) => [(1, ptrV b1), (3, v), (4, i64 (i : Nat))])
    (fun i v => own 134 66 (pos2 X (16 * i)).length v (allV X (pos2 X (16 * i))) :: pt b1 (row [i64 (s : Nat), va] 52) :: z :: F)
    (fun i _ => ¬ 16 < i) (fun i _ => 16 - i) 0 (.slice none 0 0) (by omega) ?_ ?_ ?_
  · (refine SubE.c rfl rfl ?_; refine SubE.c rfl rfl ?_; refine SubE.c rfl rfl ?_; exact SubE.n)
  · rw [show pos2 X (16 * 0) = [] by unfold pos2; rfl, show allV X [] = [] by unfold allV; rfl]
    ((refine Sb.c (Tk.t Tk.h) ?_; refine Sb.c Tk.h ?_; refine Sb.c Tk.h ?_); (exact Sb.r))
  rintro i v hi
  (refine G.seq ?_; refine G.seq ?_; refine G.region ?_; refine GO.move rfl rfl ?_; refine GO.muli rfl rfl rfl (by omega) ?_; refine GO.fieldAddr rfl rfl ?_; refine GO.load1 rfl rfl rfl (Tk.t Tk.h) rfl ?_; refine GO.lti rfl rfl rfl ?_; refine GO.nil ?_; refine kthen_n ?_)
  refine G.condD rfl (fun hlt => ?_) (fun hge => ?_)
  · have hil : 64 * i < s := by omega
    (refine G.skip ?_; refine kthen_n ?_; refine G.seq ?_; refine G.block ?_; refine G.seq ?_; refine G.region ?_; refine GO.assign rfl rfl ?_; refine GO.nil ?_; refine kthen_n ?_; refine G.block ?_)
    refine G.loop2 (fun (j : Nat) (v : Value) => [(1, ptrV b1), (3, v), (4, i64 (i : Nat)), (5, i64 (j : Nat))])
      (fun j v => own 134 66 (pos2 X (16 * i + j)).length v (allV X (pos2 X (16 * i + j))) :: pt b1 (row [i64 (s : Nat), va] 52) :: z :: F)
      (fun j _ => ¬ 16 < j) (fun j _ => 16 - j) 0 v (by omega) ?_ ?_ ?_
    · (refine SubE.c rfl rfl ?_; refine SubE.c rfl rfl ?_; refine SubE.c rfl rfl ?_; refine SubE.c rfl rfl ?_; exact SubE.n)
    · ((refine Sb.c Tk.h ?_; refine Sb.c Tk.h ?_; refine Sb.c Tk.h ?_); (exact Sb.r))
    rintro j v hj
    (refine G.seq ?_; refine G.seq ?_; refine G.region ?_; refine GO.move rfl rfl ?_; refine GO.muli rfl rfl rfl (by omega) ?_; refine GO.fieldAddr rfl rfl ?_; refine GO.load1 rfl rfl rfl (Tk.t Tk.h) rfl ?_; refine GO.lti rfl rfl rfl ?_; refine GO.nil ?_; refine kthen_n ?_)
    refine G.condD rfl (fun hlt2 => ?_) (fun hge2 => ?_)
    · have hjl : 64 * j < s := by omega
      have kd : (16 * i + j) / 16 = i := by omega
      have km : (16 * i + j) % 16 = j := by omega
      have hlen := pos2_len X (16 * i + j)
      have hbij := hbl i j hil hjl
      have heq := hasB_eq X i j
      generalize hBB : blkAt X i j = BB at hbij heq
      (refine G.skip ?_; refine kthen_n ?_; refine G.seq ?_; refine G.block ?_; refine G.seq ?_; refine G.region ?_; refine GO.loadW rfl rfl rfl (Tk.t Tk.h) rfl ?_; refine GO.move rfl rfl ?_; refine GO.move rfl rfl ?_)
      refine GO.call3 rfl rfl rfl rfl (hbij) (Tks.c (Tk.t (Tk.t Tk.h)) Tks.n) ?_
      rintro _ _ ⟨rfl, rfl⟩
      (refine GO.move rfl rfl ?_; refine GO.extract rfl rfl rfl ?_; refine GO.extract rfl rfl rfl ?_; refine GO.alloc rfl fun b6 => ?_)
      rw [cells_zero]
      refine GO.storeW rfl rfl Tk.h ⟨cells_len _, cells_len _⟩ (cells_one _) ?_
      (refine GO.assign rfl rfl ?_; refine GO.nil ?_; refine kthen_n ?_; refine G.seq ?_; refine G.region ?_; refine GO.loadW rfl rfl rfl Tk.h (cells_len _) ?_; refine GO.build0 rfl ?_)
      rw [cells_zero]
      refine GO.neqA (EqR.blk (d := 9998)) rfl rfl rfl ?_
      cases h1 : eqBlk BB zeroB with
      | true =>
        have hno : pos2 X (16 * i + j + 1) = pos2 X (16 * i + j) := pos2_no (by rw [kd, km, heq, h1]; rfl)
        (refine GO.nil ?_; refine kthen_n ?_; refine G.condF rfl rfl ?_; refine G.skip ?_; refine kblock_n ?_; refine kthen_n ?_; refine G.region ?_; refine GO.move rfl rfl ?_; refine GO.addi rfl rfl rfl (by omega) ?_; refine GO.assign rfl rfl ?_; refine GO.nil ?_; refine kthen_n ?_)
        refine ⟨j + 1, v, by omega, by omega, ?_, ?_⟩
        · (refine SubE.c rfl rfl ?_; refine SubE.c rfl rfl ?_; refine SubE.c rfl rfl ?_; refine SubE.c rfl rfl ?_; exact SubE.n)
        · rw [show 16 * i + (j + 1) = 16 * i + j + 1 from rfl, hno]
          ((refine Sb.c (Tk.t (Tk.t Tk.h)) ?_; refine Sb.c (Tk.t (Tk.t Tk.h)) ?_; refine Sb.c (Tk.t Tk.h) ?_); (refine Sb.s ?_; exact Sb.r))
      | false =>
        have hyes : pos2 X (16 * i + j + 1) = pos2 X (16 * i + j) ++ [16 * i + j] := pos2_yes (by rw [kd, km, heq, h1]; rfl)
        have hval : plV X (16 * i + j) = qV (i : Nat) (j : Nat) BB := by
          unfold plV
          rw [kd, km, hBB]
        (refine GO.nil ?_; refine kthen_n ?_; refine G.condT rfl rfl ?_; refine G.region ?_; refine GO.move rfl rfl ?_; refine GO.move rfl rfl ?_; refine GO.move rfl rfl ?_; refine GO.build2 rfl rfl rfl rfl ?_; refine GO.loadW rfl rfl rfl Tk.h (cells_len _) ?_)
        refine GO.build2 rfl rfl rfl (by simp [blk, Value.cells, cells_len, putParts]) ?_
        rw [show (putParts [Value.agg (putParts [i64 (i : Nat), i64 (j : Nat)]).toArray, Value.agg (cells BB).toArray]).toArray = (qV (i : Nat) (j : Nat) BB).toArray by simp [putParts, qV, blk, Value.cells]]
        refine GO.buildSlice1 (n := 66) rfl rfl (fun u hu => by rw [List.mem_singleton.1 hu]; simp [Value.cells, qV_len]) rfl ⟨by omega, by omega⟩ fun b40 => ?_
        rw [show putParts [Value.agg (qV (i : Nat) (j : Nat) BB).toArray] = qV (i : Nat) (j : Nat) BB by simp [putParts, Value.cells]]
        generalize hy : qV (i : Nat) (j : Nat) BB = y
        have hyl : y.length = 1 * 66 := by rw [← hy, qV_len]
        have hyo : ∀ u ∈ y, u.oneCell' = true := by rw [← hy]; exact qV_one _ _ _
        rw [hy] at hval
        refine GO.appendOwn (m := 1) (news := y) rfl rfl rfl (Tk.t (Tk.t (Tk.t Tk.h))) Tk.h hyl hyo ⟨by decide, rfl⟩ Nat.one_pos (by unfold maxLen; omega) (by omega) fun v2 => ?_
        rw [← hval, ← allV_snoc, ← hyes, show (pos2 X (16 * i + j)).length + 1 = (pos2 X (16 * i + j + 1)).length by rw [hyes, List.length_append]; rfl]
        (refine GO.assign rfl rfl ?_; refine GO.nil ?_; refine kblock_n ?_; refine kthen_n ?_; refine G.region ?_; refine GO.move rfl rfl ?_; refine GO.addi rfl rfl rfl (by omega) ?_; refine GO.assign rfl rfl ?_; refine GO.nil ?_; refine kthen_n ?_)
        refine ⟨j + 1, v2, by omega, by omega, ?_, ?_⟩
        · (refine SubE.c rfl rfl ?_; refine SubE.c rfl rfl ?_; refine SubE.c rfl rfl ?_; refine SubE.c rfl rfl ?_; exact SubE.n)
        · rw [show 16 * i + (j + 1) = 16 * i + j + 1 from rfl]
          ((refine Sb.c Tk.h ?_; refine Sb.c (Tk.t (Tk.t (Tk.t Tk.h))) ?_; refine Sb.c (Tk.t (Tk.t Tk.h)) ?_); (refine Sb.s ?_; refine Sb.s ?_; exact Sb.r))
    · have hskip : pos2 X (16 * (i + 1)) = pos2 X (16 * i + j) := pos2_to (by omega) fun y h1 h2 => hasB_out hx (by omega)
      (refine G.exit ?_; refine kthen_x ?_; refine kthen_x ?_; refine kblock_x ?_; refine kblock_n ?_; refine kthen_n ?_; refine G.region ?_; refine GO.move rfl rfl ?_; refine GO.addi rfl rfl rfl (by omega) ?_; refine GO.assign rfl rfl ?_; refine GO.nil ?_; refine kthen_n ?_)
      refine ⟨i + 1, v, by omega, by omega, ?_, ?_⟩
      · (refine SubE.c rfl rfl ?_; refine SubE.c rfl rfl ?_; refine SubE.c rfl rfl ?_; exact SubE.n)
      · rw [hskip]
        ((refine Sb.c Tk.h ?_; refine Sb.c Tk.h ?_; refine Sb.c Tk.h ?_); (exact Sb.r))
  · have hskip : pos2 X 256 = pos2 X (16 * i) := pos2_to (by omega) fun y h1 h2 => hasB_out hx (by omega)
    rw [← hskip, pos2_all]
    (refine G.exit ?_; refine kthen_x ?_; refine kthen_x ?_; refine kblock_x ?_; refine kthen_n ?_; refine G.seq ?_; refine G.region ?_; refine GO.move rfl rfl ?_; refine GO.assign rfl rfl ?_; refine GO.nil ?_; refine kthen_n ?_; refine G.ret ?_)
    refine KF2.r1 rfl (RV.t rfl) rfl (ImpS.sb ?_)
    ((refine Sb.c Tk.h ?_; refine Sb.c (Tk.t Tk.h) ?_); (refine Sb.s ?_; exact Sb.r))
theorem rBlocksE (z : HP) (ra : Value) (o : OptM) (hra : RefO z ra o) (wo : WfM o) :
    Fn Tryd.prog 83 #[ra] [z] (fun r Q => Q = [own 134 66 (posL (setO o)).length r (allV (setO o) (posL (setO o))), z]) := by
  have hra0 := hra
  obtain ⟨va, rfl, hone⟩ := hra.slR
  cases o with
  | none => exact rBlocks_core z 0 noX va hone (Nat.zero_le _) (fun r c h => by cases h) (fun i j h => by omega)
  | some p =>
    obtain ⟨s, X⟩ := p
    have hs := wo s X rfl
    refine rBlocks_core z s X va hone hs.1.2 hs.2 fun i j hi hj => ?_
    have e := rBlockE z _ _ hra0 wo (i : Nat) (j : Nat)
    have e0 : wbO (sideO (some (s, X))) (i : Nat) (j : Nat) = 0 := wbO_t hs.1.1 (hasM_nat hi hj)
    rw [show blkG (some (s, X)) (i : Nat) (j : Nat) = blkAt X i j from if_pos e0, e0] at e
    exact e
set_option maxHeartbeats 4000000 in
theorem rSame_core (z : HP) (s t : Nat) (va vb : Value) (la lb : List Cl) (honea : va.oneCell' = true) (honeb : vb.oneCell' = true) (ha : SlC z va la) (hb : SlC z vb lb) (hn : ¬ 1048576 < la.length) (hn2 : ¬ 1048576 < lb.length) :
    Fn Tryd.prog 27 #[refV s va, refV t vb] [z] (fun r Q => ∃ bb, r = .bool bb ∧ (bb = true ↔ s = t ∧ la = lb) ∧ Q = [z]) := by
  obtain ⟨aa, capa, rfl, _, hra⟩ := ha
  obtain ⟨ab, capb, rfl, _, hrb⟩ := hb
  refine Fn.mk2 Tryd.func27 rfl rfl fun w0 F => ?_
  cases h1 : decide (((s : Nat) : Int) ≠ ((t : Nat) : Int)) with
  | true =>
    have g1 := of_decide_eq_true h1
    (refine G.seq ?_; refine G.region ?_; refine GO.box rfl rfl rfl fun b2 => ?_; refine GO.box rfl rfl rfl fun b3 => ?_; refine GO.assign rfl rfl ?_; refine GO.nil ?_; refine kthen_n ?_; refine G.seq ?_; refine G.seq ?_; refine G.region ?_; refine GO.fieldAddr rfl rfl ?_; refine GO.load1 rfl rfl rfl (Tk.t Tk.h) rfl ?_; refine GO.fieldAddr rfl rfl ?_; refine GO.load1 rfl rfl rfl Tk.h rfl ?_; refine GO.nei rfl rfl rfl ?_; refine GO.move rfl rfl ?_; refine GO.gF rfl rfl rfl (by assumption) ?_; refine GO.gF rfl rfl rfl (by assumption) ?_; refine GO.gF rfl rfl rfl (by assumption) ?_; refine GO.gF rfl rfl rfl (by assumption) ?_; refine GO.gF rfl rfl rfl (by assumption) ?_; refine GO.gF rfl rfl rfl (by assumption) ?_; refine GO.gF rfl rfl rfl (by assumption) ?_; refine GO.pickTa rfl rfl (by assumption) rfl ?_; refine GO.nil ?_; refine kthen_n ?_; refine G.condT rfl rfl ?_; refine G.seq ?_; refine G.region ?_; refine GO.assign rfl rfl ?_; refine GO.nil ?_; refine kthen_n ?_; refine G.ret ?_; refine kthen_r ?_)
    refine KF2.r1 rfl (RV.t rfl) ⟨false, rfl, ⟨fun h => (by cases h), fun h => absurd h.1 (by omega)⟩, rfl⟩ (ImpS.sb ?_)
    ((refine Sb.c (Tk.t (Tk.t Tk.h)) ?_); (refine Sb.s ?_; refine Sb.s ?_; exact Sb.r))
  | false =>
    have g1 : s = t := by have := of_decide_eq_false h1; omega
    cases h2 : decide ((la.length : Int) ≠ (lb.length : Int)) with
    | true =>
      have g2 := of_decide_eq_true h2
      (refine G.seq ?_; refine G.region ?_; refine GO.box rfl rfl rfl fun b2 => ?_; refine GO.box rfl rfl rfl fun b3 => ?_; refine GO.assign rfl rfl ?_; refine GO.nil ?_; refine kthen_n ?_; refine G.seq ?_; refine G.seq ?_; refine G.region ?_; refine GO.fieldAddr rfl rfl ?_; refine GO.load1 rfl rfl rfl (Tk.t Tk.h) rfl ?_; refine GO.fieldAddr rfl rfl ?_; refine GO.load1 rfl rfl rfl Tk.h rfl ?_; refine GO.nei rfl rfl rfl ?_; refine GO.move rfl rfl ?_; refine GO.gT rfl rfl (by assumption) ?_; refine GO.fieldAddr rfl rfl ?_; refine GO.gT rfl rfl (by assumption) ?_; refine GO.load1 rfl rfl rfl (Tk.t Tk.h) rfl ?_; refine GO.gT rfl rfl (by assumption) ?_; refine GO.lenS rfl rfl ?_; refine GO.gT rfl rfl (by assumption) ?_; refine GO.fieldAddr rfl rfl ?_; refine GO.gT rfl rfl (by assumption) ?_; refine GO.load1 rfl rfl rfl Tk.h rfl ?_; refine GO.gT rfl rfl (by assumption) ?_; refine GO.lenS rfl rfl ?_; refine GO.gT rfl rfl (by assumption) ?_; refine GO.nei rfl rfl rfl ?_; refine GO.pickFa rfl rfl (by assumption) rfl ?_; refine GO.nil ?_; refine kthen_n ?_; refine G.condT rfl (by assumption) ?_; refine G.seq ?_; refine G.region ?_; refine GO.assign rfl rfl ?_; refine GO.nil ?_; refine kthen_n ?_; refine G.ret ?_; refine kthen_r ?_)
      refine KF2.r1 rfl (RV.t rfl) ⟨false, rfl, ⟨fun h => (by cases h), fun h => absurd (congrArg List.length h.2) (by omega)⟩, rfl⟩ (ImpS.sb ?_)
      ((refine Sb.c (Tk.t (Tk.t Tk.h)) ?_); (refine Sb.s ?_; refine Sb.s ?_; exact Sb.r))
    | false =>
      have g2 : la.length = lb.length := by have := of_decide_eq_false h2; omega
      (refine G.seq ?_; refine G.region ?_; refine GO.box rfl rfl rfl fun b2 => ?_; refine GO.box rfl rfl rfl fun b3 => ?_; refine GO.assign rfl rfl ?_; refine GO.nil ?_; refine kthen_n ?_; refine G.seq ?_; refine G.seq ?_; refine G.region ?_; refine GO.fieldAddr rfl rfl ?_; refine GO.load1 rfl rfl rfl (Tk.t Tk.h) rfl ?_; refine GO.fieldAddr rfl rfl ?_; refine GO.load1 rfl rfl rfl Tk.h rfl ?_; refine GO.nei rfl rfl rfl ?_; refine GO.move rfl rfl ?_; refine GO.gT rfl rfl (by assumption) ?_; refine GO.fieldAddr rfl rfl ?_; refine GO.gT rfl rfl (by assumption) ?_; refine GO.load1 rfl rfl rfl (Tk.t Tk.h) rfl ?_; refine GO.gT rfl rfl (by assumption) ?_; refine GO.lenS rfl rfl ?_; refine GO.gT rfl rfl (by assumption) ?_; refine GO.fieldAddr rfl rfl ?_; refine GO.gT rfl rfl (by assumption) ?_; refine GO.load1 rfl rfl rfl Tk.h rfl ?_; refine GO.gT rfl rfl (by assumption) ?_; refine GO.lenS rfl rfl ?_; refine GO.gT rfl rfl (by assumption) ?_; refine GO.nei rfl rfl rfl ?_; refine GO.pickFa rfl rfl (by assumption) rfl ?_; refine GO.nil ?_; refine kthen_n ?_; refine G.condF rfl (by assumption) ?_; refine G.skip ?_; refine kthen_n ?_; refine G.seq ?_; refine G.seq ?_; refine G.region ?_; refine GO.assign rfl rfl ?_; refine GO.nil ?_; refine kthen_n ?_; refine G.block ?_)
      refine G.loop (fun (k : Nat) => [(2, ptrV b2), (3, ptrV b3), (5, i64 (k : Nat))])
        (fun _ => pt b2 (row [i64 (s : Nat), .slice aa la.length capa] 52) :: pt b3 (row [i64 (t : Nat), .slice ab lb.length capb] 52) :: z :: F)
        (fun k => k ≤ la.length ∧ ∀ m, m < k → la[m]? = lb[m]?) (fun k => la.length - k) 0 ⟨Nat.zero_le _, fun m hm => by omega⟩ ?_ ?_ ?_
      · (refine SubE.c rfl rfl ?_; refine SubE.c rfl rfl ?_; refine SubE.c rfl rfl ?_; exact SubE.n)
      · ((refine Sb.c (Tk.t Tk.h) ?_; refine Sb.c Tk.h ?_; refine Sb.c Tk.h ?_); (exact Sb.r))
      rintro k ⟨hk, hall⟩
      (refine G.seq ?_; refine G.seq ?_; refine G.region ?_; refine GO.move rfl rfl ?_; refine GO.fieldAddr rfl rfl ?_; refine GO.load1 rfl rfl rfl Tk.h rfl ?_; refine GO.lenS rfl rfl ?_; refine GO.lti rfl rfl rfl ?_; refine GO.nil ?_; refine kthen_n ?_)
      refine G.condD rfl (fun hlt => ?_) (fun hge => ?_)
      · have hkl : k < la.length := by omega
        obtain ⟨x, hxk⟩ : ∃ x, la[k]? = some x := ⟨_, List.getElem?_eq_getElem hkl⟩
        obtain ⟨y, hyk⟩ : ∃ y, lb[k]? = some y := ⟨_, List.getElem?_eq_getElem (by omega)⟩
        obtain ⟨ba, oa, rfl, hrx⟩ := hra (by omega)
        obtain ⟨bb, ob, rfl, hry⟩ := hrb (by omega)
        have r1 : Rd z ⟨ba, oa + k * 2, none⟩ (i64 x.1) := hrx _ _ (cellsV_get hxk).1
        have r2 : Rd z ⟨ba, oa + k * 2 + 1, none⟩ (i64 x.2) := hrx _ _ (cellsV_get hxk).2
        have r3 : Rd z ⟨bb, ob + k * 2, none⟩ (i64 y.1) := hry _ _ (cellsV_get hyk).1
        have r4 : Rd z ⟨bb, ob + k * 2 + 1, none⟩ (i64 y.2) := hry _ _ (cellsV_get hyk).2
        (refine G.skip ?_; refine kthen_n ?_; refine G.seq ?_; refine G.block ?_; refine G.seq ?_)
        refine G.draw 10 (by kernel_rfl) ?_
        ((apply GQ.step; focus (intro Z; refine GO.fieldAddr rfl rfl ?_; exact KQ.z)); (apply GQ.step; focus (intro Z; refine GO.load1 rfl rfl rfl Tk.h rfl ?_; exact KQ.z)); (apply GQ.step; focus (intro Z; refine GO.move rfl rfl ?_; exact KQ.z)); (apply GQ.step; focus (intro Z; refine GO.idxS rfl rfl rfl ⟨rfl, by omega⟩ ?_; exact KQ.z)); (apply GQ.step; focus (intro Z; refine GO.load2 rfl rfl rfl (Tk.t (Tk.t Tk.h)) (by assumption) (by assumption) ?_; exact KQ.z)); (apply GQ.step; focus (intro Z; refine GO.fieldAddr rfl rfl ?_; exact KQ.z)); (apply GQ.step; focus (intro Z; refine GO.load1 rfl rfl rfl (Tk.t Tk.h) rfl ?_; exact KQ.z)); (apply GQ.step; focus (intro Z; refine GO.move rfl rfl ?_; exact KQ.z)); (apply GQ.step; focus (intro Z; refine GO.idxS rfl rfl rfl ⟨rfl, by omega⟩ ?_; exact KQ.z)); (apply GQ.step; focus (intro Z; refine GO.load2 rfl rfl rfl (Tk.t (Tk.t Tk.h)) (by assumption) (by assumption) ?_; exact KQ.z)); refine GQ.nil ?_)
        skip
        refine GO.neqA (EqR.celC (d := 9998) x y) rfl rfl rfl ?_
        cases h3 : decide (x = y) with
        | true =>
          have h4 := of_decide_eq_true h3
          (refine GO.nil ?_; refine kthen_n ?_; refine G.condF rfl rfl ?_; refine G.skip ?_; refine kblock_n ?_; refine kthen_n ?_; refine G.region ?_; refine GO.move rfl rfl ?_; refine GO.addi rfl rfl rfl (by omega) ?_; refine GO.assign rfl rfl ?_; refine GO.nil ?_; refine kthen_n ?_)
          refine ⟨k + 1, ⟨by omega, fun m hm => ?_⟩, by omega, ?_, ?_⟩
          · rcases Nat.lt_or_ge m k with h | h
            · exact hall m h
            · obtain rfl : m = k := by omega
              rw [hxk, hyk, h4]
          · (refine SubE.c rfl rfl ?_; refine SubE.c rfl rfl ?_; refine SubE.c rfl rfl ?_; exact SubE.n)
          · ((refine Sb.c Tk.h ?_; refine Sb.c Tk.h ?_; refine Sb.c Tk.h ?_); (exact Sb.r))
        | false =>
          have h4 := of_decide_eq_false h3
          (refine GO.nil ?_; refine kthen_n ?_; refine G.condT rfl rfl ?_; refine G.seq ?_; refine G.region ?_; refine GO.assign rfl rfl ?_; refine GO.nil ?_; refine kthen_n ?_; refine G.ret ?_; refine kblock_r ?_; refine kthen_r ?_; refine kthen_r ?_; refine kblock_r ?_; refine kthen_r ?_)
          refine KF2.r1 rfl (RV.t rfl) ⟨false, rfl, ⟨fun h => (by cases h), fun h => ?_⟩, rfl⟩ (ImpS.sb ?_)
          · rw [h.2, hyk] at hxk
            exact absurd (Option.some.inj hxk).symm h4
          · ((refine Sb.c (Tk.t (Tk.t Tk.h)) ?_); (refine Sb.s ?_; refine Sb.s ?_; exact Sb.r))
      · obtain rfl : k = la.length := by omega
        (refine G.exit ?_; refine kthen_x ?_; refine kthen_x ?_; refine kblock_x ?_; refine kthen_n ?_; refine G.seq ?_; refine G.region ?_; refine GO.assign rfl rfl ?_; refine GO.nil ?_; refine kthen_n ?_; refine G.ret ?_)
        refine KF2.r1 rfl (RV.t rfl) ⟨true, rfl, ⟨fun _ => ⟨g1, ?_⟩, fun _ => rfl⟩, rfl⟩ (ImpS.sb ?_)
        · apply List.ext_getElem?
          intro m
          rcases Nat.lt_or_ge m la.length with h | h
          · exact hall m h
          · rw [List.getElem?_eq_none h, List.getElem?_eq_none (by omega)]
        · ((refine Sb.c (Tk.t (Tk.t Tk.h)) ?_); (refine Sb.s ?_; refine Sb.s ?_; exact Sb.r))
theorem castL_inj : ∀ {l m : List (Nat × Nat)}, castL l = castL m → l = m
  | [], [], _ => rfl
  | [], y :: m, h => by cases h
  | x :: l, [], h => by cases h
  | x :: l, y :: m, h => by
    unfold castL at h
    rw [List.map_cons, List.map_cons, List.cons.injEq, Prod.mk.injEq] at h
    have e := castL_inj (l := l) (m := m) h.2
    rw [e, show x = y from Prod.ext (by omega) (by omega)]
theorem rSameE (z : HP) (ra rb : Value) (a b : OptM) (hra : RefO z ra a) (hrb : RefO z rb b) :
    Fn Tryd.prog 27 #[ra, rb] [z] (fun r Q => r = .bool (sameO a b) ∧ Q = [z]) := by
  obtain ⟨va, rfl, h1, h2⟩ := hra
  obtain ⟨vb, rfl, h3, h4⟩ := hrb
  refine (rSame_core z (sideO a) (sideO b) va vb _ _ h1 h3 h2 h4 (by have := cast_small (setO a); omega) (by have := cast_small (setO b); omega)).mono ?_
  rintro _ _ ⟨bb, rfl, hbb, rfl⟩
  refine ⟨?_, rfl⟩
  have e : bb = sameO a b := by
    rw [Bool.eq_iff_iff, hbb]
    unfold sameO
    rw [Bool.and_eq_true, decide_eq_true_iff, decide_eq_true_iff]
    exact and_congr Iff.rfl ⟨castL_inj, fun h => by rw [h]⟩
  rw [e]
set_option maxHeartbeats 4000000 in
theorem ints_spec (l : List Nat) (va vb : Value) (hn : ¬ 1048576 < l.length) :
    Fn Tryd.prog 62 #[va, vb] [own 3 1 l.length va (natsV l), own 3 1 l.length vb (natsV l)] (fun r Q => r = .bool true ∧ Q = [own 3 1 l.length va (natsV l), own 3 1 l.length vb (natsV l)]) := by
  refine Fn.mk2 Tryd.func62 rfl rfl fun w0 F => ?_
  refine G.ownV Tk.h fun aa capa hva => ?_
  refine G.ownV (Tk.t Tk.h) fun ab capb hvb => ?_
  subst hva hvb
  (refine G.seq ?_; refine G.region ?_; refine GO.assign rfl rfl ?_; refine GO.nil ?_; refine kthen_n ?_; refine G.seq ?_; refine G.seq ?_; refine G.region ?_; refine GO.move rfl rfl ?_; refine GO.lenS rfl rfl ?_; refine GO.move rfl rfl ?_; refine GO.lenS rfl rfl ?_; refine GO.neF rfl rfl rfl rfl ?_; refine GO.nil ?_; refine kthen_n ?_; refine G.condF rfl rfl ?_; refine G.skip ?_; refine kthen_n ?_; refine G.seq ?_; refine G.seq ?_; refine G.region ?_; refine GO.assign rfl rfl ?_; refine GO.nil ?_; refine kthen_n ?_; refine G.block ?_)
  refine G.loop (fun (k : Nat) => [(0, .slice aa l.length capa), (1, .slice ab l.length capb), (5, i64 (k : Nat))])
    (fun _ => own 3 1 l.length (.slice aa l.length capa) (natsV l) :: own 3 1 l.length (.slice ab l.length capb) (natsV l) :: F)
    (fun k => k ≤ l.length) (fun k => l.length - k) 0 (Nat.zero_le _) ?_ ?_ ?_
  · (refine SubE.c rfl rfl ?_; refine SubE.c rfl rfl ?_; refine SubE.c rfl rfl ?_; exact SubE.n)
  · ((refine Sb.c Tk.h ?_; refine Sb.c Tk.h ?_); (exact Sb.r))
  rintro k hk
  (refine G.seq ?_; refine G.seq ?_; refine G.region ?_; refine GO.move rfl rfl ?_; refine GO.move rfl rfl ?_; refine GO.lenS rfl rfl ?_; refine GO.lti rfl rfl rfl ?_; refine GO.nil ?_; refine kthen_n ?_)
  refine G.condD rfl (fun hlt => ?_) (fun hge => ?_)
  · have hkl : k < l.length := by omega
    obtain ⟨x, hxk⟩ : ∃ x, l[k]? = some x := ⟨_, List.getElem?_eq_getElem hkl⟩
    have hg := natsV_get hxk
    refine G.ownForm (by omega) Tk.h fun ba ca e1 hd1 hd2 hd3 => ?_
    refine G.ownForm (by omega) (Tk.t Tk.h) fun bb cb e2 hd4 hd5 hd6 => ?_
    injection e1 with e1a e1b e1c
    injection e2 with e2a e2b e2c
    subst e1a e1c e2a e2c
    have r1 : Rd (own 3 1 l.length (.slice (some ⟨ba, 0, none⟩) l.length capa) (natsV l)) ⟨ba, 0 + k * 1, none⟩ (i64 (x : Nat)) := Rd.own (by rw [Nat.zero_add, Nat.mul_one]; exact hg)
    have r2 : Rd (own 3 1 l.length (.slice (some ⟨bb, 0, none⟩) l.length capb) (natsV l)) ⟨bb, 0 + k * 1, none⟩ (i64 (x : Nat)) := Rd.own (by rw [Nat.zero_add, Nat.mul_one]; exact hg)
    (refine G.skip ?_; refine kthen_n ?_; refine G.seq ?_; refine G.block ?_; refine G.seq ?_)
    refine G.draw 9 (by kernel_rfl) ?_
    ((apply GQ.step; focus (intro Z; refine GO.move rfl rfl ?_; exact KQ.z)); (apply GQ.step; focus (intro Z; refine GO.move rfl rfl ?_; exact KQ.z)); (apply GQ.step; focus (intro Z; refine GO.idxS rfl rfl rfl ⟨rfl, by omega⟩ ?_; exact KQ.z)); (apply GQ.step; focus (intro Z; refine GO.loadQ rfl rfl rfl Tk.h (by assumption) ?_; exact KQ.z)); (apply GQ.step; focus (intro Z; refine GO.move rfl rfl ?_; exact KQ.z)); (apply GQ.step; focus (intro Z; refine GO.move rfl rfl ?_; exact KQ.z)); (apply GQ.step; focus (intro Z; refine GO.idxS rfl rfl rfl ⟨rfl, by omega⟩ ?_; exact KQ.z)); (apply GQ.step; focus (intro Z; refine GO.loadQ rfl rfl rfl (Tk.t Tk.h) (by assumption) ?_; exact KQ.z)); (apply GQ.step; focus (intro Z; refine GO.neF rfl rfl rfl rfl ?_; exact KQ.z)); refine GQ.nil ?_)
    (refine GO.nil ?_; refine kthen_n ?_; refine G.condF rfl rfl ?_; refine G.skip ?_; refine kblock_n ?_; refine kthen_n ?_; refine G.region ?_; refine GO.move rfl rfl ?_; refine GO.addi rfl rfl rfl (by omega) ?_; refine GO.assign rfl rfl ?_; refine GO.nil ?_; refine kthen_n ?_)
    refine ⟨k + 1, by omega, by omega, ?_, ?_⟩
    · (refine SubE.c rfl rfl ?_; refine SubE.c rfl rfl ?_; refine SubE.c rfl rfl ?_; exact SubE.n)
    · ((refine Sb.c Tk.h ?_; refine Sb.c Tk.h ?_); (exact Sb.r))
  · obtain rfl : k = l.length := by omega
    (refine G.exit ?_; refine kthen_x ?_; refine kthen_x ?_; refine kblock_x ?_; refine kthen_n ?_; refine G.seq ?_; refine G.region ?_; refine GO.assign rfl rfl ?_; refine GO.nil ?_; refine kthen_n ?_; refine G.ret ?_)
    refine KF2.r1 rfl (RV.t rfl) ⟨rfl, rfl⟩ (ImpS.sb ?_)
    ((refine Sb.c Tk.h ?_; refine Sb.c Tk.h ?_); (exact Sb.r))
end Go.Proofs.YtfoahdfflchidaaDoor
namespace Go.Proofs.YtfoahdfflchidaaDoor
open Go
attribute [local irreducible] G GO GR GT Fn FnV pt init exs pur sat own ImpS mat posL allV orL restX cellsX cellsV
set_option maxHeartbeats 8000000 in
theorem osame_spec (R z q : HP) (hq : Tab q) (v rv : Value) (o : OptM) (ho : HasO R v o) (hr : RefO z rv o) (hw : WfO o) (hc : ¬ 1048576 < (cellsX (setO o)).length) :
    Fn Tryd.prog 29 #[v, rv] [R, z, q] (fun r Q => r = .bool true ∧ Q = [R, z, q]) := by
  obtain ⟨v2, rfl, hone, hsl⟩ := hr
  have hlen := cellsX_len (setO o)
  have hcl := castL_len (cellsX (setO o))
  obtain ⟨a, cap, rfl, hcap, hrd⟩ := hsl
  refine Fn.mk2 Tryd.func29 rfl rfl fun w0 F => ?_
  rw [hcl] at hrd ⊢
  rcases ho.form with ⟨rfl, rfl⟩ | ⟨hne, b, rfl⟩
  · (refine G.seq ?_; refine G.region ?_; refine GO.box rfl rfl rfl fun b3 => ?_; refine GO.alloc rfl fun b4 => ?_; refine GO.nil ?_; refine kthen_n ?_; refine G.seq ?_; refine G.seq ?_)
    refine G.draw 21 (by kernel_rfl) ?_
    ((apply GQ.step; focus (intro Z; refine GO.move rfl rfl ?_; exact KQ.z)); (apply GQ.step; focus (intro Z; refine GO.eqNilP rfl rfl ?_; exact KQ.z)); (apply GQ.step; focus (intro Z; refine GO.fieldAddr rfl rfl ?_; exact KQ.z)); (apply GQ.step; focus (intro Z; refine GO.load1 rfl rfl rfl (Tk.t Tk.h) rfl ?_; exact KQ.z)); (apply GQ.step; focus (intro Z; refine GO.eqT rfl rfl rfl rfl ?_; exact KQ.z)))
    apply GQ.step; focus (intro Z; refine GO.neqF rfl rfl rfl rfl ?_; exact KQ.z)
    ((apply GQ.step; focus (intro Z; refine GO.move rfl rfl ?_; exact KQ.z)); (apply GQ.step; focus (intro Z; refine GO.gT rfl rfl rfl ?_; refine GO.move rfl rfl ?_; exact KQ.z)))
    apply GQ.step; focus (intro Z; refine GO.gT rfl rfl rfl ?_; refine GO.call1 rfl rfl (ho.side) (Tks.c (Tk.t (Tk.t Tk.h)) Tks.n) ?_; rintro _ _ ⟨rfl, rfl⟩; refine GO.nil (KQ.s ?_); ((refine Sb.c (Tk.t Tk.h) ?_; refine Sb.c (Tk.t Tk.h) ?_; refine Sb.c Tk.h ?_; refine Sb.c Tk.h ?_; refine Sb.c Tk.h ?_); (exact Sb.r)))
    ((apply GQ.step; focus (intro Z; refine GO.gT rfl rfl rfl ?_; refine GO.fieldAddr rfl rfl ?_; exact KQ.z)); (apply GQ.step; focus (intro Z; refine GO.gT rfl rfl rfl ?_; refine GO.load1 rfl rfl rfl (Tk.t Tk.h) rfl ?_; exact KQ.z)); (apply GQ.step; focus (intro Z; refine GO.gT rfl rfl rfl ?_; refine GO.neF rfl rfl rfl rfl ?_; exact KQ.z)); (apply GQ.step; focus (intro Z; refine GO.pickF rfl rfl rfl ?_; exact KQ.z)); (apply GQ.step; focus (intro Z; refine GO.move rfl rfl ?_; exact KQ.z)); (apply GQ.step; focus (intro Z; refine GO.gT rfl rfl rfl ?_; refine GO.move rfl rfl ?_; exact KQ.z)))
    apply GQ.step; focus (intro Z; refine GO.gT rfl rfl rfl ?_; refine GO.call1 rfl rfl (ho.len) (Tks.c (Tk.t (Tk.t Tk.h)) Tks.n) ?_; rintro _ _ ⟨rfl, rfl⟩; refine GO.nil (KQ.s ?_); ((refine Sb.c (Tk.t Tk.h) ?_; refine Sb.c (Tk.t Tk.h) ?_; refine Sb.c Tk.h ?_; refine Sb.c Tk.h ?_; refine Sb.c Tk.h ?_); (exact Sb.r)))
    rw [← hlen]
    ((apply GQ.step; focus (intro Z; refine GO.gT rfl rfl rfl ?_; refine GO.fieldAddr rfl rfl ?_; exact KQ.z)); (apply GQ.step; focus (intro Z; refine GO.gT rfl rfl rfl ?_; refine GO.load1 rfl rfl rfl (Tk.t Tk.h) rfl ?_; exact KQ.z)); (apply GQ.step; focus (intro Z; refine GO.gT rfl rfl rfl ?_; refine GO.lenS rfl rfl ?_; exact KQ.z)); (apply GQ.step; focus (intro Z; refine GO.gT rfl rfl rfl ?_; refine GO.neF rfl rfl rfl rfl ?_; exact KQ.z)); (apply GQ.step; focus (intro Z; refine GO.pickF rfl rfl rfl ?_; exact KQ.z)); refine GQ.nil ?_)
    (refine GO.nil ?_; refine kthen_n ?_; refine G.condF rfl rfl ?_; refine G.skip ?_; refine kthen_n ?_; refine G.seq ?_; refine G.region ?_; refine GO.alloc rfl fun b5 => ?_; refine GO.store1 rfl rfl rfl Tk.h (by decide) ?_; refine GO.nil ?_; refine kthen_n ?_; refine G.seq ?_; refine G.region ?_; refine GO.move rfl rfl ?_)
    refine GO.call1 rfl rfl (ho.cells) (Tks.c (Tk.t (Tk.t (Tk.t Tk.h))) Tks.n) ?_
    rintro _ _ ⟨bI, vI, rfl, rfl⟩
    (refine GO.assign rfl rfl ?_; refine GO.nil ?_; refine kthen_n ?_; refine G.seq ?_; refine G.seq ?_; refine G.region ?_; refine GO.move rfl rfl ?_)
    refine GO.eqNilF rfl rfl ?_
    (refine GO.nil ?_; refine kthen_n ?_; refine G.condF rfl rfl ?_; refine G.skip ?_; refine kthen_n ?_; refine G.seq ?_; refine G.seq ?_; refine G.region ?_; refine GO.move rfl rfl ?_; refine GO.nil ?_; refine kthen_n ?_; refine G.block ?_)
    refine G.rangeF (F := R :: pt b4 (row [.bool false] 4) :: F) (psl := [35, 36]) (v := .func (.func 41) #[] #[.pointer (some ⟨bI, 0, none⟩)]) (xs := (cellsX (setO (none : OptM))).map celV) (Sh := [q]) (Gm := [bkM (setO (none : OptM)) bI vI])
      (fun k => [pt b3 (row [i64 ((sideO (none : OptM) : Nat) : Int), .slice a (cellsX (setO (none : OptM))).length cap] 52), pt b5 (row [i64 (k : Nat)] 3), z])
      (fun _ _ => [pur False]) (fun _ h => by cases h) rfl (fun u hu => by obtain ⟨p, _, rfl⟩ := List.mem_map.1 hu; rfl) rfl (mcells_seq q hq (setO (none : OptM)) bI vI) ?_ (fun lp Lr Lb w1 F1 k uu huu => ?_) ?_ ?_
    · (refine Tks.c (Tk.t (Tk.t (Tk.t (Tk.t Tk.h)))) ?_; refine Tks.c (Tk.t (Tk.t Tk.h)) ?_; refine Tks.c (Tk.t (Tk.t (Tk.t Tk.h))) ?_; refine Tks.c (Tk.t (Tk.t (Tk.t Tk.h))) ?_; exact Tks.n)
    · obtain ⟨p, hp, rfl⟩ : ∃ p, (cellsX (setO (none : OptM)))[k]? = some p ∧ uu = celV p := by
        rw [List.getElem?_map] at huu
        cases hcc : (cellsX (setO (none : OptM)))[k]? with
        | none => simp [hcc] at huu
        | some p => simp [hcc] at huu; exact ⟨p, rfl, huu.symm⟩
      have hkl := (List.getElem?_eq_some_iff.1 hp).1
      have hpc : (castL (cellsX (setO (none : OptM))))[k]? = some ((p.1 : Int), (p.2 : Int)) := by unfold castL; rw [List.getElem?_map, hp]; rfl
      obtain ⟨bo, oo, rfl, hr2⟩ := hrd (by omega)
      have r1 : Rd z ⟨bo, oo + k * 2, none⟩ (i64 ((p.1 : Nat) : Int)) := hr2 _ _ (cellsV_get hpc).1
      have r2 : Rd z ⟨bo, oo + k * 2 + 1, none⟩ (i64 ((p.2 : Nat) : Int)) := hr2 _ _ (cellsV_get hpc).2
      have d1 : decide (((cellsX (setO (none : OptM))).length : Int) ≤ (k : Int)) = false := decide_eq_false (by omega)
      have hceq := EqR.celC (d := 9998) ((p.1 : Int), (p.2 : Int)) ((p.1 : Int), (p.2 : Int))
      rw [decide_eq_true rfl] at hceq
      change G _ _ _ _ ((36, i64 (p.2 : Nat)) :: (35, i64 (p.1 : Nat)) :: _) (pt b3 (row [i64 ((sideO (none : OptM) : Nat) : Int), .slice (some ⟨bo, oo, none⟩) (cellsX (setO (none : OptM))).length cap] 52) :: pt b5 (row [i64 (k : Nat)] 3) :: z :: q :: F1)
      (refine G.seq ?_; refine G.region ?_; refine GO.assign rfl rfl ?_; refine GO.nil ?_; refine kthen_n ?_; refine G.region ?_; refine GO.assign rfl rfl ?_; refine GO.nil ?_)
      refine kA_n ?_
      (refine G.block ?_; refine G.seq ?_; refine G.seq ?_; refine G.region ?_; refine GO.load1 rfl rfl rfl (Tk.t Tk.h) rfl ?_; refine GO.fieldAddr rfl rfl ?_; refine GO.load1 rfl rfl rfl Tk.h rfl ?_; refine GO.lenS rfl rfl ?_; refine GO.gei rfl rfl rfl ?_; refine GO.move rfl rfl ?_; refine GO.gT rfl rfl (by assumption) ?_; refine GO.fieldAddr rfl rfl ?_; refine GO.gT rfl rfl (by assumption) ?_; refine GO.load1 rfl rfl rfl Tk.h rfl ?_; refine GO.gT rfl rfl (by assumption) ?_; refine GO.load1 rfl rfl rfl (Tk.t Tk.h) rfl ?_; refine GO.gT rfl rfl (by assumption) ?_; refine GO.idxS rfl rfl rfl ⟨rfl, by omega⟩ ?_; refine GO.gT rfl rfl (by assumption) ?_; refine GO.load2 rfl rfl rfl (Tk.t (Tk.t Tk.h)) (by assumption) (by assumption) ?_; refine GO.gT rfl rfl (by assumption) ?_; refine GO.move rfl rfl ?_; refine GO.gT rfl rfl (by assumption) ?_; refine GO.move rfl rfl ?_; refine GO.gT rfl rfl (by assumption) ?_; refine GO.build2 rfl rfl rfl rfl ?_; refine GO.gT rfl rfl (by assumption) ?_)
      refine GO.neqA hceq rfl rfl rfl ?_
      (refine GO.pickFa rfl rfl (by assumption) rfl ?_; refine GO.nil ?_; refine kthen_n ?_; refine G.condF rfl rfl ?_; refine G.skip ?_; refine kthen_n ?_; refine G.region ?_; refine GO.load1 rfl rfl rfl (Tk.t Tk.h) rfl ?_; refine GO.addi rfl rfl rfl (by omega) ?_; refine GO.store1 rfl rfl rfl (Tk.t Tk.h) (by simp) ?_; refine GO.nil ?_; refine kblock_n ?_)
      refine kB_n (ImpS.sb ?_)
      ((refine Sb.c (Tk.t Tk.h) ?_; refine Sb.c Tk.h ?_; refine Sb.c Tk.h ?_; refine Sb.c Tk.h ?_); (exact Sb.r))
    · rw [List.length_map]
      change G _ _ _ _ _ (pt b3 (row [i64 ((sideO (none : OptM) : Nat) : Int), .slice a (cellsX (setO (none : OptM))).length cap] 52) :: pt b5 (row [i64 ((cellsX (setO (none : OptM))).length : Nat)] 3) :: z :: q :: bkM (setO (none : OptM)) bI vI :: R :: pt b4 (row [.bool false] 4) :: F)
      (refine G.seq ?_; refine G.region ?_; refine GO.load1 rfl rfl rfl (Tk.t Tk.h) rfl ?_; refine GO.fieldAddr rfl rfl ?_; refine GO.load1 rfl rfl rfl Tk.h rfl ?_; refine GO.lenS rfl rfl ?_; refine GO.eqT rfl rfl rfl rfl ?_; refine GO.store1 rfl rfl rfl (Tk.t (Tk.t (Tk.t (Tk.t (Tk.t (Tk.t Tk.h)))))) (by decide) ?_; refine GO.nil ?_; refine kthen_n ?_; refine G.ret ?_)
      refine KF2.r1 rfl (RV.c1 rfl rfl (by (exact Tk.h)) rfl) ⟨rfl, rfl⟩ (ImpS.sb ?_)
      ((refine Sb.c (Tk.t (Tk.t (Tk.t (Tk.t (Tk.t (Tk.t Tk.h)))))) ?_; refine Sb.c (Tk.t (Tk.t (Tk.t Tk.h))) ?_; refine Sb.c (Tk.t (Tk.t (Tk.t Tk.h))) ?_); (refine Sb.s ?_; refine Sb.s ?_; refine Sb.s ?_; refine Sb.s ?_; exact Sb.r))
    · intro i jc hi
      exact G.pur fun h => h.elim
  · obtain ⟨⟨s, X⟩, rfl⟩ := Option.ne_none_iff_exists'.1 hne
    have hs := hw.some s X rfl
    (refine G.seq ?_; refine G.region ?_; refine GO.box rfl rfl rfl fun b3 => ?_; refine GO.alloc rfl fun b4 => ?_; refine GO.nil ?_; refine kthen_n ?_; refine G.seq ?_; refine G.seq ?_)
    refine G.draw 21 (by kernel_rfl) ?_
    ((apply GQ.step; focus (intro Z; refine GO.move rfl rfl ?_; exact KQ.z)); (apply GQ.step; focus (intro Z; refine GO.eqNilP rfl rfl ?_; exact KQ.z)); (apply GQ.step; focus (intro Z; refine GO.fieldAddr rfl rfl ?_; exact KQ.z)); (apply GQ.step; focus (intro Z; refine GO.load1 rfl rfl rfl (Tk.t Tk.h) rfl ?_; exact KQ.z)); (apply GQ.step; focus (intro Z; refine GO.eqi rfl rfl rfl ?_; exact KQ.z)))
    apply GQ.step; focus (intro Z; refine GO.neqF rfl rfl rfl (by show false = decide (((s : Nat) : Int) = 0); rw [decide_eq_false (by omega)]) ?_; exact KQ.z)
    ((apply GQ.step; focus (intro Z; refine GO.move rfl rfl ?_; exact KQ.z)); (apply GQ.step; focus (intro Z; refine GO.gT rfl rfl rfl ?_; refine GO.move rfl rfl ?_; exact KQ.z)))
    apply GQ.step; focus (intro Z; refine GO.gT rfl rfl rfl ?_; refine GO.call1 rfl rfl (ho.side) (Tks.c (Tk.t (Tk.t Tk.h)) Tks.n) ?_; rintro _ _ ⟨rfl, rfl⟩; refine GO.nil (KQ.s ?_); ((refine Sb.c (Tk.t Tk.h) ?_; refine Sb.c (Tk.t Tk.h) ?_; refine Sb.c Tk.h ?_; refine Sb.c Tk.h ?_; refine Sb.c Tk.h ?_); (exact Sb.r)))
    ((apply GQ.step; focus (intro Z; refine GO.gT rfl rfl rfl ?_; refine GO.fieldAddr rfl rfl ?_; exact KQ.z)); (apply GQ.step; focus (intro Z; refine GO.gT rfl rfl rfl ?_; refine GO.load1 rfl rfl rfl (Tk.t Tk.h) rfl ?_; exact KQ.z)); (apply GQ.step; focus (intro Z; refine GO.gT rfl rfl rfl ?_; refine GO.neF rfl rfl rfl rfl ?_; exact KQ.z)); (apply GQ.step; focus (intro Z; refine GO.pickF rfl rfl rfl ?_; exact KQ.z)); (apply GQ.step; focus (intro Z; refine GO.move rfl rfl ?_; exact KQ.z)); (apply GQ.step; focus (intro Z; refine GO.gT rfl rfl rfl ?_; refine GO.move rfl rfl ?_; exact KQ.z)))
    apply GQ.step; focus (intro Z; refine GO.gT rfl rfl rfl ?_; refine GO.call1 rfl rfl (ho.len) (Tks.c (Tk.t (Tk.t Tk.h)) Tks.n) ?_; rintro _ _ ⟨rfl, rfl⟩; refine GO.nil (KQ.s ?_); ((refine Sb.c (Tk.t Tk.h) ?_; refine Sb.c (Tk.t Tk.h) ?_; refine Sb.c Tk.h ?_; refine Sb.c Tk.h ?_; refine Sb.c Tk.h ?_); (exact Sb.r)))
    rw [← hlen]
    ((apply GQ.step; focus (intro Z; refine GO.gT rfl rfl rfl ?_; refine GO.fieldAddr rfl rfl ?_; exact KQ.z)); (apply GQ.step; focus (intro Z; refine GO.gT rfl rfl rfl ?_; refine GO.load1 rfl rfl rfl (Tk.t Tk.h) rfl ?_; exact KQ.z)); (apply GQ.step; focus (intro Z; refine GO.gT rfl rfl rfl ?_; refine GO.lenS rfl rfl ?_; exact KQ.z)); (apply GQ.step; focus (intro Z; refine GO.gT rfl rfl rfl ?_; refine GO.neF rfl rfl rfl rfl ?_; exact KQ.z)); (apply GQ.step; focus (intro Z; refine GO.pickF rfl rfl rfl ?_; exact KQ.z)); refine GQ.nil ?_)
    (refine GO.nil ?_; refine kthen_n ?_; refine G.condF rfl rfl ?_; refine G.skip ?_; refine kthen_n ?_; refine G.seq ?_; refine G.region ?_; refine GO.alloc rfl fun b5 => ?_; refine GO.store1 rfl rfl rfl Tk.h (by decide) ?_; refine GO.nil ?_; refine kthen_n ?_; refine G.seq ?_; refine G.region ?_; refine GO.move rfl rfl ?_)
    refine GO.call1 rfl rfl (ho.cells) (Tks.c (Tk.t (Tk.t (Tk.t Tk.h))) Tks.n) ?_
    rintro _ _ ⟨bI, vI, rfl, rfl⟩
    (refine GO.assign rfl rfl ?_; refine GO.nil ?_; refine kthen_n ?_; refine G.seq ?_; refine G.seq ?_; refine G.region ?_; refine GO.move rfl rfl ?_)
    refine GO.eqNilF rfl rfl ?_
    (refine GO.nil ?_; refine kthen_n ?_; refine G.condF rfl rfl ?_; refine G.skip ?_; refine kthen_n ?_; refine G.seq ?_; refine G.seq ?_; refine G.region ?_; refine GO.move rfl rfl ?_; refine GO.nil ?_; refine kthen_n ?_; refine G.block ?_)
    refine G.rangeF (F := R :: pt b4 (row [.bool false] 4) :: F) (psl := [35, 36]) (v := .func (.func 41) #[] #[.pointer (some ⟨bI, 0, none⟩)]) (xs := (cellsX (setO (some (s, X) : OptM))).map celV) (Sh := [q]) (Gm := [bkM (setO (some (s, X) : OptM)) bI vI])
      (fun k => [pt b3 (row [i64 ((sideO (some (s, X) : OptM) : Nat) : Int), .slice a (cellsX (setO (some (s, X) : OptM))).length cap] 52), pt b5 (row [i64 (k : Nat)] 3), z])
      (fun _ _ => [pur False]) (fun _ h => by cases h) rfl (fun u hu => by obtain ⟨p, _, rfl⟩ := List.mem_map.1 hu; rfl) rfl (mcells_seq q hq (setO (some (s, X) : OptM)) bI vI) ?_ (fun lp Lr Lb w1 F1 k uu huu => ?_) ?_ ?_
    · (refine Tks.c (Tk.t (Tk.t (Tk.t (Tk.t Tk.h)))) ?_; refine Tks.c (Tk.t (Tk.t Tk.h)) ?_; refine Tks.c (Tk.t (Tk.t (Tk.t Tk.h))) ?_; refine Tks.c (Tk.t (Tk.t (Tk.t Tk.h))) ?_; exact Tks.n)
    · obtain ⟨p, hp, rfl⟩ : ∃ p, (cellsX (setO (some (s, X) : OptM)))[k]? = some p ∧ uu = celV p := by
        rw [List.getElem?_map] at huu
        cases hcc : (cellsX (setO (some (s, X) : OptM)))[k]? with
        | none => simp [hcc] at huu
        | some p => simp [hcc] at huu; exact ⟨p, rfl, huu.symm⟩
      have hkl := (List.getElem?_eq_some_iff.1 hp).1
      have hpc : (castL (cellsX (setO (some (s, X) : OptM))))[k]? = some ((p.1 : Int), (p.2 : Int)) := by unfold castL; rw [List.getElem?_map, hp]; rfl
      obtain ⟨bo, oo, rfl, hr2⟩ := hrd (by omega)
      have r1 : Rd z ⟨bo, oo + k * 2, none⟩ (i64 ((p.1 : Nat) : Int)) := hr2 _ _ (cellsV_get hpc).1
      have r2 : Rd z ⟨bo, oo + k * 2 + 1, none⟩ (i64 ((p.2 : Nat) : Int)) := hr2 _ _ (cellsV_get hpc).2
      have d1 : decide (((cellsX (setO (some (s, X) : OptM))).length : Int) ≤ (k : Int)) = false := decide_eq_false (by omega)
      have hceq := EqR.celC (d := 9998) ((p.1 : Int), (p.2 : Int)) ((p.1 : Int), (p.2 : Int))
      rw [decide_eq_true rfl] at hceq
      change G _ _ _ _ ((36, i64 (p.2 : Nat)) :: (35, i64 (p.1 : Nat)) :: _) (pt b3 (row [i64 ((sideO (some (s, X) : OptM) : Nat) : Int), .slice (some ⟨bo, oo, none⟩) (cellsX (setO (some (s, X) : OptM))).length cap] 52) :: pt b5 (row [i64 (k : Nat)] 3) :: z :: q :: F1)
      (refine G.seq ?_; refine G.region ?_; refine GO.assign rfl rfl ?_; refine GO.nil ?_; refine kthen_n ?_; refine G.region ?_; refine GO.assign rfl rfl ?_; refine GO.nil ?_)
      refine kA_n ?_
      (refine G.block ?_; refine G.seq ?_; refine G.seq ?_; refine G.region ?_; refine GO.load1 rfl rfl rfl (Tk.t Tk.h) rfl ?_; refine GO.fieldAddr rfl rfl ?_; refine GO.load1 rfl rfl rfl Tk.h rfl ?_; refine GO.lenS rfl rfl ?_; refine GO.gei rfl rfl rfl ?_; refine GO.move rfl rfl ?_; refine GO.gT rfl rfl (by assumption) ?_; refine GO.fieldAddr rfl rfl ?_; refine GO.gT rfl rfl (by assumption) ?_; refine GO.load1 rfl rfl rfl Tk.h rfl ?_; refine GO.gT rfl rfl (by assumption) ?_; refine GO.load1 rfl rfl rfl (Tk.t Tk.h) rfl ?_; refine GO.gT rfl rfl (by assumption) ?_; refine GO.idxS rfl rfl rfl ⟨rfl, by omega⟩ ?_; refine GO.gT rfl rfl (by assumption) ?_; refine GO.load2 rfl rfl rfl (Tk.t (Tk.t Tk.h)) (by assumption) (by assumption) ?_; refine GO.gT rfl rfl (by assumption) ?_; refine GO.move rfl rfl ?_; refine GO.gT rfl rfl (by assumption) ?_; refine GO.move rfl rfl ?_; refine GO.gT rfl rfl (by assumption) ?_; refine GO.build2 rfl rfl rfl rfl ?_; refine GO.gT rfl rfl (by assumption) ?_)
      refine GO.neqA hceq rfl rfl rfl ?_
      (refine GO.pickFa rfl rfl (by assumption) rfl ?_; refine GO.nil ?_; refine kthen_n ?_; refine G.condF rfl rfl ?_; refine G.skip ?_; refine kthen_n ?_; refine G.region ?_; refine GO.load1 rfl rfl rfl (Tk.t Tk.h) rfl ?_; refine GO.addi rfl rfl rfl (by omega) ?_; refine GO.store1 rfl rfl rfl (Tk.t Tk.h) (by simp) ?_; refine GO.nil ?_; refine kblock_n ?_)
      refine kB_n (ImpS.sb ?_)
      ((refine Sb.c (Tk.t Tk.h) ?_; refine Sb.c Tk.h ?_; refine Sb.c Tk.h ?_; refine Sb.c Tk.h ?_); (exact Sb.r))
    · rw [List.length_map]
      change G _ _ _ _ _ (pt b3 (row [i64 ((sideO (some (s, X) : OptM) : Nat) : Int), .slice a (cellsX (setO (some (s, X) : OptM))).length cap] 52) :: pt b5 (row [i64 ((cellsX (setO (some (s, X) : OptM))).length : Nat)] 3) :: z :: q :: bkM (setO (some (s, X) : OptM)) bI vI :: R :: pt b4 (row [.bool false] 4) :: F)
      (refine G.seq ?_; refine G.region ?_; refine GO.load1 rfl rfl rfl (Tk.t Tk.h) rfl ?_; refine GO.fieldAddr rfl rfl ?_; refine GO.load1 rfl rfl rfl Tk.h rfl ?_; refine GO.lenS rfl rfl ?_; refine GO.eqT rfl rfl rfl rfl ?_; refine GO.store1 rfl rfl rfl (Tk.t (Tk.t (Tk.t (Tk.t (Tk.t (Tk.t Tk.h)))))) (by decide) ?_; refine GO.nil ?_; refine kthen_n ?_; refine G.ret ?_)
      refine KF2.r1 rfl (RV.c1 rfl rfl (by (exact Tk.h)) rfl) ⟨rfl, rfl⟩ (ImpS.sb ?_)
      ((refine Sb.c (Tk.t (Tk.t (Tk.t (Tk.t (Tk.t (Tk.t Tk.h)))))) ?_; refine Sb.c (Tk.t (Tk.t (Tk.t Tk.h))) ?_; refine Sb.c (Tk.t (Tk.t (Tk.t Tk.h))) ?_); (refine Sb.s ?_; refine Sb.s ?_; refine Sb.s ?_; refine Sb.s ?_; exact Sb.r))
    · intro i jc hi
      exact G.pur fun h => h.elim
end Go.Proofs.YtfoahdfflchidaaDoor
namespace Go.Proofs.YtfoahdfflchidaaDoor
open Go
attribute [local irreducible] G GO GR GT GW Fn FnV pt init exs pur sat own ImpS mat posL allV orL restX cellsX cellsV cntX lessX uniX rowX natsV lines plc swpL colsL blkTo placL orX pos2 hasB
set_option maxHeartbeats 16000000 in
theorem blocks_law (p z : HP) (v ra : Value) (o : OptM) (ho : MatO p v o) (hra : RefO z ra o) (wo : WfM o) :
    Fn Tryd.prog 65 #[v, ra] [p, z] (fun r Q => r = .bool true ∧ Q = [p, z]) := by
  have hB := blocksE p v o ho
  have hR := rBlocksE z ra o hra wo
  obtain ⟨va, rfl, hone, _⟩ := hra
  obtain ⟨pv, rfl⟩ := ho.has.ptr
  have hpl : ¬ 256 < (posL (setO o)).length := by have := posL_len (setO o); omega
  generalize setO o = X at hB hR hpl
  generalize sideO o = s at hR ⊢
  refine Fn.mk2 Tryd.func65 rfl rfl fun w0 F => ?_
  (refine G.seq ?_; refine G.region ?_; refine GO.box rfl rfl rfl fun b3 => ?_; refine GO.alloc rfl fun b4 => ?_; refine GO.nil ?_; refine kthen_n ?_; refine G.seq ?_; refine G.region ?_; refine GO.loadW rfl rfl rfl (Tk.t Tk.h) rfl ?_)
  refine GO.call1 rfl rfl (hR) (Tks.c (Tk.t (Tk.t (Tk.t Tk.h))) Tks.n) ?_
  rintro vp _ rfl
  refine GO.ownV Tk.h fun a9 cap9 hv9 => ?_
  subst hv9
  (refine GO.alloc rfl fun b5 => ?_; refine GO.store1 rfl rfl rfl Tk.h (by decide) ?_; refine GO.nil ?_; refine kthen_n ?_; refine G.seq ?_; refine G.region ?_; refine GO.move rfl rfl ?_)
  refine GO.call1 rfl rfl (hB) (Tks.c (Tk.t (Tk.t (Tk.t (Tk.t (Tk.t Tk.h))))) Tks.n) ?_
  rintro _ _ ⟨bI, vI, rfl, rfl⟩
  (refine GO.assign rfl rfl ?_; refine GO.nil ?_; refine kthen_n ?_; refine G.seq ?_; refine G.seq ?_; refine G.region ?_; refine GO.move rfl rfl ?_)
  refine GO.eqNilF rfl rfl ?_
  (refine GO.nil ?_; refine kthen_n ?_; refine G.condF rfl rfl ?_; refine G.skip ?_; refine kthen_n ?_; refine G.seq ?_; refine G.region ?_; refine GO.alloc rfl fun b7 => ?_; refine GO.store1 rfl rfl rfl Tk.h (by decide) ?_; refine GO.nil ?_; refine kthen_n ?_; refine G.seq ?_; refine G.seq ?_; refine G.region ?_; refine GO.move rfl rfl ?_; refine GO.nil ?_; refine kthen_n ?_; refine G.block ?_)
  refine G.rangeF (F := z :: pt b4 (row [.bool false] 4) :: pt b3 (row [i64 (s : Nat), va] 52) :: F) (psl := [17, 18]) (v := .func (.func 90) #[] #[.pointer (some ⟨bI, 0, none⟩)]) (xs := (posL X).map (bkA X)) (Sh := [p]) (Gm := [bkM X bI vI])
    (fun k => [own 134 66 (posL X).length (.slice a9 (posL X).length cap9) (allV X (posL X)), pt b5 (row [.slice a9 (posL X).length cap9] 128), pt b7 (row [i64 (k : Nat)] 3)])
    (fun _ _ => [pur False]) (fun _ h => by cases h) rfl (fun u hu => by obtain ⟨p, _, rfl⟩ := List.mem_map.1 hu; rfl) rfl (blocks_seq p X bI vI) ?_ (fun lp Lr Lb w1 F1 k uu huu => ?_) ?_ ?_
  · (refine Tks.c (Tk.t (Tk.t (Tk.t (Tk.t Tk.h)))) ?_; refine Tks.c (Tk.t (Tk.t (Tk.t Tk.h))) ?_; refine Tks.c Tk.h ?_; refine Tks.c (Tk.t Tk.h) ?_; exact Tks.n)
  · obtain ⟨y, hy, rfl⟩ : ∃ y, (posL X)[k]? = some y ∧ uu = bkA X y := by
      rw [List.getElem?_map] at huu
      cases hcc : (posL X)[k]? with
      | none => simp [hcc] at huu
      | some y => simp [hcc] at huu; exact ⟨y, rfl, huu.symm⟩
    have hkl := (List.getElem?_eq_some_iff.1 hy).1
    have d1 : decide (((posL X).length : Int) ≤ (k : Int)) = false := decide_eq_false (by omega)
    change G _ _ _ _ ((18, blk (blkAt X (y / 16) (y % 16))) :: (17, .agg #[i64 ((y / 16 : Nat) : Int), i64 ((y % 16 : Nat) : Int)]) :: _) (own 134 66 (posL X).length (.slice a9 (posL X).length cap9) (allV X (posL X)) :: pt b5 (row [.slice a9 (posL X).length cap9] 128) :: pt b7 (row [i64 (k : Nat)] 3) :: p :: F1)
    refine G.ownForm (by omega) Tk.h fun bl cl e1 hd1 hd2 hd3 => ?_
    injection e1 with e1a e1b e1c
    subst e1a e1c
    have hrd : ∀ j u, (plV X y)[j]? = some u → Rd (own 134 66 (posL X).length (.slice (some ⟨bl, 0, none⟩) (posL X).length cap9) (allV X (posL X))) ⟨bl, k * 66 + j, none⟩ u := fun j u hj => by
      have hj66 : j < 66 := by have := (List.getElem?_eq_some_iff.1 hj).1; rw [qV_len] at this; exact this
      exact Rd.own (by rw [allV_get hy hj66]; exact hj)
    have ra1 : ∀ j u, [i64 ((y / 16 : Nat) : Int), i64 ((y % 16 : Nat) : Int)][j]? = some u → Rd (own 134 66 (posL X).length (.slice (some ⟨bl, 0, none⟩) (posL X).length cap9) (allV X (posL X))) ⟨bl, 0 + k * 66 + 0 + j, none⟩ u := fun j u hj => by
      rw [show 0 + k * 66 + 0 + j = k * 66 + j by omega]
      refine hrd j u ?_
      have := (List.getElem?_eq_some_iff.1 hj).1
      unfold plV qV
      rw [List.getElem?_append_left this]; exact hj
    have ra2 : ∀ j u, (cells (blkAt X (y / 16) (y % 16)))[j]? = some u → Rd (own 134 66 (posL X).length (.slice (some ⟨bl, 0, none⟩) (posL X).length cap9) (allV X (posL X))) ⟨bl, 0 + k * 66 + 2 + j, none⟩ u := fun j u hj => by
      rw [show 0 + k * 66 + 2 + j = k * 66 + (2 + j) by omega]
      refine hrd (2 + j) u ?_
      unfold plV qV
      rw [List.getElem?_append_right (by simp), show 2 + j - [i64 ((y / 16 : Nat) : Int), i64 ((y % 16 : Nat) : Int)].length = j by simp]
      exact hj
    clear hrd
    have hceq := EqR.celC (d := 9998) (((y / 16 : Nat) : Int), ((y % 16 : Nat) : Int)) (((y / 16 : Nat) : Int), ((y % 16 : Nat) : Int))
    rw [decide_eq_true rfl] at hceq
    have hbeq : EqR Tryd.prog 10000 77 (blk (blkAt X (y / 16) (y % 16))) (blk (blkAt X (y / 16) (y % 16))) true := EqR.blkT fun i hi => rfl
    (refine G.seq ?_; refine G.region ?_; refine GO.alloc rfl fun b8 => ?_; refine GO.storeW rfl rfl Tk.h ⟨rfl, rfl⟩ (by simp [Value.oneCell']) ?_; refine GO.nil ?_; refine kthen_n ?_; refine G.region ?_; refine GO.alloc rfl fun b9 => ?_)
    rw [cells_zero]
    refine GO.storeW rfl rfl Tk.h ⟨cells_len _, cells_len _⟩ (cells_one _) ?_
    (refine GO.nil ?_)
    refine kA_n ?_
    (refine G.block ?_; refine G.seq ?_; refine G.seq ?_)
    refine G.draw 22 (by kernel_rfl) ?_
    ((apply GQ.step; focus (intro Z; refine GO.load1 rfl rfl rfl (Tk.t (Tk.t (Tk.t (Tk.t Tk.h)))) rfl ?_; exact KQ.z)); (apply GQ.step; focus (intro Z; refine GO.load1 rfl rfl rfl (Tk.t (Tk.t (Tk.t Tk.h))) rfl ?_; exact KQ.z)); (apply GQ.step; focus (intro Z; refine GO.lenS rfl rfl ?_; exact KQ.z)); (apply GQ.step; focus (intro Z; refine GO.gei rfl rfl rfl ?_; exact KQ.z)); (apply GQ.step; focus (intro Z; refine GO.move rfl rfl ?_; exact KQ.z)); (apply GQ.step; focus (intro Z; refine GO.gT rfl rfl (by assumption) ?_; refine GO.load1 rfl rfl rfl (Tk.t (Tk.t (Tk.t Tk.h))) rfl ?_; exact KQ.z)); (apply GQ.step; focus (intro Z; refine GO.gT rfl rfl (by assumption) ?_; refine GO.load1 rfl rfl rfl (Tk.t (Tk.t (Tk.t (Tk.t Tk.h)))) rfl ?_; exact KQ.z)); (apply GQ.step; focus (intro Z; refine GO.gT rfl rfl (by assumption) ?_; refine GO.idxS rfl rfl rfl ⟨rfl, by omega⟩ ?_; exact KQ.z)); (apply GQ.step; focus (intro Z; refine GO.gT rfl rfl (by assumption) ?_; refine GO.fieldAddr rfl rfl ?_; exact KQ.z)))
    apply GQ.step; focus (intro Z; refine GO.gT rfl rfl (by first | rfl | assumption) ?_; refine GO.loadM (vs := [i64 ((y / 16 : Nat) : Int), i64 ((y % 16 : Nat) : Int)]) rfl rfl rfl (Tk.t (Tk.t Tk.h)) rfl ra1 ?_; exact KQ.z)
    ((apply GQ.step; focus (intro Z; refine GO.gT rfl rfl (by assumption) ?_; refine GO.loadW rfl rfl rfl (Tk.t Tk.h) rfl ?_; exact KQ.z)))
    apply GQ.step; focus (intro Z; refine GO.gT rfl rfl (by first | rfl | assumption) ?_; refine GO.neqA hceq rfl rfl rfl ?_; exact KQ.z)
    ((apply GQ.step; focus (intro Z; refine GO.pickFa rfl rfl (by assumption) rfl ?_; exact KQ.z)); (apply GQ.step; focus (intro Z; refine GO.move rfl rfl ?_; exact KQ.z)); (apply GQ.step; focus (intro Z; refine GO.gT rfl rfl rfl ?_; refine GO.load1 rfl rfl rfl (Tk.t (Tk.t (Tk.t Tk.h))) rfl ?_; exact KQ.z)); (apply GQ.step; focus (intro Z; refine GO.gT rfl rfl rfl ?_; refine GO.load1 rfl rfl rfl (Tk.t (Tk.t (Tk.t (Tk.t Tk.h)))) rfl ?_; exact KQ.z)); (apply GQ.step; focus (intro Z; refine GO.gT rfl rfl rfl ?_; refine GO.idxS rfl rfl rfl ⟨rfl, by omega⟩ ?_; exact KQ.z)); (apply GQ.step; focus (intro Z; refine GO.gT rfl rfl rfl ?_; refine GO.fieldAddr rfl rfl ?_; exact KQ.z)))
    apply GQ.step; focus (intro Z; refine GO.gT rfl rfl (by first | rfl | assumption) ?_; refine GO.loadM (vs := cells (blkAt X (y / 16) (y % 16))) rfl rfl rfl (Tk.t (Tk.t Tk.h)) (cells_len _) ra2 ?_; exact KQ.z)
    ((apply GQ.step; focus (intro Z; refine GO.gT rfl rfl rfl ?_; refine GO.loadW rfl rfl rfl Tk.h (cells_len _) ?_; exact KQ.z)))
    apply GQ.step; focus (intro Z; refine GO.gT rfl rfl (by first | rfl | assumption) ?_; refine GO.neqA hbeq rfl rfl rfl ?_; exact KQ.z)
    ((apply GQ.step; focus (intro Z; refine GO.pickF rfl rfl rfl ?_; exact KQ.z)); refine GQ.nil ?_)
    (refine GO.nil ?_; refine kthen_n ?_; refine G.condF rfl rfl ?_; refine G.skip ?_; refine kthen_n ?_; refine G.region ?_; refine GO.load1 rfl rfl rfl (Tk.t (Tk.t (Tk.t (Tk.t Tk.h)))) rfl ?_; refine GO.addi rfl rfl rfl (by omega) ?_; refine GO.store1 rfl rfl rfl (Tk.t (Tk.t (Tk.t (Tk.t Tk.h)))) (by simp) ?_; refine GO.nil ?_; refine kblock_n ?_)
    refine kB_n (ImpS.sb ?_)
    ((refine Sb.c (Tk.t (Tk.t (Tk.t Tk.h))) ?_; refine Sb.c (Tk.t (Tk.t (Tk.t Tk.h))) ?_; refine Sb.c Tk.h ?_; refine Sb.c (Tk.t (Tk.t Tk.h)) ?_); (refine Sb.s ?_; refine Sb.s ?_; exact Sb.r))
  · rw [List.length_map]
    (refine kblock_n ?_; refine kthen_n ?_; refine G.seq ?_; refine G.region ?_; refine GO.load1 rfl rfl rfl (Tk.t (Tk.t Tk.h)) rfl ?_; refine GO.load1 rfl rfl rfl (Tk.t Tk.h) rfl ?_; refine GO.lenS rfl rfl ?_; refine GO.eqT rfl rfl rfl rfl ?_; refine GO.store1 rfl rfl rfl (Tk.t (Tk.t (Tk.t (Tk.t (Tk.t (Tk.t Tk.h)))))) (by decide) ?_; refine GO.nil ?_; refine kthen_n ?_; refine G.ret ?_)
    refine KF2.r1 rfl (RV.c1 rfl rfl (by (exact Tk.h)) rfl) ⟨rfl, rfl⟩ (ImpS.sb ?_)
    ((refine Sb.c (Tk.t (Tk.t (Tk.t (Tk.t Tk.h)))) ?_; refine Sb.c (Tk.t (Tk.t (Tk.t (Tk.t (Tk.t Tk.h))))) ?_); (refine Sb.s ?_; refine Sb.s ?_; refine Sb.s ?_; refine Sb.s ?_; refine Sb.s ?_; refine Sb.s ?_; exact Sb.r))
  · intro i jc hi
    exact G.pur fun h => h.elim
end Go.Proofs.YtfoahdfflchidaaDoor
namespace Go.Proofs.YtfoahdfflchidaaDoor
open Go
theorem G.midE {P : Program} {c : Cx} {K : Kont} {L : Env} {H : List HP} {σ : Type} {x y : Code} (S : σ → Env) (M : σ → List HP) (I : σ → Prop) (hx : G P c x (kthen (fun L' H' => ∃ s, I s ∧ SubE (S s) L' ∧ ImpS H' (M s)) K) L H) (hy : ∀ s, I s → G P c y K (S s) (M s)) : G P c x (kthen (fun L H => G P c y K L H) K) L H :=
  G.mono hx (fun e L' H' h => by
    cases e with
    | normal => obtain ⟨s, hi, hL, hH⟩ := h; exact G.subI hL hH (hy s hi)
    | _ => exact h)
/-- The program's matrix and the reference's, with their pieces. -/
structure PairS where
  b : Nat
  P : HP
  Z : HP
  o : OptM
  r : Value
structure PairOK (v : Value) (z : HP) (s : PairS) : Prop where
  mat : MatO s.P v s.o
  ref : RefO s.Z (refV (sideO s.o) s.r) s.o
  sup : Sup z s.Z
  wf : WfM s.o
  one : s.r.oneCell' = true
abbrev opV (d a b i j : Int) (u : Value) : Value := .agg #[i64 d, i64 a, i64 b, i64 i, i64 j, u]
attribute [local irreducible] G GO GR GT GW Fn FnV pt init exs pur sat own ImpS mat posL allV orL restX cellsX cellsV cntX lessX uniX rowX natsV lines plc swpL colsL blkTo placL orX pos2 hasB
set_option maxHeartbeats 32000000 in
theorem gone_law (q p z : HP) (hq : Tab q) (v ra : Value) (o : OptM) (ho : MatO p v o) (hra : RefO z ra o) (wo : WfM o) (d a b i j : Int) (u : Value) (hu : u.oneCell' = true) :
    Fn Tryd.prog 64 #[v, ra, opV d a b i j u] [p, z, q] (fun r Q => ∃ s : PairS, PairOK v z s ∧ r = .tuple #[refV (sideO s.o) s.r, .bool true] ∧ Q = [s.P, s.Z, q]) := by
  have hcs := ho.has.cells
  have hset := setE p v o wo ho i i
  have hrset := rSetE z ra o hra wo i i
  have wo2 := addS_wfM wo i i
  have hra0 := hra
  have ho0 := ho
  obtain ⟨va, rfl, hone, hsl⟩ := hra
  obtain ⟨pv, rfl⟩ := ho.has.ptr
  have hfit := cells_fit o
  have hcl := castL_len (cellsX (setO o))
  obtain ⟨aa, capa, rfl, hcap, hrdz⟩ := hsl
  rw [hcl] at hrset hra0 hone hrdz ⊢
  have dsd : sideO (addS o i i) = sideO o := by
    by_cases h : wrO (sideO o) i i = 0
    · unfold addS; rw [if_pos h]; rfl
    · rw [addS_no h]
  generalize hX : setO o = X at *
  generalize newG o i i = nb at hset hrset
  generalize wrO (sideO o) i i = ew at hset hrset
  have dnb : (nb == nb) = true := beq_self_eq_true nb
  have dew : decide (ew ≠ ew) = false := decide_eq_false fun h => h rfl
  refine Fn.mk2 Tryd.func64 rfl rfl fun w0 F => ?_
  (refine G.seq ?_; refine G.region ?_; refine GO.box rfl rfl rfl fun b4 => ?_; refine GO.box rfl rfl rfl fun b5 => ?_; refine GO.alloc rfl fun b6 => ?_; refine GO.alloc rfl fun b7 => ?_; refine GO.nil ?_; refine kthen_n ?_; refine G.seq ?_; refine G.region ?_; refine GO.move rfl rfl ?_)
  refine GO.call1 rfl rfl (hcs) (Tks.c (Tk.t (Tk.t (Tk.t (Tk.t Tk.h)))) Tks.n) ?_
  rintro _ _ ⟨bI, vI, rfl, rfl⟩
  (refine GO.assign rfl rfl ?_; refine GO.nil ?_; refine kthen_n ?_; refine G.seq ?_; refine G.seq ?_; refine G.region ?_; refine GO.move rfl rfl ?_)
  refine GO.eqNilF rfl rfl ?_
  (refine GO.nil ?_; refine kthen_n ?_; refine G.condF rfl rfl ?_; refine G.skip ?_; refine kthen_n ?_; refine G.seq ?_; refine G.region ?_; refine GO.loadW rfl rfl rfl (Tk.t (Tk.t (Tk.t (Tk.t (Tk.t Tk.h))))) rfl ?_; refine GO.alloc rfl fun b9 => ?_; refine GO.storeW rfl rfl Tk.h ⟨rfl, rfl⟩ (by simp [Value.oneCell']) ?_; refine GO.nil ?_; refine kthen_n ?_; refine G.seq ?_; refine G.seq ?_; refine G.region ?_; refine GO.fieldAddr rfl rfl ?_; refine GO.load1 rfl rfl rfl (Tk.t (Tk.t (Tk.t (Tk.t (Tk.t Tk.h))))) rfl ?_; refine GO.eqi rfl rfl rfl ?_; refine GO.nil ?_; refine kthen_n ?_)
  refine G.midE (σ := PairS) (fun s => [(0, .pointer pv), (4, ptrV b4), (5, ptrV b5), (6, ptrV b6), (7, ptrV b7), (8, .func (.func 41) #[] #[.pointer (some ⟨bI, 0, none⟩)]), (9, ptrV s.b)])
    (fun s => pt s.b (row [i64 (sideO s.o : Nat), s.r] 52) :: bkM X bI vI :: s.P :: s.Z :: q :: pt b4 (row [i64 (sideO o : Nat), .slice aa (cellsX X).length capa] 52) :: pt b5 (row [i64 d, i64 a, i64 b, i64 i, i64 j, u] 55) :: pt b6 (row [i64 0, .slice none 0 0] 52) :: pt b7 (row [.bool false] 4) :: F)
    (PairOK (.pointer pv) z) ?_ ?_
  · refine G.condD rfl (fun hj => ?_) (fun hj => ?_)
    · (refine G.seq ?_; refine G.region ?_; refine GO.move rfl rfl ?_; refine GO.fieldAddr rfl rfl ?_; refine GO.load1 rfl rfl rfl (Tk.t (Tk.t (Tk.t (Tk.t (Tk.t Tk.h))))) rfl ?_; refine GO.fieldAddr rfl rfl ?_; refine GO.load1 rfl rfl rfl (Tk.t (Tk.t (Tk.t (Tk.t (Tk.t Tk.h))))) rfl ?_)
      refine GO.call3 rfl rfl rfl rfl (hset) (Tks.c (Tk.t (Tk.t Tk.h)) Tks.n) ?_
      rintro _ _ ⟨p', rfl, hp', rfl⟩
      (refine GO.move rfl rfl ?_; refine GO.extract rfl rfl rfl ?_; refine GO.extract rfl rfl rfl ?_; refine GO.assign rfl rfl ?_; refine GO.assign rfl rfl ?_; refine GO.nil ?_; refine kthen_n ?_; refine G.seq ?_; refine G.region ?_; refine GO.loadW rfl rfl rfl (Tk.t (Tk.t (Tk.t (Tk.t (Tk.t (Tk.t Tk.h)))))) rfl ?_; refine GO.fieldAddr rfl rfl ?_; refine GO.load1 rfl rfl rfl (Tk.t (Tk.t (Tk.t (Tk.t (Tk.t Tk.h))))) rfl ?_; refine GO.fieldAddr rfl rfl ?_; refine GO.load1 rfl rfl rfl (Tk.t (Tk.t (Tk.t (Tk.t (Tk.t Tk.h))))) rfl ?_)
      refine GO.call3 rfl rfl rfl rfl (hrset) (Tks.c (Tk.t (Tk.t (Tk.t (Tk.t (Tk.t (Tk.t (Tk.t Tk.h))))))) Tks.n) ?_
      rintro _ _ ⟨r', z', rfl, hone', hr', hsup, rfl⟩
      (refine GO.move rfl rfl ?_; refine GO.extract rfl rfl rfl ?_; refine GO.extract rfl rfl rfl ?_; refine GO.extract rfl rfl rfl ?_; refine GO.alloc rfl fun b12 => ?_; refine GO.storeW rfl rfl Tk.h ⟨rfl, rfl⟩ (by simp [Value.oneCell']; assumption) ?_; refine GO.assign rfl rfl ?_; refine GO.assign rfl rfl ?_; refine GO.nil ?_; refine kthen_n ?_; refine G.seq ?_; refine G.seq ?_; refine G.region ?_; refine GO.move rfl rfl ?_; refine GO.move rfl rfl ?_; refine GO.neqB rfl rfl rfl ?_; refine GO.move rfl rfl ?_)
      rw [dnb]
      (refine GO.gT rfl rfl rfl ?_; refine GO.move rfl rfl ?_; refine GO.gT rfl rfl rfl ?_; refine GO.move rfl rfl ?_; refine GO.gT rfl rfl rfl ?_; refine GO.neF rfl rfl rfl rfl ?_; refine GO.pickF rfl rfl rfl ?_; refine GO.nil ?_; refine kthen_n ?_; refine G.condF rfl rfl ?_; refine G.skip ?_; refine kthen_n ?_; refine G.region ?_; refine GO.loadW rfl rfl rfl Tk.h rfl ?_; refine GO.storeW rfl rfl (Tk.t (Tk.t (Tk.t Tk.h))) ⟨rfl, rfl⟩ (by simp [Value.oneCell']; assumption) ?_; refine GO.nil ?_; refine kthen_n ?_)
      refine ⟨⟨b9, p', z', addS o i i, r'⟩, ⟨hp', by rw [dsd]; exact hr', hsup, wo2, hone'⟩, ?_, ?_⟩
      · (refine SubE.c rfl rfl ?_; refine SubE.c rfl rfl ?_; refine SubE.c rfl rfl ?_; refine SubE.c rfl rfl ?_; refine SubE.c rfl rfl ?_; refine SubE.c rfl rfl ?_; refine SubE.c rfl rfl ?_; exact SubE.n)
      · dsimp only
        rw [dsd]
        refine ImpS.sb ?_
        ((refine Sb.c Tk.h ?_; refine Sb.c (Tk.t (Tk.t (Tk.t Tk.h))) ?_; refine Sb.c (Tk.t (Tk.t Tk.h)) ?_; refine Sb.c (Tk.t Tk.h) ?_; refine Sb.c (Tk.t (Tk.t (Tk.t (Tk.t (Tk.t Tk.h))))) ?_; refine Sb.c (Tk.t (Tk.t (Tk.t (Tk.t Tk.h)))) ?_; refine Sb.c (Tk.t (Tk.t (Tk.t Tk.h))) ?_; refine Sb.c (Tk.t (Tk.t Tk.h)) ?_; refine Sb.c (Tk.t Tk.h) ?_); (refine Sb.s ?_; exact Sb.r))
    · (refine G.skip ?_; refine kthen_n ?_)
      refine ⟨⟨b9, p, z, o, .slice aa (cellsX X).length capa⟩, ⟨ho0, hra0, Sup.refl z, wo, rfl⟩, ?_, ?_⟩
      · (refine SubE.c rfl rfl ?_; refine SubE.c rfl rfl ?_; refine SubE.c rfl rfl ?_; refine SubE.c rfl rfl ?_; refine SubE.c rfl rfl ?_; refine SubE.c rfl rfl ?_; refine SubE.c rfl rfl ?_; exact SubE.n)
      · refine ImpS.sb ?_
        ((refine Sb.c Tk.h ?_; refine Sb.c Tk.h ?_; refine Sb.c Tk.h ?_; refine Sb.c (Tk.t (Tk.t (Tk.t (Tk.t Tk.h)))) ?_; refine Sb.c (Tk.t (Tk.t (Tk.t (Tk.t Tk.h)))) ?_; refine Sb.c (Tk.t (Tk.t (Tk.t Tk.h))) ?_; refine Sb.c (Tk.t (Tk.t Tk.h)) ?_; refine Sb.c (Tk.t Tk.h) ?_; refine Sb.c Tk.h ?_); (exact Sb.r))
  rintro ⟨bn, P', Z', o', r'⟩ hs
  obtain ⟨hP, hR, hsup, hw', hone'⟩ := hs
  dsimp only at hP hR hsup hw' hone' ⊢
  have hrdn : 0 < (cellsX X).length → ∃ bz oz, aa = some ⟨bz, oz, none⟩ ∧ ∀ k y, (cellsV (castL (cellsX X)))[k]? = some y → Rd Z' ⟨bz, oz + k, none⟩ y := fun h => by
    obtain ⟨bz, oz, e1, e2⟩ := hrdz h
    exact ⟨bz, oz, e1, fun k y hk => hsup _ _ (e2 k y hk)⟩
  (refine G.seq ?_; refine G.seq ?_; refine G.region ?_; refine GO.alloc rfl fun b15 => ?_; refine GO.store1 rfl rfl rfl Tk.h (by decide) ?_; refine GO.nil ?_; refine kthen_n ?_; refine G.block ?_)
  refine G.loop2 (fun (turn : Nat) (bt : Nat) => [(0, .pointer pv), (4, ptrV b4), (5, ptrV b5), (6, ptrV b6), (7, ptrV b7), (8, .func (.func 41) #[] #[.pointer (some ⟨bI, 0, none⟩)]), (9, ptrV bn), (15, ptrV bt)])
    (fun turn bt => pt bt (row [i64 (turn : Nat)] 3) :: pt bn (row [i64 (sideO o' : Nat), r'] 52) :: bkM X bI vI :: P' :: Z' :: q :: pt b4 (row [i64 (sideO o : Nat), .slice aa (cellsX X).length capa] 52) :: pt b5 (row [i64 d, i64 a, i64 b, i64 i, i64 j, u] 55) :: pt b6 (row [i64 0, .slice none 0 0] 52) :: pt b7 (row [.bool false] 4) :: F) (fun turn _ => turn ≤ 2) (fun turn _ => 2 - turn) 0 b15 (by omega) ?_ ?_ ?_
  · (refine SubE.c rfl rfl ?_; refine SubE.c rfl rfl ?_; refine SubE.c rfl rfl ?_; refine SubE.c rfl rfl ?_; refine SubE.c rfl rfl ?_; refine SubE.c rfl rfl ?_; refine SubE.c rfl rfl ?_; refine SubE.c rfl rfl ?_; exact SubE.n)
  · ((refine Sb.c Tk.h ?_; refine Sb.c Tk.h ?_; refine Sb.c Tk.h ?_; refine Sb.c Tk.h ?_; refine Sb.c Tk.h ?_; refine Sb.c Tk.h ?_; refine Sb.c Tk.h ?_; refine Sb.c Tk.h ?_; refine Sb.c Tk.h ?_; refine Sb.c Tk.h ?_); (exact Sb.r))
  intro turn bt ht
  (refine G.seq ?_; refine G.seq ?_; refine G.region ?_; refine GO.load1 rfl rfl rfl Tk.h rfl ?_; refine GO.lti rfl rfl rfl ?_; refine GO.nil ?_; refine kthen_n ?_)
  refine G.condD rfl (fun hlt => ?_) (fun hge => ?_)
  · have ht2 : turn < 2 := by omega
    (refine G.skip ?_; refine kthen_n ?_; refine G.seq ?_; refine G.block ?_; refine G.seq ?_; refine G.region ?_; refine GO.alloc rfl fun b16 => ?_; refine GO.store1 rfl rfl rfl Tk.h (by decide) ?_; refine GO.nil ?_; refine kthen_n ?_; refine G.seq ?_; refine G.seq ?_; refine G.region ?_; refine GO.move rfl rfl ?_; refine GO.nil ?_; refine kthen_n ?_; refine G.block ?_)
    refine G.midB [(0, .pointer pv), (4, ptrV b4), (5, ptrV b5), (6, ptrV b6), (7, ptrV b7), (8, .func (.func 41) #[] #[.pointer (some ⟨bI, 0, none⟩)]), (9, ptrV bn), (15, ptrV bt), (16, ptrV b16)]
      ((exs fun n : Nat => star [pur (turn = 1 → n = (cellsX X).length), pt b16 (row [i64 (n : Nat)] 3)]) :: pt bt (row [i64 (turn : Nat)] 3) :: pt bn (row [i64 (sideO o' : Nat), r'] 52) :: bkM X bI vI :: P' :: Z' :: q :: pt b4 (row [i64 (sideO o : Nat), .slice aa (cellsX X).length capa] 52) :: pt b5 (row [i64 d, i64 a, i64 b, i64 i, i64 j, u] 55) :: pt b6 (row [i64 0, .slice none 0 0] 52) :: pt b7 (row [.bool false] 4) :: F) ?_ ?_
    · refine G.rangeF (F := pt bn (row [i64 (sideO o' : Nat), r'] 52) :: P' :: pt b6 (row [i64 0, .slice none 0 0] 52) :: pt b7 (row [.bool false] 4) :: F) (psl := [62, 63]) (v := .func (.func 41) #[] #[.pointer (some ⟨bI, 0, none⟩)]) (xs := (cellsX X).map celV) (Sh := [q]) (Gm := [bkM X bI vI])
        (fun k => [pt b16 (row [i64 (k : Nat)] 3), pt bt (row [i64 (turn : Nat)] 3), Z', pt b4 (row [i64 (sideO o : Nat), .slice aa (cellsX X).length capa] 52), pt b5 (row [i64 d, i64 a, i64 b, i64 i, i64 j, u] 55)])
        (fun k jc => [pur (jc = .exit 2 ∧ turn = 0), pt b16 (row [i64 (k + 1 : Nat)] 3), pt bt (row [i64 (turn : Nat)] 3), Z', pt b4 (row [i64 (sideO o : Nat), .slice aa (cellsX X).length capa] 52), pt b5 (row [i64 d, i64 a, i64 b, i64 i, i64 j, u] 55)])
        (fun _ h => by cases h) rfl (fun u hu => by obtain ⟨p, _, rfl⟩ := List.mem_map.1 hu; rfl) rfl (mcells_seq q hq X bI vI) (by simp only [List.cons_append, List.nil_append, List.set_cons_zero, Int.natCast_zero]; (refine Tks.c Tk.h ?_; refine Tks.c Tk.h ?_; refine Tks.c (Tk.t (Tk.t (Tk.t Tk.h))) ?_; refine Tks.c (Tk.t (Tk.t (Tk.t (Tk.t Tk.h)))) ?_; refine Tks.c (Tk.t (Tk.t (Tk.t (Tk.t Tk.h)))) ?_; refine Tks.c (Tk.t (Tk.t (Tk.t Tk.h))) ?_; refine Tks.c (Tk.t Tk.h) ?_; exact Tks.n)) (fun lp Lr Lb w1 F1 k uu huu => ?_) ?_ ?_
      · obtain ⟨y, hy, rfl⟩ : ∃ y, (cellsX X)[k]? = some y ∧ uu = celV y := by
          rw [List.getElem?_map] at huu
          cases hcc : (cellsX X)[k]? with
          | none => simp [hcc] at huu
          | some y => simp [hcc] at huu; exact ⟨y, rfl, huu.symm⟩
        have hkl := (List.getElem?_eq_some_iff.1 hy).1
        have hpc : (castL (cellsX X))[k]? = some ((y.1 : Int), (y.2 : Int)) := by unfold castL; rw [List.getElem?_map, hy]; rfl
        obtain ⟨bz, oz, rfl, hr2⟩ := hrdn (by omega)
        have r1 : Rd Z' ⟨bz, oz + k * 2, none⟩ (i64 ((y.1 : Nat) : Int)) := hr2 _ _ (cellsV_get hpc).1
        have r2 : Rd Z' ⟨bz, oz + k * 2 + 1, none⟩ (i64 ((y.2 : Nat) : Int)) := hr2 _ _ (cellsV_get hpc).2
        have d1 : decide (((cellsX X).length : Int) ≤ (k : Int)) = false := decide_eq_false (by omega)
        have hceq := EqR.celC (d := 9998) ((y.1 : Int), (y.2 : Int)) ((y.1 : Int), (y.2 : Int))
        rw [decide_eq_true rfl] at hceq
        change G _ _ _ _ ((63, i64 (y.2 : Nat)) :: (62, i64 (y.1 : Nat)) :: _) (pt b16 (row [i64 (k : Nat)] 3) :: pt bt (row [i64 (turn : Nat)] 3) :: Z' :: pt b4 (row [i64 (sideO o : Nat), .slice (some ⟨bz, oz, none⟩) (cellsX X).length capa] 52) :: pt b5 (row [i64 d, i64 a, i64 b, i64 i, i64 j, u] 55) :: q :: F1)
        (refine G.seq ?_; refine G.region ?_; refine GO.assign rfl rfl ?_; refine GO.nil ?_; refine kthen_n ?_; refine G.region ?_; refine GO.assign rfl rfl ?_; refine GO.nil ?_)
        refine kA_n ?_
        (refine G.block ?_; refine G.seq ?_; refine G.seq ?_; refine G.region ?_; refine GO.load1 rfl rfl rfl Tk.h rfl ?_; refine GO.fieldAddr rfl rfl ?_; refine GO.load1 rfl rfl rfl (Tk.t (Tk.t (Tk.t Tk.h))) rfl ?_; refine GO.lenS rfl rfl ?_; refine GO.gei rfl rfl rfl ?_; refine GO.move rfl rfl ?_; refine GO.gT rfl rfl (by assumption) ?_; refine GO.fieldAddr rfl rfl ?_; refine GO.gT rfl rfl (by assumption) ?_; refine GO.load1 rfl rfl rfl (Tk.t (Tk.t (Tk.t Tk.h))) rfl ?_; refine GO.gT rfl rfl (by assumption) ?_; refine GO.load1 rfl rfl rfl Tk.h rfl ?_; refine GO.gT rfl rfl (by assumption) ?_; refine GO.idxS rfl rfl rfl ⟨rfl, by omega⟩ ?_; refine GO.gT rfl rfl (by assumption) ?_; refine GO.load2 rfl rfl rfl (Tk.t (Tk.t Tk.h)) (by assumption) (by assumption) ?_; refine GO.gT rfl rfl (by assumption) ?_; refine GO.move rfl rfl ?_; refine GO.gT rfl rfl (by assumption) ?_; refine GO.move rfl rfl ?_; refine GO.gT rfl rfl (by assumption) ?_; refine GO.build2 rfl rfl rfl rfl ?_; refine GO.gT rfl rfl (by assumption) ?_)
        refine GO.neqA hceq rfl rfl rfl ?_
        have hcase : turn = 0 ∨ turn = 1 := by omega
        rcases hcase with rfl | rfl
        · (refine GO.pickFa rfl rfl (by assumption) rfl ?_; refine GO.nil ?_; refine kthen_n ?_; refine G.condF rfl rfl ?_; refine G.skip ?_; refine kthen_n ?_; refine G.seq ?_; refine G.region ?_; refine GO.load1 rfl rfl rfl Tk.h rfl ?_; refine GO.addi rfl rfl rfl (by omega) ?_; refine GO.store1 rfl rfl rfl Tk.h (by simp) ?_; refine GO.nil ?_; refine kthen_n ?_; refine G.seq ?_; refine G.region ?_; refine GO.load1 rfl rfl rfl (Tk.t Tk.h) rfl ?_; refine GO.eqT rfl rfl rfl rfl ?_; refine GO.move rfl rfl ?_; refine GO.gT rfl rfl rfl ?_; refine GO.load1 rfl rfl rfl Tk.h rfl ?_; refine GO.gT rfl rfl rfl ?_; refine GO.fieldAddr rfl rfl ?_; refine GO.gT rfl rfl rfl ?_; refine GO.load1 rfl rfl rfl (Tk.t (Tk.t (Tk.t (Tk.t Tk.h)))) rfl ?_; refine GO.gT rfl rfl rfl ?_; refine GO.eqi rfl rfl rfl ?_; refine GO.pickT rfl rfl rfl ?_; refine GO.nil ?_; refine kthen_n ?_)
          refine G.condD rfl (fun hbr => ?_) (fun hbr => ?_)
          · (refine G.exit ?_; refine kblock_o rfl ?_)
            refine kB_x (ImpS.pur ⟨rfl, rfl⟩ (ImpS.sb ?_))
            try simp only [List.cons_append, List.nil_append]
            ((refine Sb.c Tk.h ?_; refine Sb.c Tk.h ?_; refine Sb.c Tk.h ?_; refine Sb.c Tk.h ?_; refine Sb.c Tk.h ?_; refine Sb.c Tk.h ?_); (exact Sb.r))
          · (refine G.skip ?_; refine kblock_n ?_)
            refine kB_n (ImpS.sb ?_)
            try simp only [List.cons_append, List.nil_append]
            ((refine Sb.c Tk.h ?_; refine Sb.c Tk.h ?_; refine Sb.c Tk.h ?_; refine Sb.c Tk.h ?_; refine Sb.c Tk.h ?_; refine Sb.c Tk.h ?_); (exact Sb.r))
        · (refine GO.pickFa rfl rfl (by assumption) rfl ?_; refine GO.nil ?_; refine kthen_n ?_; refine G.condF rfl rfl ?_; refine G.skip ?_; refine kthen_n ?_; refine G.seq ?_; refine G.region ?_; refine GO.load1 rfl rfl rfl Tk.h rfl ?_; refine GO.addi rfl rfl rfl (by omega) ?_; refine GO.store1 rfl rfl rfl Tk.h (by simp) ?_; refine GO.nil ?_; refine kthen_n ?_; refine G.seq ?_; refine G.region ?_; refine GO.load1 rfl rfl rfl (Tk.t Tk.h) rfl ?_; refine GO.eqi rfl rfl rfl ?_; refine GO.move rfl rfl ?_; refine GO.gF rfl rfl rfl rfl ?_; refine GO.gF rfl rfl rfl rfl ?_; refine GO.gF rfl rfl rfl rfl ?_; refine GO.gF rfl rfl rfl rfl ?_; refine GO.pickF rfl rfl rfl ?_; refine GO.nil ?_; refine kthen_n ?_; refine G.condF rfl rfl ?_; refine G.skip ?_; refine kblock_n ?_)
          refine kB_n (ImpS.sb ?_)
          try simp only [List.cons_append, List.nil_append]
          ((refine Sb.c Tk.h ?_; refine Sb.c Tk.h ?_; refine Sb.c Tk.h ?_; refine Sb.c Tk.h ?_; refine Sb.c Tk.h ?_; refine Sb.c Tk.h ?_); (exact Sb.r))
      · rw [List.length_map]
        refine kblock_n (kthen_n ⟨?_, ?_⟩)
        · (refine SubE.c rfl rfl ?_; refine SubE.c rfl rfl ?_; refine SubE.c rfl rfl ?_; refine SubE.c rfl rfl ?_; refine SubE.c rfl rfl ?_; refine SubE.c rfl rfl ?_; refine SubE.c rfl rfl ?_; refine SubE.c rfl rfl ?_; refine SubE.c rfl rfl ?_; exact SubE.n)
        · refine ImpS.exs (cellsX X).length (ImpS.flat (ImpS.pur (fun _ => rfl) (ImpS.sb ?_)))
          try simp only [List.cons_append, List.nil_append]
          ((refine Sb.c Tk.h ?_; refine Sb.c Tk.h ?_; refine Sb.c (Tk.t (Tk.t (Tk.t (Tk.t (Tk.t Tk.h))))) ?_; refine Sb.c (Tk.t (Tk.t (Tk.t (Tk.t Tk.h)))) ?_; refine Sb.c (Tk.t (Tk.t (Tk.t (Tk.t Tk.h)))) ?_; refine Sb.c Tk.h ?_; refine Sb.c (Tk.t (Tk.t Tk.h)) ?_; refine Sb.c Tk.h ?_; refine Sb.c Tk.h ?_; refine Sb.c Tk.h ?_; refine Sb.c Tk.h ?_); (exact Sb.r))
      · intro k jc hk
        refine G.pur fun ⟨e1, e2⟩ => ?_
        subst e1 e2
        refine G.exit (kblock_x (kthen_n ⟨?_, ?_⟩))
        · (refine SubE.c rfl rfl ?_; refine SubE.c rfl rfl ?_; refine SubE.c rfl rfl ?_; refine SubE.c rfl rfl ?_; refine SubE.c rfl rfl ?_; refine SubE.c rfl rfl ?_; refine SubE.c rfl rfl ?_; refine SubE.c rfl rfl ?_; refine SubE.c rfl rfl ?_; exact SubE.n)
        · refine ImpS.exs (k + 1) (ImpS.flat (ImpS.pur (fun h => by omega) (ImpS.sb ?_)))
          try simp only [List.cons_append, List.nil_append]
          ((refine Sb.c Tk.h ?_; refine Sb.c Tk.h ?_; refine Sb.c (Tk.t (Tk.t (Tk.t (Tk.t (Tk.t Tk.h))))) ?_; refine Sb.c (Tk.t (Tk.t (Tk.t (Tk.t Tk.h)))) ?_; refine Sb.c (Tk.t (Tk.t (Tk.t (Tk.t Tk.h)))) ?_; refine Sb.c Tk.h ?_; refine Sb.c (Tk.t (Tk.t Tk.h)) ?_; refine Sb.c Tk.h ?_; refine Sb.c Tk.h ?_; refine Sb.c Tk.h ?_; refine Sb.c Tk.h ?_); (exact Sb.r))
    · refine G.exs fun n => G.flat (G.pur fun hnN => ?_)
      try simp only [List.cons_append, List.nil_append]
      have hcase : turn = 0 ∨ turn = 1 := by omega
      rcases hcase with rfl | rfl
      · (refine G.seq ?_; refine G.region ?_; refine GO.load1 rfl rfl rfl (Tk.t Tk.h) rfl ?_; refine GO.eqi rfl rfl rfl ?_; refine GO.move rfl rfl ?_; refine GO.gF rfl rfl rfl rfl ?_; refine GO.gF rfl rfl rfl rfl ?_; refine GO.gF rfl rfl rfl rfl ?_; refine GO.gF rfl rfl rfl rfl ?_; refine GO.gF rfl rfl rfl rfl ?_; refine GO.pickF rfl rfl rfl ?_; refine GO.nil ?_; refine kthen_n ?_; refine G.condF rfl rfl ?_; refine G.skip ?_; refine kblock_n ?_; refine kthen_n ?_; refine G.seq ?_; refine G.seq ?_; refine G.region ?_; refine GO.load1 rfl rfl rfl (Tk.t Tk.h) rfl ?_; refine GO.nil ?_; refine kthen_n ?_; refine G.region ?_; refine GO.alloc rfl fun b15 => ?_; refine GO.store1 rfl rfl rfl Tk.h (by decide) ?_; refine GO.nil ?_; refine kthen_n ?_; refine G.region ?_; refine GO.load1 rfl rfl rfl Tk.h rfl ?_; refine GO.addi rfl rfl rfl (by omega) ?_; refine GO.store1 rfl rfl rfl Tk.h (by decide) ?_; refine GO.nil ?_; refine kthen_n ?_)
        refine ⟨1, b15, by omega, by omega, ?_, ?_⟩
        · (refine SubE.c rfl rfl ?_; refine SubE.c rfl rfl ?_; refine SubE.c rfl rfl ?_; refine SubE.c rfl rfl ?_; refine SubE.c rfl rfl ?_; refine SubE.c rfl rfl ?_; refine SubE.c rfl rfl ?_; refine SubE.c rfl rfl ?_; exact SubE.n)
        · ((refine Sb.c Tk.h ?_; refine Sb.c (Tk.t (Tk.t Tk.h)) ?_; refine Sb.c (Tk.t (Tk.t Tk.h)) ?_; refine Sb.c (Tk.t (Tk.t Tk.h)) ?_; refine Sb.c (Tk.t (Tk.t Tk.h)) ?_; refine Sb.c (Tk.t (Tk.t Tk.h)) ?_; refine Sb.c (Tk.t (Tk.t Tk.h)) ?_; refine Sb.c (Tk.t (Tk.t Tk.h)) ?_; refine Sb.c (Tk.t (Tk.t Tk.h)) ?_; refine Sb.c (Tk.t (Tk.t Tk.h)) ?_); (refine Sb.s ?_; refine Sb.s ?_; exact Sb.r))
      · obtain rfl := hnN rfl
        (refine G.seq ?_; refine G.region ?_; refine GO.load1 rfl rfl rfl (Tk.t Tk.h) rfl ?_; refine GO.eqT rfl rfl rfl rfl ?_; refine GO.move rfl rfl ?_; refine GO.gT rfl rfl rfl ?_; refine GO.load1 rfl rfl rfl Tk.h rfl ?_; refine GO.gT rfl rfl rfl ?_; refine GO.fieldAddr rfl rfl ?_; refine GO.gT rfl rfl rfl ?_; refine GO.load1 rfl rfl rfl (Tk.t (Tk.t (Tk.t (Tk.t (Tk.t (Tk.t (Tk.t Tk.h))))))) rfl ?_; refine GO.gT rfl rfl rfl ?_; refine GO.lenS rfl rfl ?_; refine GO.gT rfl rfl rfl ?_; refine GO.neF rfl rfl rfl rfl ?_; refine GO.pickT rfl rfl rfl ?_; refine GO.nil ?_; refine kthen_n ?_; refine G.condF rfl rfl ?_; refine G.skip ?_; refine kblock_n ?_; refine kthen_n ?_; refine G.seq ?_; refine G.seq ?_; refine G.region ?_; refine GO.load1 rfl rfl rfl (Tk.t Tk.h) rfl ?_; refine GO.nil ?_; refine kthen_n ?_; refine G.region ?_; refine GO.alloc rfl fun b15 => ?_; refine GO.store1 rfl rfl rfl Tk.h (by decide) ?_; refine GO.nil ?_; refine kthen_n ?_; refine G.region ?_; refine GO.load1 rfl rfl rfl Tk.h rfl ?_; refine GO.addi rfl rfl rfl (by omega) ?_; refine GO.store1 rfl rfl rfl Tk.h (by decide) ?_; refine GO.nil ?_; refine kthen_n ?_)
        refine ⟨2, b15, by omega, by omega, ?_, ?_⟩
        · (refine SubE.c rfl rfl ?_; refine SubE.c rfl rfl ?_; refine SubE.c rfl rfl ?_; refine SubE.c rfl rfl ?_; refine SubE.c rfl rfl ?_; refine SubE.c rfl rfl ?_; refine SubE.c rfl rfl ?_; refine SubE.c rfl rfl ?_; exact SubE.n)
        · ((refine Sb.c Tk.h ?_; refine Sb.c (Tk.t (Tk.t Tk.h)) ?_; refine Sb.c (Tk.t (Tk.t Tk.h)) ?_; refine Sb.c (Tk.t (Tk.t Tk.h)) ?_; refine Sb.c (Tk.t (Tk.t Tk.h)) ?_; refine Sb.c (Tk.t (Tk.t Tk.h)) ?_; refine Sb.c (Tk.t (Tk.t Tk.h)) ?_; refine Sb.c (Tk.t (Tk.t Tk.h)) ?_; refine Sb.c (Tk.t (Tk.t Tk.h)) ?_; refine Sb.c (Tk.t (Tk.t Tk.h)) ?_); (refine Sb.s ?_; refine Sb.s ?_; exact Sb.r))
  · obtain rfl : turn = 2 := by omega
    (refine G.exit ?_; refine kthen_x ?_; refine kthen_x ?_; refine kblock_x ?_; refine kthen_n ?_; refine G.seq ?_; refine G.region ?_; refine GO.loadW rfl rfl rfl (Tk.t Tk.h) rfl ?_; refine GO.storeW rfl rfl (Tk.t (Tk.t (Tk.t (Tk.t (Tk.t (Tk.t (Tk.t (Tk.t Tk.h)))))))) ⟨rfl, rfl⟩ (by simp [Value.oneCell']; assumption) ?_; refine GO.store1 rfl rfl rfl (Tk.t (Tk.t (Tk.t (Tk.t (Tk.t (Tk.t (Tk.t (Tk.t (Tk.t Tk.h))))))))) (by decide) ?_; refine GO.nil ?_; refine kthen_n ?_; refine G.ret ?_)
    refine KF2.r2 rfl (RV.cW (n := 2) rfl rfl (by (exact (Tk.t Tk.h))) rfl) (RV.c1 rfl rfl (by (exact Tk.h)) rfl) ⟨⟨bn, P', Z', o', r'⟩, ⟨hP, hR, hsup, hw', hone'⟩, rfl, rfl⟩ (ImpS.sb ?_)
    ((refine Sb.c (Tk.t (Tk.t (Tk.t (Tk.t (Tk.t Tk.h))))) ?_; refine Sb.c (Tk.t (Tk.t (Tk.t (Tk.t (Tk.t Tk.h))))) ?_; refine Sb.c (Tk.t (Tk.t (Tk.t (Tk.t (Tk.t Tk.h))))) ?_); (refine Sb.s ?_; refine Sb.s ?_; refine Sb.s ?_; refine Sb.s ?_; refine Sb.s ?_; refine Sb.s ?_; refine Sb.s ?_; exact Sb.r))
end Go.Proofs.YtfoahdfflchidaaDoor
namespace Go.Proofs.YtfoahdfflchidaaDoor
open Go
theorem addS_side (o : OptM) (i j : Int) : sideO (addS o i j) = sideO o := by
  by_cases h : wrO (sideO o) i j = 0
  · unfold addS; rw [if_pos h]; rfl
  · rw [addS_no h]
theorem putO_side (o : OptM) (i j : Int) (B : Blk) : sideO (putO o i j B) = sideO o := by
  by_cases h : wpO (sideO o) i j B = 0
  · unfold putO; rw [if_pos h]; rfl
  · rw [putO_no h]
theorem joinO_side (a b : OptM) : sideO (joinO a b) = sideO a := by
  cases a with
  | none => rfl
  | some p =>
    obtain ⟨s, X⟩ := p
    cases b with
    | none => rfl
    | some p2 =>
      obtain ⟨t, Y⟩ := p2
      by_cases h : s = t
      · subst h; rw [joinO_same]; rfl
      · rw [show joinO (some (s, X)) (some (t, Y)) = some (s, X) from if_neg h]
theorem SlC.one {q : HP} {v : Value} {l : List Cl} (h : SlC q v l) : v.oneCell' = true := by
  obtain ⟨a, cap, rfl, _⟩ := h; rfl
/-- What a step answers: it is right, and the two matrices are what they must be behind it. -/
def StepR (v : Value) (z q : HP) (r : Value) (Q : List HP) : Prop := ∃ s : PairS, PairOK v z s ∧ r = .tuple #[refV (sideO s.o) s.r, .bool true] ∧ Q = [s.P, s.Z, q]
attribute [local irreducible] G GO GR GT GW Fn FnV pt init exs pur sat own ImpS mat posL allV orL restX cellsX cellsV cntX lessX uniX rowX natsV lines plc swpL colsL blkTo placL orX pos2 hasB
set_option maxHeartbeats 16000000 in
theorem doneSet (q p z : HP) (v ra : Value) (o : OptM) (ho : MatO p v o) (hra : RefO z ra o) (wo : WfM o) (a b i j t : Int) (u vg : Value) (pm : Option Addr) (hu : u.oneCell' = true) (hg : vg.oneCell' = true) :
    Fn Tryd.prog 28 #[v, .pointer pm, ra, .agg #[i64 t, vg], opV 2 a b i j u] [p, z, q] (StepR v z q) := by
  have hset := setE p v o wo ho i j
  have hrset := rSetE z ra o hra wo i j
  have wo2 := addS_wfM wo i j
  have dsd := addS_side o i j
  obtain ⟨va, rfl, hone⟩ := hra.slR
  obtain ⟨pv, rfl⟩ := ho.has.ptr
  generalize newG o i j = nb at hset hrset
  generalize wrO (sideO o) i j = ew at hset hrset
  have dnb : (nb == nb) = true := beq_self_eq_true nb
  have dew : decide (ew = ew) = true := decide_eq_true rfl
  refine Fn.mk2 Tryd.func28 rfl rfl fun w0 F => ?_
  (refine G.seq ?_; refine G.region ?_; refine GO.box rfl rfl rfl fun b7 => ?_; refine GO.box rfl rfl rfl fun b8 => ?_; refine GO.box rfl rfl rfl fun b9 => ?_; refine GO.alloc rfl fun b10 => ?_; refine GO.assign rfl rfl ?_; refine GO.nil ?_; refine kthen_n ?_; refine G.seq ?_; refine G.seq ?_; refine G.region ?_; refine GO.fieldAddr rfl rfl ?_; refine GO.load1 rfl rfl rfl (Tk.t Tk.h) rfl ?_; refine GO.nil ?_; refine kthen_n ?_; refine G.block ?_; refine G.seq ?_; refine G.region ?_; refine GO.eqT rfl rfl rfl rfl ?_; refine GO.assign rfl rfl ?_; refine GO.nil ?_; refine kthen_n ?_; refine G.condT rfl rfl ?_; refine G.seq ?_; refine G.region ?_; refine GO.move rfl rfl ?_; refine GO.fieldAddr rfl rfl ?_; refine GO.load1 rfl rfl rfl (Tk.t Tk.h) rfl ?_; refine GO.fieldAddr rfl rfl ?_; refine GO.load1 rfl rfl rfl (Tk.t Tk.h) rfl ?_)
  refine GO.call3 rfl rfl rfl rfl (hset) (Tks.c (Tk.t (Tk.t (Tk.t (Tk.t Tk.h)))) Tks.n) ?_
  rintro _ _ ⟨p', rfl, hp', rfl⟩
  (refine GO.move rfl rfl ?_; refine GO.extract rfl rfl rfl ?_; refine GO.extract rfl rfl rfl ?_; refine GO.assign rfl rfl ?_; refine GO.assign rfl rfl ?_; refine GO.nil ?_; refine kthen_n ?_; refine G.seq ?_; refine G.region ?_; refine GO.loadW rfl rfl rfl (Tk.t (Tk.t (Tk.t (Tk.t Tk.h)))) rfl ?_; refine GO.fieldAddr rfl rfl ?_; refine GO.load1 rfl rfl rfl (Tk.t (Tk.t Tk.h)) rfl ?_; refine GO.fieldAddr rfl rfl ?_; refine GO.load1 rfl rfl rfl (Tk.t (Tk.t Tk.h)) rfl ?_)
  refine GO.call3 rfl rfl rfl rfl (hrset) (Tks.c (Tk.t (Tk.t (Tk.t (Tk.t (Tk.t Tk.h))))) Tks.n) ?_
  rintro _ _ ⟨r', z', rfl, hone', hr', hsup, rfl⟩
  (refine GO.move rfl rfl ?_; refine GO.extract rfl rfl rfl ?_; refine GO.extract rfl rfl rfl ?_; refine GO.extract rfl rfl rfl ?_; refine GO.alloc rfl fun b14 => ?_; refine GO.storeW rfl rfl Tk.h ⟨rfl, rfl⟩ (by simp [Value.oneCell']; assumption) ?_; refine GO.assign rfl rfl ?_; refine GO.assign rfl rfl ?_; refine GO.nil ?_; refine kthen_n ?_; refine G.seq ?_; refine G.region ?_; refine GO.loadW rfl rfl rfl Tk.h rfl ?_; refine GO.move rfl rfl ?_; refine GO.move rfl rfl ?_; refine GO.eqlT rfl rfl rfl rfl ?_; refine GO.move rfl rfl ?_; refine GO.gT rfl rfl rfl ?_; refine GO.move rfl rfl ?_; refine GO.gT rfl rfl rfl ?_; refine GO.move rfl rfl ?_; refine GO.gT rfl rfl rfl ?_; refine GO.eqT rfl rfl rfl rfl ?_; refine GO.pickT rfl rfl rfl ?_; refine GO.storeW rfl rfl (Tk.t (Tk.t (Tk.t Tk.h))) ⟨rfl, rfl⟩ (by simp [Value.oneCell']; assumption) ?_; refine GO.assign rfl rfl ?_; refine GO.nil ?_; refine kthen_n ?_; refine G.ret ?_; refine kblock_r ?_; refine kthen_r ?_)
  refine KF2.r2 rfl (RV.cW (n := 2) rfl rfl (by (exact Tk.h)) rfl) (RV.t rfl) ⟨⟨0, p', z', addS o i j, r'⟩, ⟨hp', by rw [dsd]; exact hr', hsup, wo2, hone'⟩, by rw [dsd], rfl⟩ (ImpS.sb ?_)
  ((refine Sb.c (Tk.t (Tk.t (Tk.t Tk.h))) ?_; refine Sb.c (Tk.t (Tk.t Tk.h)) ?_; refine Sb.c (Tk.t (Tk.t (Tk.t (Tk.t (Tk.t Tk.h))))) ?_); (refine Sb.s ?_; refine Sb.s ?_; refine Sb.s ?_; refine Sb.s ?_; refine Sb.s ?_; exact Sb.r))
set_option maxHeartbeats 16000000 in
theorem donePut (q p z : HP) (v ra : Value) (o : OptM) (ho : MatO p v o) (hra : RefO z ra o) (wo : WfM o) (a b i j t : Int) (u vg : Value) (L : List Cl) (pm : Option Addr) (hu : SlC q u L) (hl : L.length ≤ 9223372036854775807) (hg : vg.oneCell' = true) :
    Fn Tryd.prog 28 #[v, .pointer pm, ra, .agg #[i64 t, vg], opV 9 a b i j u] [p, z, q] (StepR v z q) := by
  have hu1 := hu.one
  have hf := fold_spec q u L hu.slR hl
  generalize foldB L = B at hf
  have hset := putE p v o wo ho i j B
  have hrset := rPutE z ra o hra wo i j B
  have wo2 := putO_wf wo i j B
  have dsd := putO_side o i j B
  obtain ⟨va, rfl, hone⟩ := hra.slR
  obtain ⟨pv, rfl⟩ := ho.has.ptr
  generalize putG o i j B = nb at hset hrset
  generalize wpO (sideO o) i j B = ew at hset hrset
  have dnb : (nb == nb) = true := beq_self_eq_true nb
  have dew : decide (ew = ew) = true := decide_eq_true rfl
  clear hu hl
  refine Fn.mk2 Tryd.func28 rfl rfl fun w0 F => ?_
  (refine G.seq ?_; refine G.region ?_; refine GO.box rfl rfl rfl fun b7 => ?_; refine GO.box rfl rfl rfl fun b8 => ?_; refine GO.box rfl rfl rfl fun b9 => ?_; refine GO.alloc rfl fun b10 => ?_; refine GO.assign rfl rfl ?_; refine GO.nil ?_; refine kthen_n ?_; refine G.seq ?_; refine G.seq ?_; refine G.region ?_; refine GO.fieldAddr rfl rfl ?_; refine GO.load1 rfl rfl rfl (Tk.t Tk.h) rfl ?_; refine GO.nil ?_; refine kthen_n ?_; refine G.block ?_; refine G.seq ?_; refine G.region ?_; refine GO.eqi rfl rfl rfl ?_; refine GO.assign rfl rfl ?_; refine GO.nil ?_; refine kthen_n ?_; refine G.condF rfl rfl ?_; refine G.seq ?_; refine G.region ?_; refine GO.eqi rfl rfl rfl ?_; refine GO.assign rfl rfl ?_; refine GO.nil ?_; refine kthen_n ?_; refine G.condF rfl rfl ?_; refine G.seq ?_; refine G.region ?_; refine GO.eqT rfl rfl rfl rfl ?_; refine GO.assign rfl rfl ?_; refine GO.nil ?_; refine kthen_n ?_; refine G.condT rfl rfl ?_; refine G.seq ?_; refine G.region ?_; refine GO.fieldAddr rfl rfl ?_; refine GO.load1 rfl rfl rfl (Tk.t Tk.h) rfl ?_)
  refine GO.call1 rfl rfl (hf) (Tks.c (Tk.t (Tk.t (Tk.t (Tk.t (Tk.t (Tk.t Tk.h)))))) Tks.n) ?_
  rintro _ _ ⟨rfl, rfl⟩
  (refine GO.alloc rfl fun b22 => ?_)
  rw [cells_zero]
  refine GO.storeW rfl rfl Tk.h ⟨cells_len _, cells_len _⟩ (cells_one _) ?_
  (refine GO.nil ?_; refine kthen_n ?_; refine G.seq ?_; refine G.region ?_; refine GO.move rfl rfl ?_; refine GO.fieldAddr rfl rfl ?_; refine GO.load1 rfl rfl rfl (Tk.t (Tk.t (Tk.t Tk.h))) rfl ?_; refine GO.fieldAddr rfl rfl ?_; refine GO.load1 rfl rfl rfl (Tk.t (Tk.t (Tk.t Tk.h))) rfl ?_; refine GO.loadW rfl rfl rfl Tk.h (cells_len _) ?_)
  refine GO.call4 rfl rfl rfl rfl rfl (hset) (Tks.c (Tk.t (Tk.t (Tk.t (Tk.t (Tk.t (Tk.t Tk.h)))))) Tks.n) ?_
  rintro _ _ ⟨p', rfl, hp', rfl⟩
  (refine GO.move rfl rfl ?_; refine GO.extract rfl rfl rfl ?_; refine GO.extract rfl rfl rfl ?_; refine GO.assign rfl rfl ?_; refine GO.assign rfl rfl ?_; refine GO.nil ?_; refine kthen_n ?_; refine G.seq ?_; refine G.region ?_; refine GO.loadW rfl rfl rfl (Tk.t (Tk.t (Tk.t (Tk.t (Tk.t (Tk.t Tk.h)))))) rfl ?_; refine GO.fieldAddr rfl rfl ?_; refine GO.load1 rfl rfl rfl (Tk.t (Tk.t (Tk.t (Tk.t Tk.h)))) rfl ?_; refine GO.fieldAddr rfl rfl ?_; refine GO.load1 rfl rfl rfl (Tk.t (Tk.t (Tk.t (Tk.t Tk.h)))) rfl ?_; refine GO.loadW rfl rfl rfl (Tk.t Tk.h) (cells_len _) ?_)
  refine GO.call4 rfl rfl rfl rfl rfl (hrset) (Tks.c (Tk.t (Tk.t (Tk.t (Tk.t (Tk.t (Tk.t (Tk.t Tk.h))))))) Tks.n) ?_
  rintro _ _ ⟨r', z', rfl, hone', hr', hsup, rfl⟩
  (refine GO.move rfl rfl ?_; refine GO.extract rfl rfl rfl ?_; refine GO.extract rfl rfl rfl ?_; refine GO.extract rfl rfl rfl ?_; refine GO.alloc rfl fun b25 => ?_; refine GO.storeW rfl rfl Tk.h ⟨rfl, rfl⟩ (by simp [Value.oneCell']; assumption) ?_; refine GO.assign rfl rfl ?_; refine GO.assign rfl rfl ?_; refine GO.nil ?_; refine kthen_n ?_; refine G.seq ?_; refine G.region ?_; refine GO.loadW rfl rfl rfl Tk.h rfl ?_; refine GO.move rfl rfl ?_; refine GO.move rfl rfl ?_; refine GO.eqlT rfl rfl rfl rfl ?_; refine GO.move rfl rfl ?_; refine GO.gT rfl rfl rfl ?_; refine GO.move rfl rfl ?_; refine GO.gT rfl rfl rfl ?_; refine GO.move rfl rfl ?_; refine GO.gT rfl rfl rfl ?_; refine GO.eqT rfl rfl rfl rfl ?_; refine GO.pickT rfl rfl rfl ?_; refine GO.storeW rfl rfl (Tk.t (Tk.t (Tk.t (Tk.t (Tk.t Tk.h))))) ⟨rfl, rfl⟩ (by simp [Value.oneCell']; assumption) ?_; refine GO.assign rfl rfl ?_; refine GO.nil ?_; refine kthen_n ?_; refine G.ret ?_; refine kblock_r ?_; refine kthen_r ?_)
  refine KF2.r2 rfl (RV.cW (n := 2) rfl rfl (by (exact Tk.h)) rfl) (RV.t rfl) ⟨⟨0, p', z', putO o i j B, r'⟩, ⟨hp', by rw [dsd]; exact hr', hsup, wo2, hone'⟩, by rw [dsd], rfl⟩ (ImpS.sb ?_)
  ((refine Sb.c (Tk.t (Tk.t (Tk.t Tk.h))) ?_; refine Sb.c (Tk.t (Tk.t Tk.h)) ?_; refine Sb.c (Tk.t (Tk.t (Tk.t Tk.h))) ?_); (refine Sb.s ?_; refine Sb.s ?_; refine Sb.s ?_; refine Sb.s ?_; refine Sb.s ?_; refine Sb.s ?_; exact Sb.r))
set_option maxHeartbeats 16000000 in
theorem doneJoin (q p p2 z : HP) (v v2 ra rb : Value) (o o2 : OptM) (ho : MatO p v o) (ho2 : MatO p2 v2 o2) (hra : RefO z ra o) (hrb : RefO z rb o2) (wo : WfM o) (wo2 : WfM o2) (a b i j : Int) (u : Value) (hu : u.oneCell' = true) :
    Fn Tryd.prog 28 #[v, v2, ra, rb, opV 7 a b i j u] [p, p2, z, q] (fun r Q => ∃ s : PairS, PairOK v z s ∧ r = .tuple #[refV (sideO s.o) s.r, .bool true] ∧ Q = [s.P, p2, s.Z, q]) := by
  have hset := joinE p p2 v v2 o o2 wo wo2 ho ho2
  have hrset := rJoinE z ra rb o o2 hra hrb wo wo2
  have wo3 := joinO_wf wo wo2
  have dsd := joinO_side o o2
  obtain ⟨va, rfl, hone⟩ := hra.slR
  obtain ⟨vb, rfl, hone2⟩ := hrb.slR
  obtain ⟨pv, rfl⟩ := ho.has.ptr
  obtain ⟨pv2, rfl⟩ := ho2.has.ptr
  generalize joinB o o2 = nb at hset hrset
  generalize pairE (sideO o) (sideO o2) = ew at hset hrset
  have dnb : (nb == nb) = true := beq_self_eq_true nb
  have dew : decide (ew = ew) = true := decide_eq_true rfl
  refine Fn.mk2 Tryd.func28 rfl rfl fun w0 F => ?_
  (refine G.seq ?_; refine G.region ?_; refine GO.box rfl rfl rfl fun b7 => ?_; refine GO.box rfl rfl rfl fun b8 => ?_; refine GO.box rfl rfl rfl fun b9 => ?_; refine GO.alloc rfl fun b10 => ?_; refine GO.assign rfl rfl ?_; refine GO.nil ?_; refine kthen_n ?_; refine G.seq ?_; refine G.seq ?_; refine G.region ?_; refine GO.fieldAddr rfl rfl ?_; refine GO.load1 rfl rfl rfl (Tk.t Tk.h) rfl ?_; refine GO.nil ?_; refine kthen_n ?_; refine G.block ?_; refine G.seq ?_; refine G.region ?_; refine GO.eqi rfl rfl rfl ?_; refine GO.assign rfl rfl ?_; refine GO.nil ?_; refine kthen_n ?_; refine G.condF rfl rfl ?_; refine G.seq ?_; refine G.region ?_; refine GO.eqT rfl rfl rfl rfl ?_; refine GO.assign rfl rfl ?_; refine GO.nil ?_; refine kthen_n ?_; refine G.condT rfl rfl ?_; refine G.seq ?_; refine G.region ?_; refine GO.move rfl rfl ?_; refine GO.move rfl rfl ?_)
  refine GO.call2 rfl rfl rfl (hset) (Tks.c (Tk.t (Tk.t (Tk.t (Tk.t Tk.h)))) (Tks.c (Tk.t (Tk.t (Tk.t (Tk.t Tk.h)))) Tks.n)) ?_
  rintro _ _ ⟨p', rfl, hp', rfl⟩
  (refine GO.move rfl rfl ?_; refine GO.extract rfl rfl rfl ?_; refine GO.extract rfl rfl rfl ?_; refine GO.assign rfl rfl ?_; refine GO.assign rfl rfl ?_; refine GO.nil ?_; refine kthen_n ?_; refine G.seq ?_; refine G.region ?_; refine GO.loadW rfl rfl rfl (Tk.t (Tk.t (Tk.t (Tk.t (Tk.t Tk.h))))) rfl ?_; refine GO.loadW rfl rfl rfl (Tk.t (Tk.t (Tk.t (Tk.t Tk.h)))) rfl ?_)
  refine GO.call2 rfl rfl rfl (hrset) (Tks.c (Tk.t (Tk.t (Tk.t (Tk.t (Tk.t (Tk.t Tk.h)))))) Tks.n) ?_
  rintro _ _ ⟨r', z', rfl, hone', hr', hsup, rfl⟩
  (refine GO.move rfl rfl ?_; refine GO.extract rfl rfl rfl ?_; refine GO.extract rfl rfl rfl ?_; refine GO.extract rfl rfl rfl ?_; refine GO.alloc rfl fun b19 => ?_; refine GO.storeW rfl rfl Tk.h ⟨rfl, rfl⟩ (by simp [Value.oneCell']; assumption) ?_; refine GO.assign rfl rfl ?_; refine GO.assign rfl rfl ?_; refine GO.nil ?_; refine kthen_n ?_; refine G.seq ?_; refine G.region ?_; refine GO.loadW rfl rfl rfl Tk.h rfl ?_; refine GO.move rfl rfl ?_; refine GO.move rfl rfl ?_; refine GO.eqlT rfl rfl rfl rfl ?_; refine GO.move rfl rfl ?_; refine GO.gT rfl rfl rfl ?_; refine GO.move rfl rfl ?_; refine GO.gT rfl rfl rfl ?_; refine GO.move rfl rfl ?_; refine GO.gT rfl rfl rfl ?_; refine GO.eqT rfl rfl rfl rfl ?_; refine GO.pickT rfl rfl rfl ?_; refine GO.storeW rfl rfl (Tk.t (Tk.t (Tk.t (Tk.t Tk.h)))) ⟨rfl, rfl⟩ (by simp [Value.oneCell']; assumption) ?_; refine GO.assign rfl rfl ?_; refine GO.nil ?_; refine kthen_n ?_; refine G.ret ?_; refine kblock_r ?_; refine kthen_r ?_)
  refine KF2.r2 rfl (RV.cW (n := 2) rfl rfl (by (exact Tk.h)) rfl) (RV.t rfl) ⟨⟨0, p', z', joinO o o2, r'⟩, ⟨hp', by rw [dsd]; exact hr', hsup, wo3, hone'⟩, by rw [dsd], rfl⟩ (ImpS.sb ?_)
  ((refine Sb.c (Tk.t (Tk.t (Tk.t Tk.h))) ?_; refine Sb.c (Tk.t (Tk.t (Tk.t Tk.h))) ?_; refine Sb.c (Tk.t (Tk.t Tk.h)) ?_; refine Sb.c (Tk.t (Tk.t (Tk.t (Tk.t (Tk.t Tk.h))))) ?_); (refine Sb.s ?_; refine Sb.s ?_; refine Sb.s ?_; refine Sb.s ?_; refine Sb.s ?_; exact Sb.r))
set_option maxHeartbeats 16000000 in
theorem doneJoinS (q p z : HP) (v ra : Value) (o : OptM) (ho : MatO p v o) (hra : RefO z ra o) (wo : WfM o) (a b i j : Int) (u : Value) (hu : u.oneCell' = true) :
    Fn Tryd.prog 28 #[v, v, ra, ra, opV 7 a b i j u] [p, z, q] (fun r Q => ∃ s : PairS, PairOK v z s ∧ s.o = o ∧ r = .tuple #[refV (sideO s.o) s.r, .bool true] ∧ Q = [s.P, s.Z, q]) := by
  have hset := joinS p v o wo ho
  have hrset := rJoinE z ra ra o o hra hra wo wo
  rw [joinO_self] at hrset
  have ho0 := ho
  obtain ⟨va, rfl, hone⟩ := hra.slR
  obtain ⟨pv, rfl⟩ := ho.has.ptr
  generalize joinB o o = nb at hset hrset
  generalize pairE (sideO o) (sideO o) = ew at hset hrset
  have dnb : (nb == nb) = true := beq_self_eq_true nb
  have dew : decide (ew = ew) = true := decide_eq_true rfl
  refine Fn.mk2 Tryd.func28 rfl rfl fun w0 F => ?_
  (refine G.seq ?_; refine G.region ?_; refine GO.box rfl rfl rfl fun b7 => ?_; refine GO.box rfl rfl rfl fun b8 => ?_; refine GO.box rfl rfl rfl fun b9 => ?_; refine GO.alloc rfl fun b10 => ?_; refine GO.assign rfl rfl ?_; refine GO.nil ?_; refine kthen_n ?_; refine G.seq ?_; refine G.seq ?_; refine G.region ?_; refine GO.fieldAddr rfl rfl ?_; refine GO.load1 rfl rfl rfl (Tk.t Tk.h) rfl ?_; refine GO.nil ?_; refine kthen_n ?_; refine G.block ?_; refine G.seq ?_; refine G.region ?_; refine GO.eqi rfl rfl rfl ?_; refine GO.assign rfl rfl ?_; refine GO.nil ?_; refine kthen_n ?_; refine G.condF rfl rfl ?_; refine G.seq ?_; refine G.region ?_; refine GO.eqT rfl rfl rfl rfl ?_; refine GO.assign rfl rfl ?_; refine GO.nil ?_; refine kthen_n ?_; refine G.condT rfl rfl ?_; refine G.seq ?_; refine G.region ?_; refine GO.move rfl rfl ?_; refine GO.move rfl rfl ?_)
  refine GO.call2 rfl rfl rfl (hset) (Tks.c (Tk.t (Tk.t (Tk.t (Tk.t Tk.h)))) Tks.n) ?_
  rintro _ _ ⟨rfl, rfl⟩
  (refine GO.move rfl rfl ?_; refine GO.extract rfl rfl rfl ?_; refine GO.extract rfl rfl rfl ?_; refine GO.assign rfl rfl ?_; refine GO.assign rfl rfl ?_; refine GO.nil ?_; refine kthen_n ?_; refine G.seq ?_; refine G.region ?_; refine GO.loadW rfl rfl rfl (Tk.t (Tk.t (Tk.t (Tk.t Tk.h)))) rfl ?_; refine GO.loadW rfl rfl rfl (Tk.t (Tk.t (Tk.t Tk.h))) rfl ?_)
  refine GO.call2 rfl rfl rfl (hrset) (Tks.c (Tk.t (Tk.t (Tk.t (Tk.t (Tk.t Tk.h))))) Tks.n) ?_
  rintro _ _ ⟨r', z', rfl, hone', hr', hsup, rfl⟩
  (refine GO.move rfl rfl ?_; refine GO.extract rfl rfl rfl ?_; refine GO.extract rfl rfl rfl ?_; refine GO.extract rfl rfl rfl ?_; refine GO.alloc rfl fun b19 => ?_; refine GO.storeW rfl rfl Tk.h ⟨rfl, rfl⟩ (by simp [Value.oneCell']; assumption) ?_; refine GO.assign rfl rfl ?_; refine GO.assign rfl rfl ?_; refine GO.nil ?_; refine kthen_n ?_; refine G.seq ?_; refine G.region ?_; refine GO.loadW rfl rfl rfl Tk.h rfl ?_; refine GO.move rfl rfl ?_; refine GO.move rfl rfl ?_; refine GO.eqlT rfl rfl rfl rfl ?_; refine GO.move rfl rfl ?_; refine GO.gT rfl rfl rfl ?_; refine GO.move rfl rfl ?_; refine GO.gT rfl rfl rfl ?_; refine GO.move rfl rfl ?_; refine GO.gT rfl rfl rfl ?_; refine GO.eqT rfl rfl rfl rfl ?_; refine GO.pickT rfl rfl rfl ?_; refine GO.storeW rfl rfl (Tk.t (Tk.t (Tk.t Tk.h))) ⟨rfl, rfl⟩ (by simp [Value.oneCell']; assumption) ?_; refine GO.assign rfl rfl ?_; refine GO.nil ?_; refine kthen_n ?_; refine G.ret ?_; refine kblock_r ?_; refine kthen_r ?_)
  refine KF2.r2 rfl (RV.cW (n := 2) rfl rfl (by (exact Tk.h)) rfl) (RV.t rfl) ⟨⟨0, p, z', o, r'⟩, ⟨ho0, hr', hsup, wo, hone'⟩, rfl, rfl, rfl⟩ (ImpS.sb ?_)
  ((refine Sb.c (Tk.t (Tk.t (Tk.t Tk.h))) ?_; refine Sb.c (Tk.t (Tk.t Tk.h)) ?_; refine Sb.c (Tk.t (Tk.t (Tk.t (Tk.t (Tk.t Tk.h))))) ?_); (refine Sb.s ?_; refine Sb.s ?_; refine Sb.s ?_; refine Sb.s ?_; refine Sb.s ?_; exact Sb.r))
set_option maxHeartbeats 16000000 in
theorem doneGone (q p z : HP) (hq : Tab q) (v ra : Value) (o : OptM) (ho : MatO p v o) (hra : RefO z ra o) (wo : WfM o) (a b i j t : Int) (u vg : Value) (pm : Option Addr) (hu : u.oneCell' = true) (hg : vg.oneCell' = true) :
    Fn Tryd.prog 28 #[v, .pointer pm, ra, .agg #[i64 t, vg], opV 11 a b i j u] [p, z, q] (StepR v z q) := by
  have hgo := gone_law q p z hq v ra o ho hra wo 11 a b i j u hu
  obtain ⟨va, rfl, hone⟩ := hra.slR
  obtain ⟨pv, rfl⟩ := ho.has.ptr
  refine Fn.mk2 Tryd.func28 rfl rfl fun w0 F => ?_
  (refine G.seq ?_; refine G.region ?_; refine GO.box rfl rfl rfl fun b7 => ?_; refine GO.box rfl rfl rfl fun b8 => ?_; refine GO.box rfl rfl rfl fun b9 => ?_; refine GO.alloc rfl fun b10 => ?_; refine GO.assign rfl rfl ?_; refine GO.nil ?_; refine kthen_n ?_; refine G.seq ?_; refine G.seq ?_; refine G.region ?_; refine GO.fieldAddr rfl rfl ?_; refine GO.load1 rfl rfl rfl (Tk.t Tk.h) rfl ?_; refine GO.nil ?_; refine kthen_n ?_; refine G.block ?_; refine G.seq ?_; refine G.region ?_; refine GO.eqi rfl rfl rfl ?_; refine GO.assign rfl rfl ?_; refine GO.nil ?_; refine kthen_n ?_; refine G.condF rfl rfl ?_; refine G.seq ?_; refine G.region ?_; refine GO.eqi rfl rfl rfl ?_; refine GO.assign rfl rfl ?_; refine GO.nil ?_; refine kthen_n ?_; refine G.condF rfl rfl ?_; refine G.seq ?_; refine G.region ?_; refine GO.eqi rfl rfl rfl ?_; refine GO.assign rfl rfl ?_; refine GO.nil ?_; refine kthen_n ?_; refine G.condF rfl rfl ?_; refine G.seq ?_; refine G.region ?_; refine GO.eqi rfl rfl rfl ?_; refine GO.assign rfl rfl ?_; refine GO.nil ?_; refine kthen_n ?_; refine G.condF rfl rfl ?_; refine G.seq ?_; refine G.region ?_; refine GO.eqi rfl rfl rfl ?_; refine GO.assign rfl rfl ?_; refine GO.nil ?_; refine kthen_n ?_; refine G.condF rfl rfl ?_; refine G.seq ?_; refine G.region ?_; refine GO.eqi rfl rfl rfl ?_; refine GO.assign rfl rfl ?_; refine GO.nil ?_; refine kthen_n ?_; refine G.condF rfl rfl ?_; refine G.seq ?_; refine G.region ?_; refine GO.eqT rfl rfl rfl rfl ?_; refine GO.assign rfl rfl ?_; refine GO.nil ?_; refine kthen_n ?_; refine G.condT rfl rfl ?_; refine G.seq ?_; refine G.region ?_; refine GO.move rfl rfl ?_; refine GO.loadW rfl rfl rfl (Tk.t (Tk.t (Tk.t Tk.h))) rfl ?_; refine GO.loadW rfl rfl rfl (Tk.t Tk.h) rfl ?_)
  refine GO.call3 rfl rfl rfl rfl (hgo) (Tks.c (Tk.t (Tk.t (Tk.t (Tk.t Tk.h)))) (Tks.c (Tk.t (Tk.t (Tk.t (Tk.t Tk.h)))) (Tks.c (Tk.t (Tk.t (Tk.t (Tk.t Tk.h)))) Tks.n))) ?_
  rintro _ _ ⟨s, hs, rfl, rfl⟩
  have hs1 := hs.one
  (refine GO.extract rfl rfl rfl ?_; refine GO.extract rfl rfl rfl ?_; refine GO.storeW rfl rfl (Tk.t (Tk.t (Tk.t Tk.h))) ⟨rfl, rfl⟩ (by simp [Value.oneCell']; assumption) ?_; refine GO.assign rfl rfl ?_; refine GO.nil ?_; refine kthen_n ?_; refine G.ret ?_; refine kblock_r ?_; refine kthen_r ?_)
  refine KF2.r2 rfl (RV.cW (n := 2) rfl rfl (by (exact Tk.h)) rfl) (RV.t rfl) ⟨s, hs, rfl, rfl⟩ (ImpS.sb ?_)
  ((refine Sb.c (Tk.t Tk.h) ?_; refine Sb.c (Tk.t Tk.h) ?_; refine Sb.c (Tk.t Tk.h) ?_); (refine Sb.s ?_; refine Sb.s ?_; refine Sb.s ?_; refine Sb.s ?_; exact Sb.r))
set_option maxHeartbeats 16000000 in
theorem doneBlocks (q p z : HP) (v ra : Value) (o : OptM) (ho : MatO p v o) (hra : RefO z ra o) (wo : WfM o) (a b i j t : Int) (u vg : Value) (pm : Option Addr) (hu : u.oneCell' = true) (hg : vg.oneCell' = true) :
    Fn Tryd.prog 28 #[v, .pointer pm, ra, .agg #[i64 t, vg], opV 12 a b i j u] [p, z, q] (StepR v z q) := by
  have hgo := blocks_law p z v ra o ho hra wo
  have ho0 := ho
  have hra0 := hra
  obtain ⟨va, rfl, hone⟩ := hra.slR
  obtain ⟨pv, rfl⟩ := ho.has.ptr
  refine Fn.mk2 Tryd.func28 rfl rfl fun w0 F => ?_
  (refine G.seq ?_; refine G.region ?_; refine GO.box rfl rfl rfl fun b7 => ?_; refine GO.box rfl rfl rfl fun b8 => ?_; refine GO.box rfl rfl rfl fun b9 => ?_; refine GO.alloc rfl fun b10 => ?_; refine GO.assign rfl rfl ?_; refine GO.nil ?_; refine kthen_n ?_; refine G.seq ?_; refine G.seq ?_; refine G.region ?_; refine GO.fieldAddr rfl rfl ?_; refine GO.load1 rfl rfl rfl (Tk.t Tk.h) rfl ?_; refine GO.nil ?_; refine kthen_n ?_; refine G.block ?_; refine G.seq ?_; refine G.region ?_; refine GO.eqi rfl rfl rfl ?_; refine GO.assign rfl rfl ?_; refine GO.nil ?_; refine kthen_n ?_; refine G.condF rfl rfl ?_; refine G.seq ?_; refine G.region ?_; refine GO.eqi rfl rfl rfl ?_; refine GO.assign rfl rfl ?_; refine GO.nil ?_; refine kthen_n ?_; refine G.condF rfl rfl ?_; refine G.seq ?_; refine G.region ?_; refine GO.eqi rfl rfl rfl ?_; refine GO.assign rfl rfl ?_; refine GO.nil ?_; refine kthen_n ?_; refine G.condF rfl rfl ?_; refine G.seq ?_; refine G.region ?_; refine GO.eqi rfl rfl rfl ?_; refine GO.assign rfl rfl ?_; refine GO.nil ?_; refine kthen_n ?_; refine G.condF rfl rfl ?_; refine G.seq ?_; refine G.region ?_; refine GO.eqi rfl rfl rfl ?_; refine GO.assign rfl rfl ?_; refine GO.nil ?_; refine kthen_n ?_; refine G.condF rfl rfl ?_; refine G.seq ?_; refine G.region ?_; refine GO.eqi rfl rfl rfl ?_; refine GO.assign rfl rfl ?_; refine GO.nil ?_; refine kthen_n ?_; refine G.condF rfl rfl ?_; refine G.seq ?_; refine G.region ?_; refine GO.eqi rfl rfl rfl ?_; refine GO.assign rfl rfl ?_; refine GO.nil ?_; refine kthen_n ?_; refine G.condF rfl rfl ?_; refine G.seq ?_; refine G.region ?_; refine GO.eqT rfl rfl rfl rfl ?_; refine GO.assign rfl rfl ?_; refine GO.nil ?_; refine kthen_n ?_; refine G.condT rfl rfl ?_; refine G.seq ?_)
  refine G.drawT 6 56 [pt b7 (row [i64 (sideO o : Nat), va] 52)] (pt b10 (row [i64 0, .slice none 0 0] 52) :: p :: z :: q :: F) (by kernel_rfl) (keys_of rfl) (ImpS.sb (by ((refine Sb.c (Tk.t (Tk.t (Tk.t Tk.h))) ?_; refine Sb.c Tk.h ?_; refine Sb.c (Tk.t (Tk.t Tk.h)) ?_; refine Sb.c (Tk.t (Tk.t Tk.h)) ?_; refine Sb.c (Tk.t (Tk.t Tk.h)) ?_); (refine Sb.s ?_; refine Sb.s ?_; exact Sb.r)))) ?_
  ((apply GR.step rfl; focus (intro Z; refine GO.loadW rfl rfl rfl Tk.h rfl ?_; exact KQ.z)); (apply GR.step rfl; focus (intro Z; refine GO.move rfl rfl ?_; exact KQ.z)); (apply GR.step rfl; focus (intro Z; refine GO.loadW rfl rfl rfl Tk.h rfl ?_; exact KQ.z)); refine GR.skip rfl ?_; refine GR.skip rfl ?_; refine GR.skip rfl ?_; refine GR.nil ?_)
  (repeat refine GT.skip rfl ?_)
  refine GT.step rfl ?_
  refine GO.call2 rfl rfl rfl (hgo) (Tks.c (Tk.t (Tk.t Tk.h)) (Tks.c (Tk.t (Tk.t Tk.h)) Tks.n)) ?_
  rintro _ _ ⟨rfl, rfl⟩
  refine GO.nil ⟨rfl, _, pt b10 (row [i64 0, .slice none 0 0] 52) :: p :: z :: q :: F, rfl, ImpS.sb (by ((refine Sb.c (Tk.t (Tk.t Tk.h)) ?_; refine Sb.c (Tk.t (Tk.t Tk.h)) ?_; refine Sb.c Tk.h ?_; refine Sb.c Tk.h ?_; refine Sb.c Tk.h ?_); (exact Sb.r))), ?_⟩
  (repeat refine GT.skip rfl ?_)
  refine GT.step rfl ?_
  refine GO.storeW rfl rfl (Tk.t Tk.h) ⟨rfl, rfl⟩ (by simp [Value.oneCell']; assumption) ?_
  refine GO.nil ⟨rfl, .tuple #[], pt b10 (row [i64 (sideO o : Nat), va] 52) :: p :: z :: q :: F, rfl, ImpS.sb (by ((refine Sb.c (Tk.t Tk.h) ?_; refine Sb.c Tk.h ?_; refine Sb.c Tk.h ?_; refine Sb.c Tk.h ?_; refine Sb.c Tk.h ?_); (exact Sb.r))), ?_⟩
  (repeat refine GT.skip rfl ?_)
  refine GT.step rfl ?_
  refine GO.assign rfl rfl ?_
  refine GO.nil ⟨rfl, _, _, rfl, ImpS.refl, ?_⟩
  refine GT.nil ?_
  (refine GO.nil ?_; refine kthen_n ?_; refine G.ret ?_; refine kblock_r ?_; refine kthen_r ?_)
  refine KF2.r2 rfl (RV.cW (n := 2) rfl rfl (by (exact (Tk.t Tk.h))) rfl) (RV.t rfl) ⟨⟨0, p, z, o, va⟩, ⟨ho0, hra0, Sup.refl z, wo, hone⟩, rfl, rfl⟩ (ImpS.sb ?_)
  ((refine Sb.c (Tk.t (Tk.t Tk.h)) ?_; refine Sb.c (Tk.t (Tk.t Tk.h)) ?_; refine Sb.c (Tk.t (Tk.t Tk.h)) ?_); (refine Sb.s ?_; refine Sb.s ?_; exact Sb.r))
set_option maxHeartbeats 16000000 in
theorem doneElse (d : Int) (h2 : d ≠ 2) (h3 : d ≠ 3) (h4 : d ≠ 4) (h7 : d ≠ 7) (h9 : d ≠ 9) (h10 : d ≠ 10) (h11 : d ≠ 11) (h12 : d ≠ 12) (q p z : HP) (v ra : Value) (o : OptM) (ho : MatO p v o) (hra : RefO z ra o) (wo : WfM o) (a b i j t : Int) (u vg : Value) (pm : Option Addr) (hu : u.oneCell' = true) (hg : vg.oneCell' = true) :
    Fn Tryd.prog 28 #[v, .pointer pm, ra, .agg #[i64 t, vg], opV d a b i j u] [p, z, q] (StepR v z q) := by
  have ho0 := ho
  have hra0 := hra
  obtain ⟨va, rfl, hone⟩ := hra.slR
  obtain ⟨pv, rfl⟩ := ho.has.ptr
  have d2 : decide (d = 2) = false := decide_eq_false h2
  have d3 : decide (d = 3) = false := decide_eq_false h3
  have d4 : decide (d = 4) = false := decide_eq_false h4
  have d7 : decide (d = 7) = false := decide_eq_false h7
  have d9 : decide (d = 9) = false := decide_eq_false h9
  have d10 : decide (d = 10) = false := decide_eq_false h10
  have d11 : decide (d = 11) = false := decide_eq_false h11
  have d12 : decide (d = 12) = false := decide_eq_false h12
  refine Fn.mk2 Tryd.func28 rfl rfl fun w0 F => ?_
  (refine G.seq ?_; refine G.region ?_; refine GO.box rfl rfl rfl fun b7 => ?_; refine GO.box rfl rfl rfl fun b8 => ?_; refine GO.box rfl rfl rfl fun b9 => ?_; refine GO.alloc rfl fun b10 => ?_; refine GO.assign rfl rfl ?_; refine GO.nil ?_; refine kthen_n ?_; refine G.seq ?_; refine G.seq ?_; refine G.region ?_; refine GO.fieldAddr rfl rfl ?_; refine GO.load1 rfl rfl rfl (Tk.t Tk.h) rfl ?_; refine GO.nil ?_; refine kthen_n ?_; refine G.block ?_; refine G.seq ?_; refine G.region ?_; refine GO.eqi rfl rfl rfl ?_; refine GO.assign rfl rfl ?_; refine GO.nil ?_; refine kthen_n ?_; refine G.condF rfl (by assumption) ?_; refine G.seq ?_; refine G.region ?_; refine GO.eqi rfl rfl rfl ?_; refine GO.assign rfl rfl ?_; refine GO.nil ?_; refine kthen_n ?_; refine G.condF rfl (by assumption) ?_; refine G.seq ?_; refine G.region ?_; refine GO.eqi rfl rfl rfl ?_; refine GO.assign rfl rfl ?_; refine GO.nil ?_; refine kthen_n ?_; refine G.condF rfl (by assumption) ?_; refine G.seq ?_; refine G.region ?_; refine GO.eqi rfl rfl rfl ?_; refine GO.assign rfl rfl ?_; refine GO.nil ?_; refine kthen_n ?_; refine G.condF rfl (by assumption) ?_; refine G.seq ?_; refine G.region ?_; refine GO.eqi rfl rfl rfl ?_; refine GO.assign rfl rfl ?_; refine GO.nil ?_; refine kthen_n ?_; refine G.condF rfl (by assumption) ?_; refine G.seq ?_; refine G.region ?_; refine GO.eqi rfl rfl rfl ?_; refine GO.assign rfl rfl ?_; refine GO.nil ?_; refine kthen_n ?_; refine G.condF rfl (by assumption) ?_; refine G.seq ?_; refine G.region ?_; refine GO.eqi rfl rfl rfl ?_; refine GO.assign rfl rfl ?_; refine GO.nil ?_; refine kthen_n ?_; refine G.condF rfl (by assumption) ?_; refine G.seq ?_; refine G.region ?_; refine GO.eqi rfl rfl rfl ?_; refine GO.assign rfl rfl ?_; refine GO.nil ?_; refine kthen_n ?_; refine G.condF rfl (by assumption) ?_; refine G.skip ?_; refine kblock_n ?_; refine kthen_n ?_; refine G.seq ?_; refine G.region ?_; refine GO.loadW rfl rfl rfl (Tk.t (Tk.t (Tk.t Tk.h))) rfl ?_; refine GO.storeW rfl rfl Tk.h ⟨rfl, rfl⟩ (by simp [Value.oneCell']; assumption) ?_; refine GO.assign rfl rfl ?_; refine GO.nil ?_; refine kthen_n ?_; refine G.ret ?_)
  refine KF2.r2 rfl (RV.cW (n := 2) rfl rfl (by (exact Tk.h)) rfl) (RV.t rfl) ⟨⟨0, p, z, o, va⟩, ⟨ho0, hra0, Sup.refl z, wo, hone⟩, rfl, rfl⟩ (ImpS.sb ?_)
  ((refine Sb.c (Tk.t (Tk.t (Tk.t (Tk.t Tk.h)))) ?_; refine Sb.c (Tk.t (Tk.t (Tk.t (Tk.t Tk.h)))) ?_; refine Sb.c (Tk.t (Tk.t (Tk.t (Tk.t Tk.h)))) ?_); (refine Sb.s ?_; refine Sb.s ?_; refine Sb.s ?_; refine Sb.s ?_; exact Sb.r))
end Go.Proofs.YtfoahdfflchidaaDoor
namespace Go.Proofs.YtfoahdfflchidaaDoor
open Go
theorem rHasG (z : HP) (ra : Value) (o : OptM) (hra : RefO z ra o) (wo : WfM o) (i j : Int) (h : wrO (sideO o) i j = 0) :
    Fn Tryd.prog 60 #[ra, i64 i, i64 j] [z] (fun v Q => v = .bool (hasG o i j) ∧ Q = [z]) := by
  rcases wrO_cases o wo i j with h0 | ⟨s, X, m, n, rfl, rfl, rfl, hm, hn, h1, h2, hx⟩
  · exact absurd h h0
  · rw [hasG_in X h1 hm hn]
    have e := rHas_spec z ra s X hra h2 hx (m : Nat) (n : Nat)
    rw [Int.toNat_natCast, Int.toNat_natCast, decide_eq_true (by omega), decide_eq_true (by omega), Bool.true_and, Bool.true_and] at e
    exact e
attribute [local irreducible] G GO GR GT GW Fn FnV pt init exs pur sat own ImpS mat posL allV orL restX cellsX cellsV cntX lessX uniX rowX natsV lines plc swpL colsL blkTo placL orX pos2 hasB
set_option maxHeartbeats 16000000 in
theorem doneGet (q p z : HP) (v ra : Value) (o : OptM) (ho : MatO p v o) (hra : RefO z ra o) (wo : WfM o) (a b i j t : Int) (u vg : Value) (pm : Option Addr) (hu : u.oneCell' = true) (hg : vg.oneCell' = true) :
    Fn Tryd.prog 28 #[v, .pointer pm, ra, .agg #[i64 t, vg], opV 3 a b i j u] [p, z, q] (StepR v z q) := by
  have hget := getE p v o wo ho i j
  have hhas := rHasG z ra o hra wo i j
  have hno := hasG_no (o := o) (i := i) (j := j)
  have ho0 := ho
  have hra0 := hra
  obtain ⟨va, rfl, hone⟩ := hra.slR
  obtain ⟨pv, rfl⟩ := ho.has.ptr
  have hW := refWrong2 (sideO o) i j va hone
  generalize hasG o i j = nb at hget hhas hno
  generalize wrO (sideO o) i j = ew at hget hhas hno hW
  have dnb : (nb == nb) = true := beq_self_eq_true nb
  have dew : decide (ew = ew) = true := decide_eq_true rfl
  refine Fn.mk2 Tryd.func28 rfl rfl fun w0 F => ?_
  (refine G.seq ?_; refine G.region ?_; refine GO.box rfl rfl rfl fun b7 => ?_; refine GO.box rfl rfl rfl fun b8 => ?_; refine GO.box rfl rfl rfl fun b9 => ?_; refine GO.alloc rfl fun b10 => ?_; refine GO.assign rfl rfl ?_; refine GO.nil ?_; refine kthen_n ?_; refine G.seq ?_; refine G.seq ?_; refine G.region ?_; refine GO.fieldAddr rfl rfl ?_; refine GO.load1 rfl rfl rfl (Tk.t Tk.h) rfl ?_; refine GO.nil ?_; refine kthen_n ?_; refine G.block ?_; refine G.seq ?_; refine G.region ?_; refine GO.eqi rfl rfl rfl ?_; refine GO.assign rfl rfl ?_; refine GO.nil ?_; refine kthen_n ?_; refine G.condF rfl rfl ?_; refine G.seq ?_; refine G.region ?_; refine GO.eqi rfl rfl rfl ?_; refine GO.assign rfl rfl ?_; refine GO.nil ?_; refine kthen_n ?_; refine G.condF rfl rfl ?_; refine G.seq ?_; refine G.region ?_; refine GO.eqi rfl rfl rfl ?_; refine GO.assign rfl rfl ?_; refine GO.nil ?_; refine kthen_n ?_; refine G.condF rfl rfl ?_; refine G.seq ?_; refine G.region ?_; refine GO.eqT rfl rfl rfl rfl ?_; refine GO.assign rfl rfl ?_; refine GO.nil ?_; refine kthen_n ?_; refine G.condT rfl rfl ?_; refine G.seq ?_; refine G.region ?_; refine GO.move rfl rfl ?_; refine GO.fieldAddr rfl rfl ?_; refine GO.load1 rfl rfl rfl (Tk.t Tk.h) rfl ?_; refine GO.fieldAddr rfl rfl ?_; refine GO.load1 rfl rfl rfl (Tk.t Tk.h) rfl ?_)
  refine GO.call3 rfl rfl rfl rfl (hget) (Tks.c (Tk.t (Tk.t (Tk.t (Tk.t Tk.h)))) Tks.n) ?_
  rintro _ _ ⟨rfl, rfl⟩
  (refine GO.move rfl rfl ?_; refine GO.extract rfl rfl rfl ?_; refine GO.extract rfl rfl rfl ?_; refine GO.assign rfl rfl ?_; refine GO.assign rfl rfl ?_; refine GO.nil ?_; refine kthen_n ?_; refine G.seq ?_; refine G.region ?_; refine GO.loadW rfl rfl rfl (Tk.t (Tk.t (Tk.t (Tk.t Tk.h)))) rfl ?_; refine GO.fieldAddr rfl rfl ?_; refine GO.load1 rfl rfl rfl (Tk.t (Tk.t Tk.h)) rfl ?_; refine GO.fieldAddr rfl rfl ?_; refine GO.load1 rfl rfl rfl (Tk.t (Tk.t Tk.h)) rfl ?_)
  refine GO.call3 rfl rfl rfl rfl (hW) Tks.n ?_
  rintro _ _ ⟨rfl, rfl⟩
  (refine GO.assign rfl rfl ?_; refine GO.nil ?_; refine kthen_n ?_; refine G.seq ?_)
  refine G.drawT 20 786432 [pt b7 (row [i64 (sideO o : Nat), va] 52), pt b9 (row [i64 3, i64 a, i64 b, i64 i, i64 j, u] 55), z] (pt b10 (row [i64 0, .slice none 0 0] 52) :: p :: q :: F) (by kernel_rfl) (keys_of rfl) (ImpS.sb (by ((refine Sb.c (Tk.t (Tk.t (Tk.t (Tk.t Tk.h)))) ?_; refine Sb.c (Tk.t (Tk.t Tk.h)) ?_; refine Sb.c (Tk.t (Tk.t (Tk.t Tk.h))) ?_; refine Sb.c (Tk.t Tk.h) ?_; refine Sb.c Tk.h ?_; refine Sb.c (Tk.t Tk.h) ?_); (refine Sb.s ?_; exact Sb.r)))) ?_
  cases d0 : decide (ew = 0) with
  | false =>
    have hnb := hno (of_decide_eq_false d0)
    subst hnb
    have dff : (false == false) = true := rfl
    ((apply GR.step rfl; focus (intro Z; refine GO.loadW rfl rfl rfl Tk.h rfl ?_; exact KQ.z)); (apply GR.step rfl; focus (intro Z; refine GO.move rfl rfl ?_; exact KQ.z)); (apply GR.step rfl; focus (intro Z; refine GO.move rfl rfl ?_; exact KQ.z)); (apply GR.step rfl; focus (intro Z; refine GO.eqT rfl rfl rfl rfl ?_; exact KQ.z)); (apply GR.step rfl; focus (intro Z; refine GO.move rfl rfl ?_; exact KQ.z)); (apply GR.step rfl; focus (intro Z; refine GO.gT rfl rfl rfl ?_; refine GO.move rfl rfl ?_; exact KQ.z)); (apply GR.step rfl; focus (intro Z; refine GO.gT rfl rfl rfl ?_; refine GO.move rfl rfl ?_; exact KQ.z)); (apply GR.step rfl; focus (intro Z; refine GO.gT rfl rfl rfl ?_; refine GO.eqi rfl rfl rfl ?_; exact KQ.z)); (apply GR.step rfl; focus (intro Z; refine GO.gT rfl rfl rfl ?_; refine GO.move rfl rfl ?_; exact KQ.z)); (apply GR.step rfl; focus (intro Z; refine GO.gF rfl rfl rfl (by assumption) ?_; exact KQ.z)); (apply GR.step rfl; focus (intro Z; refine GO.gF rfl rfl rfl (by assumption) ?_; exact KQ.z)); (apply GR.step rfl; focus (intro Z; refine GO.gF rfl rfl rfl (by assumption) ?_; exact KQ.z)); (apply GR.step rfl; focus (intro Z; refine GO.gF rfl rfl rfl (by assumption) ?_; exact KQ.z)); (apply GR.step rfl; focus (intro Z; refine GO.gF rfl rfl rfl (by assumption) ?_; exact KQ.z)); (apply GR.step rfl; focus (intro Z; refine GO.gF rfl rfl rfl (by assumption) ?_; exact KQ.z)); (apply GR.step rfl; focus (intro Z; refine GO.gT rfl rfl rfl ?_; refine GO.pickFa rfl rfl (by assumption) rfl ?_; exact KQ.z)); (apply GR.step rfl; focus (intro Z; refine GO.gT rfl rfl rfl ?_; refine GO.eqlT rfl rfl rfl rfl ?_; exact KQ.z)); (apply GR.step rfl; focus (intro Z; refine GO.pickT rfl rfl rfl ?_; exact KQ.z)); refine GR.skip rfl ?_; refine GR.skip rfl ?_; refine GR.nil ?_)
    (repeat refine GT.skip rfl ?_)
    refine GT.step rfl ?_
    refine GO.storeW rfl rfl (Tk.t (Tk.t (Tk.t Tk.h))) ⟨rfl, rfl⟩ (by simp [Value.oneCell']; assumption) ?_
    refine GO.nil ⟨rfl, .tuple #[], pt b10 (row [i64 (sideO o : Nat), va] 52) :: p :: q :: F, rfl, ImpS.sb (by ((refine Sb.c (Tk.t Tk.h) ?_; refine Sb.c (Tk.t Tk.h) ?_; refine Sb.c (Tk.t Tk.h) ?_; refine Sb.c Tk.h ?_; refine Sb.c Tk.h ?_; refine Sb.c Tk.h ?_); (exact Sb.r))), ?_⟩
    (repeat refine GT.skip rfl ?_)
    refine GT.step rfl ?_
    refine GO.assign rfl rfl ?_
    refine GO.nil ⟨rfl, _, _, rfl, ImpS.refl, ?_⟩
    refine GT.nil ?_
    (refine GO.nil ?_; refine kthen_n ?_; refine G.ret ?_; refine kblock_r ?_; refine kthen_r ?_)
    refine KF2.r2 rfl (RV.cW (n := 2) rfl rfl (by (exact (Tk.t (Tk.t (Tk.t Tk.h))))) rfl) (RV.t rfl) ⟨⟨0, p, z, o, va⟩, ⟨ho0, hra0, Sup.refl z, wo, hone⟩, rfl, rfl⟩ (ImpS.sb ?_)
    ((refine Sb.c (Tk.t (Tk.t (Tk.t (Tk.t Tk.h)))) ?_; refine Sb.c (Tk.t (Tk.t Tk.h)) ?_; refine Sb.c (Tk.t (Tk.t (Tk.t Tk.h))) ?_); (refine Sb.s ?_; refine Sb.s ?_; refine Sb.s ?_; exact Sb.r))
  | true =>
    have hh := hhas (of_decide_eq_true d0)
    ((apply GR.step rfl; focus (intro Z; refine GO.loadW rfl rfl rfl Tk.h rfl ?_; exact KQ.z)); (apply GR.step rfl; focus (intro Z; refine GO.move rfl rfl ?_; exact KQ.z)); (apply GR.step rfl; focus (intro Z; refine GO.move rfl rfl ?_; exact KQ.z)); (apply GR.step rfl; focus (intro Z; refine GO.eqT rfl rfl rfl rfl ?_; exact KQ.z)); (apply GR.step rfl; focus (intro Z; refine GO.move rfl rfl ?_; exact KQ.z)); (apply GR.step rfl; focus (intro Z; refine GO.gT rfl rfl rfl ?_; refine GO.move rfl rfl ?_; exact KQ.z)); (apply GR.step rfl; focus (intro Z; refine GO.gT rfl rfl rfl ?_; refine GO.move rfl rfl ?_; exact KQ.z)); (apply GR.step rfl; focus (intro Z; refine GO.gT rfl rfl rfl ?_; refine GO.eqi rfl rfl rfl ?_; exact KQ.z)); (apply GR.step rfl; focus (intro Z; refine GO.gT rfl rfl rfl ?_; refine GO.move rfl rfl ?_; exact KQ.z)); (apply GR.step rfl; focus (intro Z; refine GO.gT rfl rfl (by assumption) ?_; refine GO.loadW rfl rfl rfl Tk.h rfl ?_; exact KQ.z)); (apply GR.step rfl; focus (intro Z; refine GO.gT rfl rfl (by assumption) ?_; refine GO.fieldAddr rfl rfl ?_; exact KQ.z)); (apply GR.step rfl; focus (intro Z; refine GO.gT rfl rfl (by assumption) ?_; refine GO.load1 rfl rfl rfl (Tk.t Tk.h) rfl ?_; exact KQ.z)); (apply GR.step rfl; focus (intro Z; refine GO.gT rfl rfl (by assumption) ?_; refine GO.fieldAddr rfl rfl ?_; exact KQ.z)); (apply GR.step rfl; focus (intro Z; refine GO.gT rfl rfl (by assumption) ?_; refine GO.load1 rfl rfl rfl (Tk.t Tk.h) rfl ?_; exact KQ.z)))
    apply GR.step rfl; focus (intro Z; refine GO.gT rfl rfl (by first | rfl | assumption) ?_; refine GO.call3 rfl rfl rfl rfl (hh) (Tks.c (Tk.t (Tk.t Tk.h)) Tks.n) ?_; rintro _ _ ⟨rfl, rfl⟩; refine GO.nil (KQ.s ?_); ((refine Sb.c (Tk.t Tk.h) ?_; refine Sb.c (Tk.t Tk.h) ?_; refine Sb.c Tk.h ?_); (exact Sb.r)))
    ((apply GR.step rfl; focus (intro Z; refine GO.gT rfl rfl rfl ?_; refine GO.pickTa rfl rfl (by assumption) rfl ?_; exact KQ.z)); (apply GR.step rfl; focus (intro Z; refine GO.gT rfl rfl rfl ?_; refine GO.eqlT rfl rfl rfl rfl ?_; exact KQ.z)); (apply GR.step rfl; focus (intro Z; refine GO.pickT rfl rfl rfl ?_; exact KQ.z)); refine GR.skip rfl ?_; refine GR.skip rfl ?_; refine GR.nil ?_)
    (repeat refine GT.skip rfl ?_)
    refine GT.step rfl ?_
    refine GO.storeW rfl rfl (Tk.t (Tk.t (Tk.t Tk.h))) ⟨rfl, rfl⟩ (by simp [Value.oneCell']; assumption) ?_
    refine GO.nil ⟨rfl, .tuple #[], pt b10 (row [i64 (sideO o : Nat), va] 52) :: p :: q :: F, rfl, ImpS.sb (by ((refine Sb.c (Tk.t Tk.h) ?_; refine Sb.c (Tk.t Tk.h) ?_; refine Sb.c (Tk.t Tk.h) ?_; refine Sb.c Tk.h ?_; refine Sb.c Tk.h ?_; refine Sb.c Tk.h ?_); (exact Sb.r))), ?_⟩
    (repeat refine GT.skip rfl ?_)
    refine GT.step rfl ?_
    refine GO.assign rfl rfl ?_
    refine GO.nil ⟨rfl, _, _, rfl, ImpS.refl, ?_⟩
    refine GT.nil ?_
    (refine GO.nil ?_; refine kthen_n ?_; refine G.ret ?_; refine kblock_r ?_; refine kthen_r ?_)
    refine KF2.r2 rfl (RV.cW (n := 2) rfl rfl (by (exact (Tk.t (Tk.t (Tk.t Tk.h))))) rfl) (RV.t rfl) ⟨⟨0, p, z, o, va⟩, ⟨ho0, hra0, Sup.refl z, wo, hone⟩, rfl, rfl⟩ (ImpS.sb ?_)
    ((refine Sb.c (Tk.t (Tk.t (Tk.t (Tk.t Tk.h)))) ?_; refine Sb.c (Tk.t (Tk.t Tk.h)) ?_; refine Sb.c (Tk.t (Tk.t (Tk.t Tk.h))) ?_); (refine Sb.s ?_; refine Sb.s ?_; refine Sb.s ?_; exact Sb.r))
set_option maxHeartbeats 16000000 in
theorem doneBlock (q p z : HP) (v ra : Value) (o : OptM) (ho : MatO p v o) (hra : RefO z ra o) (wo : WfM o) (a b i j t : Int) (u vg : Value) (pm : Option Addr) (hu : u.oneCell' = true) (hg : vg.oneCell' = true) :
    Fn Tryd.prog 28 #[v, .pointer pm, ra, .agg #[i64 t, vg], opV 10 a b i j u] [p, z, q] (StepR v z q) := by
  have hget := blockE p v o wo ho i j
  have hrb := rBlockE z ra o hra wo i j
  have ho0 := ho
  have hra0 := hra
  obtain ⟨va, rfl, hone⟩ := hra.slR
  obtain ⟨pv, rfl⟩ := ho.has.ptr
  generalize blkG o i j = B at hget hrb
  generalize wbO (sideO o) i j = ew at hget hrb
  have dew : decide (ew = ew) = true := decide_eq_true rfl
  have hbeq : EqR Tryd.prog 10000 77 (.agg (cells B).toArray) (.agg (cells B).toArray) true := EqR.blkT fun i hi => rfl
  refine Fn.mk2 Tryd.func28 rfl rfl fun w0 F => ?_
  (refine G.seq ?_; refine G.region ?_; refine GO.box rfl rfl rfl fun b7 => ?_; refine GO.box rfl rfl rfl fun b8 => ?_; refine GO.box rfl rfl rfl fun b9 => ?_; refine GO.alloc rfl fun b10 => ?_; refine GO.assign rfl rfl ?_; refine GO.nil ?_; refine kthen_n ?_; refine G.seq ?_; refine G.seq ?_; refine G.region ?_; refine GO.fieldAddr rfl rfl ?_; refine GO.load1 rfl rfl rfl (Tk.t Tk.h) rfl ?_; refine GO.nil ?_; refine kthen_n ?_; refine G.block ?_; refine G.seq ?_; refine G.region ?_; refine GO.eqi rfl rfl rfl ?_; refine GO.assign rfl rfl ?_; refine GO.nil ?_; refine kthen_n ?_; refine G.condF rfl rfl ?_; refine G.seq ?_; refine G.region ?_; refine GO.eqi rfl rfl rfl ?_; refine GO.assign rfl rfl ?_; refine GO.nil ?_; refine kthen_n ?_; refine G.condF rfl rfl ?_; refine G.seq ?_; refine G.region ?_; refine GO.eqi rfl rfl rfl ?_; refine GO.assign rfl rfl ?_; refine GO.nil ?_; refine kthen_n ?_; refine G.condF rfl rfl ?_; refine G.seq ?_; refine G.region ?_; refine GO.eqi rfl rfl rfl ?_; refine GO.assign rfl rfl ?_; refine GO.nil ?_; refine kthen_n ?_; refine G.condF rfl rfl ?_; refine G.seq ?_; refine G.region ?_; refine GO.eqi rfl rfl rfl ?_; refine GO.assign rfl rfl ?_; refine GO.nil ?_; refine kthen_n ?_; refine G.condF rfl rfl ?_; refine G.seq ?_; refine G.region ?_; refine GO.eqT rfl rfl rfl rfl ?_; refine GO.assign rfl rfl ?_; refine GO.nil ?_; refine kthen_n ?_; refine G.condT rfl rfl ?_; refine G.seq ?_; refine G.region ?_; refine GO.move rfl rfl ?_; refine GO.fieldAddr rfl rfl ?_; refine GO.load1 rfl rfl rfl (Tk.t Tk.h) rfl ?_; refine GO.fieldAddr rfl rfl ?_; refine GO.load1 rfl rfl rfl (Tk.t Tk.h) rfl ?_)
  refine GO.call3 rfl rfl rfl rfl (hget) (Tks.c (Tk.t (Tk.t (Tk.t (Tk.t Tk.h)))) Tks.n) ?_
  rintro _ _ ⟨rfl, rfl⟩
  (refine GO.move rfl rfl ?_; refine GO.extract rfl rfl rfl ?_; refine GO.extract rfl rfl rfl ?_; refine GO.alloc rfl fun b37 => ?_)
  rw [cells_zero]
  refine GO.storeW rfl rfl Tk.h ⟨cells_len _, cells_len _⟩ (cells_one _) ?_
  (refine GO.assign rfl rfl ?_; refine GO.nil ?_; refine kthen_n ?_; refine G.seq ?_; refine G.region ?_; refine GO.loadW rfl rfl rfl (Tk.t (Tk.t (Tk.t (Tk.t (Tk.t Tk.h))))) rfl ?_; refine GO.fieldAddr rfl rfl ?_; refine GO.load1 rfl rfl rfl (Tk.t (Tk.t (Tk.t Tk.h))) rfl ?_; refine GO.fieldAddr rfl rfl ?_; refine GO.load1 rfl rfl rfl (Tk.t (Tk.t (Tk.t Tk.h))) rfl ?_)
  refine GO.call3 rfl rfl rfl rfl (hrb) (Tks.c (Tk.t (Tk.t (Tk.t (Tk.t (Tk.t (Tk.t Tk.h)))))) Tks.n) ?_
  rintro _ _ ⟨rfl, rfl⟩
  (refine GO.move rfl rfl ?_; refine GO.extract rfl rfl rfl ?_; refine GO.extract rfl rfl rfl ?_; refine GO.alloc rfl fun b39 => ?_)
  rw [cells_zero]
  refine GO.storeW rfl rfl Tk.h ⟨cells_len _, cells_len _⟩ (cells_one _) ?_
  (refine GO.assign rfl rfl ?_; refine GO.nil ?_; refine kthen_n ?_; refine G.seq ?_)
  refine G.drawT 11 1536 [pt b7 (row [i64 (sideO o : Nat), va] 52), pt b37 (row (cells B) 77), pt b39 (row (cells B) 77)] (pt b10 (row [i64 0, .slice none 0 0] 52) :: p :: z :: q :: F) (by kernel_rfl) (keys_of rfl) (ImpS.sb (by ((refine Sb.c (Tk.t (Tk.t (Tk.t (Tk.t (Tk.t (Tk.t (Tk.t Tk.h))))))) ?_; refine Sb.c (Tk.t (Tk.t Tk.h)) ?_; refine Sb.c Tk.h ?_; refine Sb.c (Tk.t (Tk.t Tk.h)) ?_; refine Sb.c (Tk.t Tk.h) ?_; refine Sb.c Tk.h ?_; refine Sb.c (Tk.t (Tk.t Tk.h)) ?_); (refine Sb.s ?_; refine Sb.s ?_; exact Sb.r)))) ?_
  ((apply GR.step rfl; focus (intro Z; refine GO.loadW rfl rfl rfl Tk.h rfl ?_; exact KQ.z)); (apply GR.step rfl; focus (intro Z; refine GO.loadW rfl rfl rfl (Tk.t Tk.h) (cells_len _) ?_; exact KQ.z)); (apply GR.step rfl; focus (intro Z; refine GO.loadW rfl rfl rfl (Tk.t (Tk.t Tk.h)) (cells_len _) ?_; exact KQ.z)))
  apply GR.step rfl; focus (intro Z; refine GO.eqlA hbeq rfl rfl rfl ?_; exact KQ.z)
  ((apply GR.step rfl; focus (intro Z; refine GO.move rfl rfl ?_; exact KQ.z)); (apply GR.step rfl; focus (intro Z; refine GO.gT rfl rfl rfl ?_; refine GO.move rfl rfl ?_; exact KQ.z)); (apply GR.step rfl; focus (intro Z; refine GO.gT rfl rfl rfl ?_; refine GO.move rfl rfl ?_; exact KQ.z)); (apply GR.step rfl; focus (intro Z; refine GO.gT rfl rfl rfl ?_; refine GO.eqT rfl rfl rfl rfl ?_; exact KQ.z)); (apply GR.step rfl; focus (intro Z; refine GO.pickT rfl rfl rfl ?_; exact KQ.z)); refine GR.skip rfl ?_; refine GR.skip rfl ?_; refine GR.nil ?_)
  (repeat refine GT.skip rfl ?_)
  refine GT.step rfl ?_
  refine GO.storeW rfl rfl (Tk.t (Tk.t (Tk.t Tk.h))) ⟨rfl, rfl⟩ (by simp [Value.oneCell']; assumption) ?_
  refine GO.nil ⟨rfl, .tuple #[], pt b10 (row [i64 (sideO o : Nat), va] 52) :: p :: z :: q :: F, rfl, ImpS.sb (by ((refine Sb.c (Tk.t Tk.h) ?_; refine Sb.c (Tk.t Tk.h) ?_; refine Sb.c (Tk.t Tk.h) ?_; refine Sb.c Tk.h ?_; refine Sb.c Tk.h ?_; refine Sb.c Tk.h ?_; refine Sb.c Tk.h ?_); (exact Sb.r))), ?_⟩
  (repeat refine GT.skip rfl ?_)
  refine GT.step rfl ?_
  refine GO.assign rfl rfl ?_
  refine GO.nil ⟨rfl, _, _, rfl, ImpS.refl, ?_⟩
  refine GT.nil ?_
  (refine GO.nil ?_; refine kthen_n ?_; refine G.ret ?_; refine kblock_r ?_; refine kthen_r ?_)
  refine KF2.r2 rfl (RV.cW (n := 2) rfl rfl (by (exact (Tk.t (Tk.t (Tk.t Tk.h))))) rfl) (RV.t rfl) ⟨⟨0, p, z, o, va⟩, ⟨ho0, hra0, Sup.refl z, wo, hone⟩, rfl, rfl⟩ (ImpS.sb ?_)
  ((refine Sb.c (Tk.t (Tk.t (Tk.t (Tk.t Tk.h)))) ?_; refine Sb.c (Tk.t (Tk.t (Tk.t (Tk.t Tk.h)))) ?_; refine Sb.c (Tk.t (Tk.t (Tk.t (Tk.t Tk.h)))) ?_); (refine Sb.s ?_; refine Sb.s ?_; refine Sb.s ?_; refine Sb.s ?_; exact Sb.r))
theorem rowG_len (o : OptM) (i : Int) : ¬ 1048576 < (rowG o i).length := by
  unfold rowG
  split
  · unfold rowX
    have := List.length_filter_le (fun c => setO o i.toNat c) (List.range 1024)
    rw [List.length_range] at this
    omega
  · simp
set_option maxHeartbeats 16000000 in
theorem doneRow (q p z : HP) (hq : Tab q) (v ra : Value) (o : OptM) (ho : MatO p v o) (hra : RefO z ra o) (wo : WfM o) (a b i j t : Int) (u vg : Value) (pm : Option Addr) (hu : u.oneCell' = true) (hg : vg.oneCell' = true) :
    Fn Tryd.prog 28 #[v, .pointer pm, ra, .agg #[i64 t, vg], opV 4 a b i j u] [p, z, q] (StepR v z q) := by
  have hget := rowE p q hq v o wo ho i
  have hrr := rRowE z ra o hra wo i
  have hlen := rowG_len o i
  have hints := fun va vb => ints_spec (rowG o i) va vb hlen
  have ho0 := ho
  have hra0 := hra
  obtain ⟨va, rfl, hone⟩ := hra.slR
  obtain ⟨pv, rfl⟩ := ho.has.ptr
  generalize rowG o i = l at hget hrr hlen hints
  generalize wrO (sideO o) i 0 = ew at hget hrr
  have dew : decide (ew = ew) = true := decide_eq_true rfl
  refine Fn.mk2 Tryd.func28 rfl rfl fun w0 F => ?_
  (refine G.seq ?_; refine G.region ?_; refine GO.box rfl rfl rfl fun b7 => ?_; refine GO.box rfl rfl rfl fun b8 => ?_; refine GO.box rfl rfl rfl fun b9 => ?_; refine GO.alloc rfl fun b10 => ?_; refine GO.assign rfl rfl ?_; refine GO.nil ?_; refine kthen_n ?_; refine G.seq ?_; refine G.seq ?_; refine G.region ?_; refine GO.fieldAddr rfl rfl ?_; refine GO.load1 rfl rfl rfl (Tk.t Tk.h) rfl ?_; refine GO.nil ?_; refine kthen_n ?_; refine G.block ?_; refine G.seq ?_; refine G.region ?_; refine GO.eqi rfl rfl rfl ?_; refine GO.assign rfl rfl ?_; refine GO.nil ?_; refine kthen_n ?_; refine G.condF rfl rfl ?_; refine G.seq ?_; refine G.region ?_; refine GO.eqi rfl rfl rfl ?_; refine GO.assign rfl rfl ?_; refine GO.nil ?_; refine kthen_n ?_; refine G.condF rfl rfl ?_; refine G.seq ?_; refine G.region ?_; refine GO.eqi rfl rfl rfl ?_; refine GO.assign rfl rfl ?_; refine GO.nil ?_; refine kthen_n ?_; refine G.condF rfl rfl ?_; refine G.seq ?_; refine G.region ?_; refine GO.eqi rfl rfl rfl ?_; refine GO.assign rfl rfl ?_; refine GO.nil ?_; refine kthen_n ?_; refine G.condF rfl rfl ?_; refine G.seq ?_; refine G.region ?_; refine GO.eqT rfl rfl rfl rfl ?_; refine GO.assign rfl rfl ?_; refine GO.nil ?_; refine kthen_n ?_; refine G.condT rfl rfl ?_; refine G.seq ?_; refine G.region ?_; refine GO.move rfl rfl ?_; refine GO.fieldAddr rfl rfl ?_; refine GO.load1 rfl rfl rfl (Tk.t Tk.h) rfl ?_)
  refine GO.call2 rfl rfl rfl (hget) (Tks.c (Tk.t (Tk.t (Tk.t (Tk.t Tk.h)))) (Tks.c (Tk.t (Tk.t (Tk.t (Tk.t (Tk.t Tk.h))))) Tks.n)) ?_
  rintro _ _ ⟨v1, rfl, rfl⟩
  (refine GO.move rfl rfl ?_; refine GO.extract rfl rfl rfl ?_; refine GO.extract rfl rfl rfl ?_; refine GO.assign rfl rfl ?_; refine GO.assign rfl rfl ?_; refine GO.nil ?_; refine kthen_n ?_; refine G.seq ?_; refine G.region ?_; refine GO.loadW rfl rfl rfl (Tk.t (Tk.t (Tk.t (Tk.t (Tk.t (Tk.t Tk.h)))))) rfl ?_; refine GO.fieldAddr rfl rfl ?_; refine GO.load1 rfl rfl rfl (Tk.t (Tk.t (Tk.t (Tk.t Tk.h)))) rfl ?_)
  refine GO.call2 rfl rfl rfl (hrr) (Tks.c (Tk.t (Tk.t (Tk.t (Tk.t (Tk.t (Tk.t (Tk.t Tk.h))))))) Tks.n) ?_
  rintro _ _ ⟨v2, rfl, rfl⟩
  (refine GO.move rfl rfl ?_; refine GO.extract rfl rfl rfl ?_; refine GO.extract rfl rfl rfl ?_; refine GO.assign rfl rfl ?_; refine GO.assign rfl rfl ?_; refine GO.nil ?_; refine kthen_n ?_; refine G.seq ?_; refine G.region ?_; refine GO.move rfl rfl ?_; refine GO.move rfl rfl ?_; refine GO.eqT rfl rfl rfl rfl ?_; refine GO.move rfl rfl ?_; refine GO.gT rfl rfl rfl ?_; refine GO.move rfl rfl ?_; refine GO.gT rfl rfl rfl ?_; refine GO.move rfl rfl ?_; refine GO.gT rfl rfl rfl ?_)
  refine GO.call2 rfl rfl rfl (hints v1 v2) (Tks.c (Tk.t (Tk.t Tk.h)) (Tks.c Tk.h Tks.n)) ?_
  rintro _ _ ⟨rfl, rfl⟩
  refine GO.ownV Tk.h fun a1 cap1 hv1 => ?_
  subst hv1
  (refine GO.pickT rfl rfl rfl ?_; refine GO.assign rfl rfl ?_; refine GO.nil ?_; refine kthen_n ?_; refine G.seq ?_; refine G.seq ?_; refine G.region ?_; refine GO.assign rfl rfl ?_; refine GO.nil ?_; refine kthen_n ?_; refine G.block ?_)
  refine G.loop2 (fun (k : Nat) (_ : List Value) => [(7, ptrV b7), (10, ptrV b10), (31, .slice a1 l.length cap1), (35, .bool true), (36, i64 (k : Nat))])
    (fun _ xs => own 3 1 l.length (.slice a1 l.length cap1) xs :: p :: z :: q :: pt b7 (row [i64 (sideO o : Nat), va] 52) :: pt b10 (row [i64 0, .slice none 0 0] 52) :: F)
    (fun k xs => k ≤ l.length ∧ xs.length = l.length) (fun k _ => l.length - k) 0 (natsV l) ⟨Nat.zero_le _, natsV_len l⟩ ?_ ?_ ?_
  · (refine SubE.c rfl rfl ?_; refine SubE.c rfl rfl ?_; refine SubE.c rfl rfl ?_; refine SubE.c rfl rfl ?_; refine SubE.c rfl rfl ?_; exact SubE.n)
  · ((refine Sb.c Tk.h ?_; refine Sb.c (Tk.t (Tk.t Tk.h)) ?_; refine Sb.c (Tk.t Tk.h) ?_; refine Sb.c (Tk.t Tk.h) ?_; refine Sb.c (Tk.t (Tk.t (Tk.t (Tk.t Tk.h)))) ?_; refine Sb.c (Tk.t Tk.h) ?_); (refine Sb.s ?_; refine Sb.s ?_; refine Sb.s ?_; exact Sb.r))
  rintro k xs ⟨hk, hxs⟩
  (refine G.seq ?_; refine G.seq ?_; refine G.region ?_; refine GO.move rfl rfl ?_; refine GO.move rfl rfl ?_; refine GO.lenS rfl rfl ?_; refine GO.lti rfl rfl rfl ?_; refine GO.nil ?_; refine kthen_n ?_)
  refine G.condD rfl (fun hlt => ?_) (fun hge => ?_)
  · have hkl : k < l.length := by omega
    refine G.ownForm (by omega) Tk.h fun bl cl e1 hd1 hd2 hd3 => ?_
    injection e1 with e1a e1b e1c
    subst e1a e1c
    (refine G.skip ?_; refine kthen_n ?_; refine G.seq ?_; refine G.block ?_; refine G.region ?_; refine GO.move rfl rfl ?_; refine GO.move rfl rfl ?_; refine GO.idxS rfl rfl rfl ⟨rfl, by omega⟩ ?_)
    refine GO.storeOwn (vs := [i64 77]) (xs := xs) rfl rfl rfl rfl Tk.h (by rw [hxs]; show 0 + k * 1 + 1 ≤ l.length; omega) (by simp [Value.oneCell']) ?_
    (refine GO.nil ?_; refine kblock_n ?_; refine kthen_n ?_; refine G.region ?_; refine GO.move rfl rfl ?_; refine GO.addi rfl rfl rfl (by omega) ?_; refine GO.assign rfl rfl ?_; refine GO.nil ?_; refine kthen_n ?_)
    refine ⟨k + 1, xs.take (0 + k * 1) ++ [i64 77] ++ xs.drop (0 + k * 1 + 1), ⟨by omega, ?_⟩, by omega, ?_, ?_⟩
    · simp only [List.length_append, List.length_take, List.length_drop, List.length_cons, List.length_nil]; omega
    · (refine SubE.c rfl rfl ?_; refine SubE.c rfl rfl ?_; refine SubE.c rfl rfl ?_; refine SubE.c rfl rfl ?_; refine SubE.c rfl rfl ?_; exact SubE.n)
    · ((refine Sb.c Tk.h ?_; refine Sb.c Tk.h ?_; refine Sb.c Tk.h ?_; refine Sb.c Tk.h ?_; refine Sb.c Tk.h ?_; refine Sb.c Tk.h ?_); (exact Sb.r))
  · (refine G.exit ?_; refine kthen_x ?_; refine kthen_x ?_; refine kblock_x ?_; refine kthen_n ?_; refine G.seq ?_; refine G.region ?_; refine GO.loadW rfl rfl rfl (Tk.t (Tk.t (Tk.t (Tk.t Tk.h)))) rfl ?_; refine GO.move rfl rfl ?_; refine GO.storeW rfl rfl (Tk.t (Tk.t (Tk.t (Tk.t (Tk.t Tk.h))))) ⟨rfl, rfl⟩ (by simp [Value.oneCell']; assumption) ?_; refine GO.assign rfl rfl ?_; refine GO.nil ?_; refine kthen_n ?_; refine G.ret ?_; refine kblock_r ?_; refine kthen_r ?_)
    refine KF2.r2 rfl (RV.cW (n := 2) rfl rfl (by (exact Tk.h)) rfl) (RV.t rfl) ⟨⟨0, p, z, o, va⟩, ⟨ho0, hra0, Sup.refl z, wo, hone⟩, rfl, rfl⟩ (ImpS.sb ?_)
    ((refine Sb.c (Tk.t (Tk.t Tk.h)) ?_; refine Sb.c (Tk.t (Tk.t Tk.h)) ?_; refine Sb.c (Tk.t (Tk.t Tk.h)) ?_); (refine Sb.s ?_; refine Sb.s ?_; refine Sb.s ?_; exact Sb.r))
/-- Whatever step, but Join. -/
theorem done_spec (d : Int) (h7 : d ≠ 7) (q p z : HP) (hq : Tab q) (v ra : Value) (o : OptM) (ho : MatO p v o) (hra : RefO z ra o) (wo : WfM o) (a b i j t : Int) (u vg : Value) (L : List Cl) (pm : Option Addr) (hu : SlC q u L) (hl : L.length ≤ 9223372036854775807) (hg : vg.oneCell' = true) :
    Fn Tryd.prog 28 #[v, .pointer pm, ra, .agg #[i64 t, vg], opV d a b i j u] [p, z, q] (StepR v z q) := by
  by_cases h2 : d = 2
  · subst h2; exact doneSet q p z v ra o ho hra wo a b i j t u vg pm hu.one hg
  by_cases h3 : d = 3
  · subst h3; exact doneGet q p z v ra o ho hra wo a b i j t u vg pm hu.one hg
  by_cases h4 : d = 4
  · subst h4; exact doneRow q p z hq v ra o ho hra wo a b i j t u vg pm hu.one hg
  by_cases h9 : d = 9
  · subst h9; exact donePut q p z v ra o ho hra wo a b i j t u vg L pm hu hl hg
  by_cases h10 : d = 10
  · subst h10; exact doneBlock q p z v ra o ho hra wo a b i j t u vg pm hu.one hg
  by_cases h11 : d = 11
  · subst h11; exact doneGone q p z hq v ra o ho hra wo a b i j t u vg pm hu.one hg
  by_cases h12 : d = 12
  · subst h12; exact doneBlocks q p z v ra o ho hra wo a b i j t u vg pm hu.one hg
  exact doneElse d h2 h3 h4 h7 h9 h10 h11 h12 q p z v ra o ho hra wo a b i j t u vg pm hu.one hg
end Go.Proofs.YtfoahdfflchidaaDoor
namespace Go.Proofs.YtfoahdfflchidaaDoor
open Go
/-- A step: what is done, on which two, two numbers, and the slice of the cells. -/
structure OpQ where
  d : Int
  a : Int
  b : Int
  i : Int
  j : Int
  u : Value
def OpQ.vs (x : OpQ) : List Value := [i64 x.d, i64 x.a, i64 x.b, i64 x.i, i64 x.j, x.u]
def opsQ (l : List OpQ) : List Value := l.flatMap OpQ.vs
theorem opsQ_len (l : List OpQ) : (opsQ l).length = l.length * 6 := by
  induction l with
  | nil => rfl
  | cons p l ih => simp only [opsQ, List.flatMap_cons, List.length_append, OpQ.vs, List.length_cons, List.length_nil] at ih ⊢; omega
theorem opsQ_get : ∀ {l : List OpQ} {k : Nat} {p : OpQ} {m : Nat}, l[k]? = some p → m < 6 → (opsQ l)[k * 6 + m]? = p.vs[m]?
  | [], k, p, m, h, _ => by simp at h
  | x :: l, 0, p, m, h, hm => by
    simp at h; subst h
    show (x.vs ++ opsQ l)[0 * 6 + m]? = _
    rw [show 0 * 6 + m = m by omega, List.getElem?_append_left (by simp [OpQ.vs]; omega)]
  | x :: l, k + 1, p, m, h, hm => by
    simp only [List.getElem?_cons_succ] at h
    have := opsQ_get h hm
    show (x.vs ++ opsQ l)[(k + 1) * 6 + m]? = _
    rw [List.getElem?_append_right (by simp [OpQ.vs]; omega), show (k + 1) * 6 + m - x.vs.length = k * 6 + m by simp [OpQ.vs]; omega, this]
/-- A script, readable in q. -/
def OpsQR (q : HP) (v : Value) (l : List OpQ) (cs : Nat → List Cl) : Prop := Sl q v l.length 6 (opsQ l) ∧ ∀ (k : Nat) (p : OpQ), l[k]? = some p → SlC q p.u (cs k) ∧ (cs k).length * 16 ≤ 140737488355328
/-! ## Four of them -/
def put4 {α : Type} (f : Nat → α) (k : Nat) (x : α) : Nat → α := fun j => if j = k then x else f j
theorem put4_at {α : Type} (f : Nat → α) (k : Nat) (x : α) : put4 f k x k = x := if_pos rfl
theorem put4_ne {α : Type} (f : Nat → α) {k j : Nat} (x : α) (h : j ≠ k) : put4 f k x j = f j := if_neg h
def marr (v : Nat → Value) : List Value := [v 0, v 1, v 2, v 3]
def rarr (o : Nat → OptM) (r : Nat → Value) : List Value := [i64 (sideO (o 0) : Nat), r 0, i64 (sideO (o 1) : Nat), r 1, i64 (sideO (o 2) : Nat), r 2, i64 (sideO (o 3) : Nat), r 3]
theorem four_cases {k : Nat} (h : k < 4) : k = 0 ∨ k = 1 ∨ k = 2 ∨ k = 3 := by omega
theorem marr_get (v : Nat → Value) {k : Nat} (h : k < 4) : (marr v)[k]? = some (v k) := by
  rcases four_cases h with rfl | rfl | rfl | rfl <;> rfl
theorem rarr_get (o : Nat → OptM) (r : Nat → Value) {k : Nat} (h : k < 4) : (rarr o r)[k * 2]? = some (i64 (sideO (o k) : Nat)) ∧ (rarr o r)[k * 2 + 1]? = some (r k) := by
  rcases four_cases h with rfl | rfl | rfl | rfl <;> exact ⟨rfl, rfl⟩
theorem marr_set (v : Nat → Value) {k : Nat} (x : Value) (h : k < 4) : (marr v).set k x = marr (put4 v k x) := by
  rcases four_cases h with rfl | rfl | rfl | rfl <;> rfl
theorem rarr_put (o : Nat → OptM) (r : Nat → Value) {k : Nat} (o' : OptM) (r' : Value) (h : k < 4) : (rarr o r).take (k * 2) ++ [i64 (sideO o' : Nat), r'] ++ (rarr o r).drop (k * 2 + 2) = rarr (put4 o k o') (put4 r k r') := by
  rcases four_cases h with rfl | rfl | rfl | rfl <;> rfl
def fourP (P : Nat → HP) : HP := star [P 0, P 1, P 2, P 3]
def oth (P : Nat → HP) (k : Nat) : HP := if k = 0 then star [P 1, P 2, P 3] else if k = 1 then star [P 0, P 2, P 3] else if k = 2 then star [P 0, P 1, P 3] else star [P 0, P 1, P 2]
theorem oth_put (P : Nat → HP) {k : Nat} (x : HP) (h : k < 4) : oth (put4 P k x) k = oth P k := by
  rcases four_cases h with rfl | rfl | rfl | rfl <;> rfl
theorem four_perm (P : Nat → HP) {k : Nat} (h : k < 4) : ∃ l, oth P k = star l ∧ [P 0, P 1, P 2, P 3].Perm (P k :: l) := by
  rcases four_cases h with rfl | rfl | rfl | rfl
  · exact ⟨[P 1, P 2, P 3], rfl, List.Perm.refl _⟩
  · exact ⟨[P 0, P 2, P 3], rfl, List.Perm.swap _ _ _⟩
  · exact ⟨[P 0, P 1, P 3], rfl, (List.perm_middle (a := P 2) (l₁ := [P 0, P 1]) (l₂ := [P 3]))⟩
  · exact ⟨[P 0, P 1, P 2], rfl, (List.perm_middle (a := P 3) (l₁ := [P 0, P 1, P 2]) (l₂ := []))⟩
theorem ImpS.fourOut (P : Nat → HP) {k : Nat} (h : k < 4) (F : List HP) : ImpS (fourP P :: F) (P k :: oth P k :: F) := fun m w s => by
  obtain ⟨l, e, hp⟩ := four_perm P h
  rw [e]
  have s1 : sat ([P 0, P 1, P 2, P 3] ++ (F ++ m)) w := sat_flat.1 s
  have s2 : sat (P k :: l ++ (F ++ m)) w := sat_perm (List.Perm.append_right _ hp) s1
  have s3 : sat (l ++ (P k :: (F ++ m))) w := sat_perm (List.perm_middle).symm s2
  exact sat_perm (List.Perm.swap _ _ _) (sat_flat.2 s3)
theorem ImpS.fourIn (P : Nat → HP) {k : Nat} (h : k < 4) (F : List HP) : ImpS (P k :: oth P k :: F) (fourP P :: F) := fun m w s => by
  obtain ⟨l, e, hp⟩ := four_perm P h
  rw [e] at s
  have s1 : sat (star l :: (P k :: (F ++ m))) w := sat_perm (List.Perm.swap _ _ _) s
  have s2 : sat (l ++ (P k :: (F ++ m))) w := sat_flat.1 s1
  have s3 : sat (P k :: l ++ (F ++ m)) w := sat_perm (List.perm_middle) s2
  exact sat_flat.2 (sat_perm (List.Perm.append_right _ hp.symm) s3)
theorem ImpS.fourSet (P : Nat → HP) {k : Nat} (x : HP) (h : k < 4) (F : List HP) : ImpS (x :: oth P k :: F) (fourP (put4 P k x) :: F) := by
  have := ImpS.fourIn (put4 P k x) h F
  rw [put4_at, oth_put P x h] at this
  exact this
/-- A new one in the place of the k-th, which is left. -/
theorem ImpS.fourNew (P : Nat → HP) {k : Nat} (x : HP) (h : k < 4) (F : List HP) : ImpS (x :: fourP P :: F) (fourP (put4 P k x) :: F) := fun m w s => by
  have s1 : sat (fourP P :: (x :: (F ++ m))) w := sat_perm (List.Perm.swap _ _ _) s
  have s2 : sat (P k :: oth P k :: (x :: F) ++ m) w := ImpS.fourOut P h (x :: F) m w s1
  exact ImpS.fourSet P x h F m w ((ImpS.sb (H := P k :: oth P k :: x :: F) (M := x :: oth P k :: F) ⟨[P k], by
    refine (List.Perm.cons _ (List.Perm.swap _ _ _)).trans ?_
    exact (List.perm_append_singleton (P k) (x :: oth P k :: F)).symm⟩) m w s2)
/-- The k-th and the j-th, and the others. -/
def oth2 (P : Nat → HP) (k j : Nat) : HP := star (([0, 1, 2, 3].filter fun m => !decide (m = k) && !decide (m = j)).map P)
theorem four_perm2 (P : Nat → HP) {k j : Nat} (h : k < 4) (hj : j < 4) (hne : k ≠ j) : ∃ l m, oth P k = star l ∧ oth2 P k j = star m ∧ l.Perm (P j :: m) := by
  rcases four_cases h with rfl | rfl | rfl | rfl <;> rcases four_cases hj with rfl | rfl | rfl | rfl <;> first
    | exact absurd rfl hne
    | exact ⟨_, _, rfl, rfl, List.Perm.refl _⟩
    | exact ⟨_, _, rfl, rfl, List.Perm.swap _ _ _⟩
    | exact ⟨_, _, rfl, rfl, List.perm_middle (a := P j) (l₁ := [_, _]) (l₂ := [])⟩
    | exact ⟨[_, _, _], [_, _], rfl, rfl, List.perm_middle (l₁ := [_, _]) (l₂ := [])⟩
theorem ImpS.twoOut (P : Nat → HP) {k j : Nat} (h : k < 4) (hj : j < 4) (hne : k ≠ j) (F : List HP) : ImpS (oth P k :: F) (P j :: oth2 P k j :: F) := fun m w s => by
  obtain ⟨l, l2, e, e2, hp⟩ := four_perm2 P h hj hne
  rw [e] at s
  rw [e2]
  have s1 : sat (l ++ (F ++ m)) w := sat_flat.1 s
  have s2 : sat (P j :: l2 ++ (F ++ m)) w := sat_perm (List.Perm.append_right _ hp) s1
  have s3 : sat (l2 ++ (P j :: (F ++ m))) w := sat_perm (List.perm_middle).symm s2
  exact sat_perm (List.Perm.swap _ _ _) (sat_flat.2 s3)
theorem ImpS.twoIn (P : Nat → HP) {k j : Nat} (h : k < 4) (hj : j < 4) (hne : k ≠ j) (F : List HP) : ImpS (P j :: oth2 P k j :: F) (oth P k :: F) := fun m w s => by
  obtain ⟨l, l2, e, e2, hp⟩ := four_perm2 P h hj hne
  rw [e2] at s
  rw [e]
  have s1 : sat (star l2 :: (P j :: (F ++ m))) w := sat_perm (List.Perm.swap _ _ _) s
  have s2 : sat (l2 ++ (P j :: (F ++ m))) w := sat_flat.1 s1
  have s3 : sat (P j :: l2 ++ (F ++ m)) w := sat_perm (List.perm_middle) s2
  exact sat_flat.2 (sat_perm (List.Perm.append_right _ hp.symm) s3)
/-- Four matrices and their references, at the start of a round. -/
structure FourS where
  n : Nat
  P : Nat → HP
  Z : HP
  v : Nat → Value
  o : Nat → OptM
  r : Nat → Value
structure OneOK (P Z : HP) (v : Value) (o : OptM) (r : Value) : Prop where
  mat : MatO P v o
  wf : WfM o
  ref : RefO Z (refV (sideO o) r) o
  one : r.oneCell' = true
theorem OneOK.sup {P Z Z' : HP} {v : Value} {o : OptM} {r : Value} (hs : Sup Z Z') (h : OneOK P Z v o r) : OneOK P Z' v o r := ⟨h.mat, h.wf, h.ref.sup hs, h.one⟩
theorem OneOK.empty : OneOK (star []) (star []) (.pointer none) none (.slice none 0 0) := ⟨MatO.nil _, WfM.no, RefO.nil _, rfl⟩
def FourOK (s : FourS) : Prop := ∀ k, OneOK (s.P k) s.Z (s.v k) (s.o k) (s.r k)
theorem FourOK.put {s : FourS} (h : FourOK s) {Z' : HP} (hs : Sup s.Z Z') (k m : Nat) {p : HP} {v : Value} {o : OptM} {r : Value} (h1 : OneOK p Z' v o r) : FourOK ⟨m, put4 s.P k p, Z', put4 s.v k v, put4 s.o k o, put4 s.r k r⟩ := fun j => by
  by_cases e : j = k
  · subst e
    dsimp only
    rw [put4_at, put4_at, put4_at, put4_at]
    exact h1
  · dsimp only
    rw [put4_ne _ _ e, put4_ne _ _ e, put4_ne _ _ e, put4_ne _ _ e]
    exact (h j).sup hs
theorem put4_same {α : Type} (f : Nat → α) (k : Nat) : put4 f k (f k) = f := by
  funext j
  unfold put4
  split
  · rename_i h; rw [h]
  · rfl
theorem OneOK.ptr {P Z : HP} {v : Value} {o : OptM} {r : Value} (h : OneOK P Z v o r) : ∃ p, v = .pointer p := h.mat.has.ptr
theorem OneOK.isNone {P Z : HP} {p : Option Addr} {o : OptM} {r : Value} (h : OneOK P Z (.pointer p) o r) : (!(p.isNone == decide (((sideO o : Nat) : Int) = 0))) = false := by
  rcases h.mat with ⟨rfl, hp⟩ | ⟨s, X, b, rfl, hp, _⟩
  · obtain rfl : p = Option.none := by injection hp
    rfl
  · obtain rfl : p = some ⟨b, 0, Option.none⟩ := by injection hp
    have := (h.wf s X rfl).1.1
    rw [decide_eq_false (show ¬ ((sideO (some (s, X)) : Nat) : Int) = 0 by show ¬ ((s : Nat) : Int) = 0; omega)]
    rfl
end Go.Proofs.YtfoahdfflchidaaDoor
