/-
  Blocks: the plain words, and the contracts of the functions of package block and of its reference.
-/
import Derived.Test.YtfoahdfflchidaaDoorTy
namespace Go.Proofs.YtfoahdfflchidaaDoor
open Go
attribute [local irreducible] G GO GQ Fn pt init exs pur sat

/-! ## Blocks as functions -/
abbrev Blk := Nat → BitVec 64
def cells (B : Blk) : List Value := (List.range 64).map fun i => u64 (B i)
abbrev blk (B : Blk) : Value := .agg (cells B).toArray
theorem cells_len (B : Blk) : (cells B).length = 64 := by simp [cells]
theorem cells_get (B : Blk) {i j : Nat} (h : j < 64) (e : i = j) : (cells B)[i]? = some (u64 (B j)) := by subst e; simp [cells, h]
theorem cells_one (B : Blk) : ∀ u ∈ cells B, u.oneCell' = true := by
  intro u h; simp only [cells, List.mem_map] at h; obtain ⟨i, _, rfl⟩ := h; rfl
theorem cells_congr {B C : Blk} (h : ∀ i, i < 64 → B i = C i) : cells B = cells C := by
  unfold cells; apply List.map_congr_left; intro i hi; rw [h i (by simpa using hi)]
theorem blk_congr {B C : Blk} (h : ∀ i, i < 64 → B i = C i) : blk B = blk C := by unfold blk; rw [cells_congr h]
theorem cells_inj {B C : Blk} (h : cells B = cells C) {i : Nat} (hi : i < 64) : B i = C i := by
  have h1 := cells_get B hi rfl
  rw [h, cells_get C hi rfl] at h1
  simp only [Option.some.injEq, Value.int.injEq, true_and] at h1
  exact (BitVec.eq_of_toNat_eq (by omega)).symm
def updB (B : Blk) (i : Nat) (x : BitVec 64) : Blk := fun j => if j = i then x else B j
theorem cells_set (B : Blk) {i j : Nat} (x : BitVec 64) (e : i = j) : (cells B).set i (u64 x) = cells (updB B j x) := by
  subst e
  apply List.ext_getElem?
  intro k
  by_cases hk : k < 64
  · rw [cells_get _ hk rfl]
    by_cases hki : i = k
    · subst hki; rw [List.getElem?_set_self (by rw [cells_len]; exact hk)]; simp [updB]
    · rw [List.getElem?_set_ne hki, cells_get B hk rfl]; simp [updB, Ne.symm hki]
  · rw [List.getElem?_eq_none (by rw [List.length_set, cells_len]; omega), List.getElem?_eq_none (by rw [cells_len]; omega)]
def zeroB : Blk := fun _ => 0
theorem cells_zero : List.replicate 64 (Value.int IntKind.u64 0) = cells zeroB := by
  apply List.ext_getElem?
  intro k
  by_cases hk : k < 64
  · rw [cells_get _ hk rfl, List.getElem?_replicate]; simp [hk, zeroB]
  · rw [List.getElem?_eq_none (by simp; omega), List.getElem?_eq_none (by rw [cells_len]; omega)]

theorem has_eq (x : BitVec 64) (k : Nat) : decide (x >>> k % 2#64 = 1#64) = x.getLsbD k := by
  rw [Bool.eq_iff_iff, decide_eq_true_iff]
  have h : (x >>> k % 2#64).toNat = (x.getLsbD k).toNat := by
    rw [BitVec.toNat_umod, BitVec.toNat_ushiftRight]
    simp only [BitVec.getLsbD, Nat.testBit, Nat.shiftRight_eq_div_pow]
    have : (2#64).toNat = 2 := rfl
    rw [this, Nat.one_and_eq_mod_two]
    rcases Nat.mod_two_eq_zero_or_one (x.toNat / 2 ^ k) with h | h <;> rw [h] <;> rfl
  constructor
  · intro e; rw [e] at h; cases hx : x.getLsbD k with
    | true => rfl
    | false => rw [hx] at h; cases h
  · intro e; apply BitVec.eq_of_toNat_eq; rw [h, e]; rfl
theorem has_and (x : BitVec 64) (k : Nat) : decide (x >>> k &&& 1#64 = 1#64) = x.getLsbD k := by
  rw [← has_eq]
  congr 2
  apply BitVec.eq_of_toNat_eq
  rw [BitVec.toNat_and, BitVec.toNat_umod]
  have h1 : (1#64).toNat = 1 := rfl
  have h2 : (2#64).toNat = 2 := rfl
  rw [h1, h2, Nat.and_one_is_mod]
/-- A bit more. -/
def bitB (B : Blk) (r k : Nat) : Blk := updB B r (B r ||| (1#64 <<< k))
theorem add_bit (x : BitVec 64) (k : Nat) (hk : k < 64) (h : x.getLsbD k = false) : x + 1#64 <<< k = x ||| 1#64 <<< k := by
  apply BitVec.add_eq_or_of_and_eq_zero
  apply BitVec.eq_of_getLsbD_eq
  intro i hi
  rw [BitVec.getLsbD_and, BitVec.getLsbD_shiftLeft, BitVec.getLsbD_one]
  by_cases hik : i = k
  · subst hik; simp [h]
  · by_cases hlt : i < k
    · simp [hlt]
    · have : ¬ i - k = 0 := by omega
      simp [this]
theorem or_bit (x : BitVec 64) (k : Nat) (h : x.getLsbD k = true) : x ||| 1#64 <<< k = x := by
  apply BitVec.eq_of_getLsbD_eq
  intro i hi
  rw [BitVec.getLsbD_or, BitVec.getLsbD_shiftLeft, BitVec.getLsbD_one]
  by_cases hik : i = k
  · subst hik; simp [h]
  · by_cases hlt : i < k
    · simp [hlt]
    · have : ¬ i - k = 0 := by omega
      simp [this]

theorem getLsbD_bit (i k : Nat) (hi : i < 64) : (1#64 <<< k).getLsbD i = decide (i = k) := by
  rw [BitVec.getLsbD_shiftLeft, BitVec.getLsbD_one]
  by_cases hik : i = k
  · subst hik; simp [hi]
  · by_cases hlt : i < k
    · simp [hlt, hik]
    · have : ¬ i - k = 0 := by omega
      simp [this, hik]
attribute [irreducible] cells

/-! ## The reference's small functions -/
theorem has_spec (B : Blk) (r k : Nat) (hr : r < 64) (hk : k < 64) : Fn Tryd.prog 88 #[blk B, i64 r, i64 k] [] (fun v Q => v = .bool ((B r).getLsbD k) ∧ Q = []) := by
  refine Fn.mk Tryd.func88 rfl rfl fun w0 F => ?_
  (refine G.seq ?_; refine G.region ?_)
  refine GO.box rfl rfl rfl fun b => ?_
  (refine GO.assign rfl rfl ?_; refine GO.nil ?_; refine kthen_n ?_; refine G.seq ?_; refine G.region ?_; refine GO.move rfl rfl ?_; refine GO.idxA rfl rfl rfl ⟨rfl, by omega⟩ ?_)
  refine GO.load1 rfl rfl rfl Tk.h (cells_get B hr (by omega)) ?_
  (refine GO.move rfl rfl ?_)
  refine GO.conv rfl rfl (by rw [IntWalk.u64_in]; omega) ?_
  (refine GO.shru rfl rfl rfl ?_)
  refine GO.remu rfl rfl rfl (by decide) ?_
  (refine GO.equ rfl rfl rfl ?_; refine GO.assign rfl rfl ?_; refine GO.nil ?_; refine kthen_n ?_; refine G.ret ?_)
  refine KF.r1 rfl (RV.t rfl) ⟨?_, rfl⟩ ?_
  · rw [has_eq]
  · (skip; (refine Sb.s ?_; exact Sb.r))

theorem put_spec (B : Blk) (r k : Nat) (hr : r < 64) (hk : k < 64) : Fn Tryd.prog 80 #[blk B, i64 r, i64 k] [] (fun v Q => v = blk (bitB B r k) ∧ Q = []) := by
  refine Fn.mk Tryd.func80 rfl rfl fun w0 F => ?_
  (refine G.seq ?_; refine G.region ?_)
  refine GO.box rfl rfl rfl fun b => ?_
  skip
  refine GO.alloc rfl fun b2 => ?_
  (refine GO.nil ?_; refine kthen_n ?_; refine G.seq ?_; refine G.seq ?_; refine G.region ?_)
  refine GO.loadW rfl rfl rfl (Tk.t Tk.h) (cells_len B) ?_
  (refine GO.move rfl rfl ?_; refine GO.move rfl rfl ?_)
  refine GO.call3 rfl rfl rfl rfl (has_spec B r k hr hk) Tks.n ?_
  rintro _ _ ⟨rfl, rfl⟩
  (refine GO.not rfl rfl ?_; refine GO.nil ?_; refine kthen_n ?_)
  refine G.cond rfl (fun hb => ?_) (fun hb => ?_)
  · (refine G.region ?_; refine GO.move rfl rfl ?_; refine GO.move rfl rfl ?_; refine GO.idxA rfl rfl rfl ⟨rfl, by omega⟩ ?_)
    refine GO.load1 rfl rfl rfl (Tk.t Tk.h) (cells_get B hr (by omega)) ?_
    (refine GO.move rfl rfl ?_)
    refine GO.conv rfl rfl (by rw [IntWalk.u64_in]; omega) ?_
    (refine GO.shlu rfl rfl rfl ?_; refine GO.addu rfl rfl rfl ?_; refine GO.idxA rfl rfl rfl ⟨rfl, by omega⟩ ?_)
    refine GO.store1 rfl rfl rfl (Tk.t Tk.h) (by rw [cells_len]; omega) ?_
    rw [cells_set B _ (show 0 + r * 1 = r by omega)]
    (refine GO.nil ?_; refine kthen_n ?_; refine G.seq ?_; refine G.region ?_)
    refine GO.loadW rfl rfl rfl Tk.h (cells_len _) ?_
    refine GO.storeW rfl rfl (Tk.t Tk.h) ⟨cells_len _, rfl⟩ (cells_one _) ?_
    (refine GO.nil ?_; refine kthen_n ?_; refine G.ret ?_)
    refine KF.r1 rfl (RV.cW rfl rfl Tk.h (cells_len _)) ⟨?_, rfl⟩ ?_
    · have hb' : (B r).getLsbD k = false := by simpa using hb
      unfold bitB; rw [add_bit _ _ hk hb']
    · (skip; (refine Sb.s ?_; refine Sb.s ?_; exact Sb.r))
  · (refine G.skip ?_; refine kthen_n ?_; refine G.seq ?_; refine G.region ?_)
    refine GO.loadW rfl rfl rfl (Tk.t Tk.h) (cells_len _) ?_
    refine GO.storeW rfl rfl Tk.h ⟨cells_len _, rfl⟩ (cells_one _) ?_
    (refine GO.nil ?_; refine kthen_n ?_; refine G.ret ?_)
    refine KF.r1 rfl (RV.cW rfl rfl Tk.h (cells_len _)) ⟨?_, rfl⟩ ?_
    · have hb' : (B r).getLsbD k = true := by simpa using hb
      apply blk_congr; intro i _
      unfold bitB updB; split
      · rename_i h; subst h; rw [or_bit _ _ hb']
      · rfl
    · (skip; (refine Sb.s ?_; refine Sb.s ?_; exact Sb.r))

/-! ## Lists of cells -/
/-- The value v is a slice of n elements of sz cells each, whose cells l can be read in q. -/
def SlR (q : HP) (v : Value) (n sz : Nat) (l : List Value) : Prop :=
  ∃ a cap, v = .slice a n cap ∧ l.length = n * sz ∧ (0 < n → ∃ b o, a = some ⟨b, o, none⟩ ∧ ∀ j u, l[j]? = some u → Rd q ⟨b, o + j, none⟩ u)
def cellsV (cs : List (Int × Int)) : List Value := cs.flatMap fun p => [i64 p.1, i64 p.2]
theorem cellsV_len (cs : List (Int × Int)) : (cellsV cs).length = cs.length * 2 := by
  induction cs with
  | nil => rfl
  | cons p cs ih => simp only [cellsV, List.flatMap_cons, List.length_append, List.length_cons, List.length_nil] at ih ⊢; omega
theorem cellsV_get : ∀ {cs : List (Int × Int)} {k : Nat} {p : Int × Int}, cs[k]? = some p → (cellsV cs)[k * 2]? = some (i64 p.1) ∧ (cellsV cs)[k * 2 + 1]? = some (i64 p.2)
  | [], k, p, h => by simp at h
  | x :: cs, 0, p, h => by simp at h; subst h; exact ⟨rfl, rfl⟩
  | x :: cs, k + 1, p, h => by
    simp only [List.getElem?_cons_succ] at h
    have := cellsV_get h
    have e : cellsV (x :: cs) = i64 x.1 :: i64 x.2 :: cellsV cs := rfl
    rw [e, show (k + 1) * 2 = k * 2 + 1 + 1 by omega]
    simpa using this
def foldB (cs : List (Int × Int)) : Blk := cs.foldl (fun B p => bitB B (p.1 % 64).toNat (p.2 % 64).toNat) zeroB
theorem foldB_succ {cs : List (Int × Int)} {k : Nat} {p : Int × Int} (h : cs[k]? = some p) : foldB (cs.take (k + 1)) = bitB (foldB (cs.take k)) (p.1 % 64).toNat (p.2 % 64).toNat := by
  unfold foldB
  rw [List.take_add_one, h]; simp [List.foldl_append]

theorem fold_spec (q : HP) (v : Value) (cs : List (Int × Int)) (hv : SlR q v cs.length 2 (cellsV cs)) (hn : cs.length ≤ 9223372036854775807) : Fn Tryd.prog 56 #[v] [q] (fun r Q => r = blk (foldB cs) ∧ Q = [q]) := by
  obtain ⟨a, cap, rfl, hl, hrd⟩ := hv
  refine Fn.mk Tryd.func56 rfl rfl fun w0 F => ?_
  (refine G.seq ?_; refine G.region ?_)
  refine GO.alloc rfl fun b2 => ?_
  (refine GO.nil ?_; refine kthen_n ?_; refine G.seq ?_; refine G.region ?_)
  refine GO.alloc rfl fun b3 => ?_
  (refine GO.nil ?_; refine kthen_n ?_; refine G.seq ?_; refine G.seq ?_; refine G.region ?_; refine GO.assign rfl rfl ?_; refine GO.nil ?_; refine kthen_n ?_; refine G.block ?_)
  refine G.loop (fun k : Nat => [(0, .slice a cs.length cap), (2, .pointer (some ⟨b2, 0, none⟩)), (3, .pointer (some ⟨b3, 0, none⟩)), (4, i64 k)])
    (fun k => pt b3 (row (cells (foldB (cs.take k))) 77) :: pt b2 (row (cells zeroB) 77) :: q :: F) (fun k => k ≤ cs.length) (fun k => cs.length - k) 0 (by omega) ?_ ?_ ?_
  · (refine SubE.c rfl rfl ?_; refine SubE.c rfl rfl ?_; refine SubE.c rfl rfl ?_; refine SubE.c rfl rfl ?_; exact SubE.n)
  · rw [cells_zero]; ((refine Sb.c Tk.h ?_; refine Sb.c Tk.h ?_; refine Sb.c Tk.h ?_); (exact Sb.r))
  intro k hk
  (refine G.seq ?_; refine G.seq ?_; refine G.region ?_; refine GO.move rfl rfl ?_; refine GO.move rfl rfl ?_; refine GO.lenS rfl rfl ?_; refine GO.lti rfl rfl rfl ?_; refine GO.nil ?_; refine kthen_n ?_)
  refine G.condD rfl (fun hlt => ?_) (fun hge => ?_)
  · have hlt' : k < cs.length := by omega
    obtain ⟨b, o, rfl, hr⟩ := hrd (by omega)
    have hp : cs[k]? = some cs[k] := by simp [hlt']
    obtain ⟨h1, h2⟩ := cellsV_get hp
    (refine G.skip ?_; refine kthen_n ?_; refine G.seq ?_; refine G.block ?_)
    refine G.draw 14 (by kernel_rfl) ?_
    apply GQ.step; focus (intro Z; refine GO.loadW rfl rfl rfl Tk.h (cells_len _) ?_; exact KQ.z)
    ((apply GQ.step; focus (intro Z; refine GO.move rfl rfl ?_; exact KQ.z)); (apply GQ.step; focus (intro Z; refine GO.move rfl rfl ?_; exact KQ.z)); (apply GQ.step; focus (intro Z; refine GO.idxS rfl rfl rfl ⟨rfl, by omega⟩ ?_; exact KQ.z)); (apply GQ.step; focus (intro Z; refine GO.fieldAddr rfl rfl ?_; exact KQ.z)))
    apply GQ.step; focus (intro Z; refine GO.loadQ rfl rfl rfl (Tk.t (Tk.t Tk.h)) (hr _ _ h1) ?_; exact KQ.z)
    apply GQ.step; focus (intro Z; refine GO.mask rfl 6 rfl rfl ⟨by omega, rfl⟩ ?_; exact KQ.z)
    ((apply GQ.step; focus (intro Z; refine GO.move rfl rfl ?_; exact KQ.z)); (apply GQ.step; focus (intro Z; refine GO.move rfl rfl ?_; exact KQ.z)); (apply GQ.step; focus (intro Z; refine GO.idxS rfl rfl rfl ⟨rfl, by omega⟩ ?_; exact KQ.z)); (apply GQ.step; focus (intro Z; refine GO.fieldAddr rfl rfl ?_; exact KQ.z)))
    apply GQ.step; focus (intro Z; refine GO.loadQ rfl rfl rfl (Tk.t (Tk.t Tk.h)) (hr _ _ h2) ?_; exact KQ.z)
    apply GQ.step; focus (intro Z; refine GO.mask rfl 6 rfl rfl ⟨by omega, rfl⟩ ?_; exact KQ.z)
    have e1 : cs[k].1 % ((2 ^ 6 : Nat) : Int) = (((cs[k].1 % 64).toNat : Nat) : Int) := by omega
    have e2 : cs[k].2 % ((2 ^ 6 : Nat) : Int) = (((cs[k].2 % 64).toNat : Nat) : Int) := by omega
    rw [e1, e2]
    apply GQ.step; focus (intro Z; refine GO.call3 rfl rfl rfl rfl (put_spec _ _ _ (by omega) (by omega)) Tks.n ?_; rintro _ _ ⟨rfl, rfl⟩; exact KQ.z)
    refine GQ.nil ?_
    refine GO.storeW rfl rfl Tk.h ⟨cells_len _, cells_len _⟩ (cells_one _) ?_
    (refine GO.nil ?_; refine kblock_n ?_; refine kthen_n ?_; refine G.region ?_; refine GO.move rfl rfl ?_; refine GO.addi rfl rfl rfl (by omega) ?_; refine GO.assign rfl rfl ?_; refine GO.nil ?_; refine kthen_n ?_)
    refine ⟨k + 1, by omega, by omega, ?_, ?_⟩
    · (refine SubE.c rfl rfl ?_; refine SubE.c rfl rfl ?_; refine SubE.c rfl rfl ?_; refine SubE.c rfl rfl ?_; exact SubE.n)
    · rw [foldB_succ hp]; ((refine Sb.c Tk.h ?_; refine Sb.c Tk.h ?_; refine Sb.c Tk.h ?_); (exact Sb.r))
  · (refine G.exit ?_; refine G.seq ?_; refine G.region ?_)
    have : k = cs.length := by omega
    subst this
    refine GO.loadW rfl rfl rfl Tk.h (cells_len _) ?_
    refine GO.storeW rfl rfl (Tk.t Tk.h) ⟨cells_len _, cells_len _⟩ (cells_one _) ?_
    (refine GO.nil ?_; refine kthen_n ?_; refine G.ret ?_)
    refine KF.r1 rfl (RV.cW rfl rfl Tk.h (cells_len _)) ⟨?_, rfl⟩ ?_
    · rw [List.take_length]
    · ((refine Sb.c (Tk.t (Tk.t Tk.h)) ?_); (refine Sb.s ?_; refine Sb.s ?_; exact Sb.r))
end Go.Proofs.YtfoahdfflchidaaDoor
