/-
  Blocks: the plain words, and the contracts of the functions of package block and of its reference.
-/
import Derived.Test.YtpfcgfgkmgnaaaaDoorTy
namespace Go.Proofs.YtpfcgfgkmgnaaaaDoor
open Go
attribute [local irreducible] G GO GQ Fn pt init exs pur sat

/-! ## Blocks as functions -/
abbrev Blk := Nat → BitVec 64
def cells (B : Blk) : List Value := (List.range 64).map fun i => u64 (B i)
abbrev blk (B : Blk) : Value := .agg (cells B).toArray
theorem cells_len (B : Blk) : (cells B).length = 64 := by simp [cells]
theorem cells_get (B : Blk) {i j : Nat} (h : j < 64) (e : i = j) : (cells B)[i]? = some (u64 (B j)) := by subst e; simp [cells, h]
theorem cells_one (B : Blk) : ∀ u ∈ cells B, u.oneCell' = true := by
  intro u h; simp only [cells, List.mem_map] at h; obtain ⟨i, _, rfl⟩ := h; rfl
theorem cells_congr {B C : Blk} (h : ∀ i, i < 64 → B i = C i) : cells B = cells C := by
  unfold cells; apply List.map_congr_left; intro i hi; rw [h i (by simpa using hi)]
def updB (B : Blk) (i : Nat) (x : BitVec 64) : Blk := fun j => if j = i then x else B j
theorem cells_set (B : Blk) {i j : Nat} (x : BitVec 64) (e : i = j) : (cells B).set i (u64 x) = cells (updB B j x) := by
  subst e
  apply List.ext_getElem?
  intro k
  by_cases hk : k < 64
  · rw [cells_get _ hk rfl]
    by_cases hki : i = k
    · subst hki; rw [List.getElem?_set_self (by rw [cells_len]; exact hk)]; simp [updB]
    · rw [List.getElem?_set_ne hki, cells_get B hk rfl]; simp [updB, Ne.symm hki]
  · rw [List.getElem?_eq_none (by rw [List.length_set, cells_len]; omega), List.getElem?_eq_none (by rw [cells_len]; omega)]
def zeroB : Blk := fun _ => 0
theorem cells_zero : List.replicate 64 (Value.int IntKind.u64 0) = cells zeroB := by
  apply List.ext_getElem?
  intro k
  by_cases hk : k < 64
  · rw [cells_get _ hk rfl, List.getElem?_replicate]; simp [hk, zeroB]
  · rw [List.getElem?_eq_none (by simp; omega), List.getElem?_eq_none (by rw [cells_len]; omega)]

theorem has_eq (x : BitVec 64) (k : Nat) : decide (x >>> k % 2#64 = 1#64) = x.getLsbD k := by
  rw [Bool.eq_iff_iff, decide_eq_true_iff]
  have h : (x >>> k % 2#64).toNat = (x.getLsbD k).toNat := by
    rw [BitVec.toNat_umod, BitVec.toNat_ushiftRight]
    simp only [BitVec.getLsbD, Nat.testBit, Nat.shiftRight_eq_div_pow]
    have : (2#64).toNat = 2 := rfl
    rw [this, Nat.one_and_eq_mod_two]
    rcases Nat.mod_two_eq_zero_or_one (x.toNat / 2 ^ k) with h | h <;> rw [h] <;> rfl
  constructor
  · intro e; rw [e] at h; cases hx : x.getLsbD k with
    | true => rfl
    | false => rw [hx] at h; cases h
  · intro e; apply BitVec.eq_of_toNat_eq; rw [h, e]; rfl
theorem has_and (x : BitVec 64) (k : Nat) : decide (x >>> k &&& 1#64 = 1#64) = x.getLsbD k := by
  rw [← has_eq]
  congr 2
  apply BitVec.eq_of_toNat_eq
  rw [BitVec.toNat_and, BitVec.toNat_umod]
  have h1 : (1#64).toNat = 1 := rfl
  have h2 : (2#64).toNat = 2 := rfl
  rw [h1, h2, Nat.and_one_is_mod]
/-- A bit more. -/
def bitB (B : Blk) (r k : Nat) : Blk := updB B r (B r ||| (1#64 <<< k))
theorem getLsbD_bit (i k : Nat) (hi : i < 64) : (1#64 <<< k).getLsbD i = decide (i = k) := by
  rw [BitVec.getLsbD_shiftLeft, BitVec.getLsbD_one]
  by_cases hik : i = k
  · subst hik; simp [hi]
  · by_cases hlt : i < k
    · simp [hlt, hik]
    · have : ¬ i - k = 0 := by omega
      simp [this, hik]
attribute [irreducible] cells

/-! ## Lists of cells -/
/-- The value v is a slice of n elements of sz cells each, whose cells l can be read in q. -/
def SlR (q : HP) (v : Value) (n sz : Nat) (l : List Value) : Prop :=
  ∃ a cap, v = .slice a n cap ∧ l.length = n * sz ∧ (0 < n → ∃ b o, a = some ⟨b, o, none⟩ ∧ ∀ j u, l[j]? = some u → Rd q ⟨b, o + j, none⟩ u)
def cellsV (cs : List (Int × Int)) : List Value := cs.flatMap fun p => [i64 p.1, i64 p.2]
theorem cellsV_len (cs : List (Int × Int)) : (cellsV cs).length = cs.length * 2 := by
  induction cs with
  | nil => rfl
  | cons p cs ih => simp only [cellsV, List.flatMap_cons, List.length_append, List.length_cons, List.length_nil] at ih ⊢; omega
theorem cellsV_get : ∀ {cs : List (Int × Int)} {k : Nat} {p : Int × Int}, cs[k]? = some p → (cellsV cs)[k * 2]? = some (i64 p.1) ∧ (cellsV cs)[k * 2 + 1]? = some (i64 p.2)
  | [], k, p, h => by simp at h
  | x :: cs, 0, p, h => by simp at h; subst h; exact ⟨rfl, rfl⟩
  | x :: cs, k + 1, p, h => by
    simp only [List.getElem?_cons_succ] at h
    have := cellsV_get h
    have e : cellsV (x :: cs) = i64 x.1 :: i64 x.2 :: cellsV cs := rfl
    rw [e, show (k + 1) * 2 = k * 2 + 1 + 1 by omega]
    simpa using this
def foldB (cs : List (Int × Int)) : Blk := cs.foldl (fun B p => bitB B (p.1 % 64).toNat (p.2 % 64).toNat) zeroB
theorem foldB_succ {cs : List (Int × Int)} {k : Nat} {p : Int × Int} (h : cs[k]? = some p) : foldB (cs.take (k + 1)) = bitB (foldB (cs.take k)) (p.1 % 64).toNat (p.2 % 64).toNat := by
  unfold foldB
  rw [List.take_add_one, h]; simp [List.foldl_append]

end Go.Proofs.YtpfcgfgkmgnaaaaDoor
