/-
  The contracts of the engine's Turn (the delta swap) and of the reference's Sets.
-/
import Derived.Test.YtpfcgfgkmgnaaaaDoorKF
namespace Go.Proofs.YtpfcgfgkmgnaaaaDoor
open Go
attribute [local irreducible] G GO GQ Fn pt init exs pur sat

/-! ## Turn -/
def isS (s : Nat) : Prop := s = 32 ∨ s = 16 ∨ s = 8 ∨ s = 4 ∨ s = 2 ∨ s = 1
def topS (s : Nat) : Nat := if s = 0 then 1 else 2 * s
def mskW (s : Nat) : BitVec 64 := wd (fun c => c / s % 2 == 0) 64
theorem mskW_bit (s c : Nat) (hc : c < 64) : (mskW s).getLsbD c = (c / s % 2 == 0) := by unfold mskW; rw [wd_bit _ _ hc]; simp [hc]
theorem mskW_next {s : Nat} (h : isS s) : mskW (2 * s) ^^^ mskW (2 * s) <<< s = mskW s := by
  rcases h with rfl | rfl | rfl | rfl | rfl | rfl <;> rfl
theorem mskW_top : Value.int IntKind.u64 18446744073709551615 = u64 (mskW (topS 32)) := rfl
theorem bit_or {s : Nat} (h : isS s) : ∀ n, n < 64 → n / s % 2 = 0 → n ||| s = n + s ∧ n + s < 64 := by
  rcases h with rfl | rfl | rfl | rfl | rfl | rfl <;> decide
theorem bit_and {s : Nat} (h : isS s) : ∀ n, n < 64 → (n &&& s ≠ 0 ↔ ¬ n / s % 2 = 0) := by
  rcases h with rfl | rfl | rfl | rfl | rfl | rfl <;> decide
/-- The block where all bits of the numbers from s on are exchanged. -/
def pB (B : Blk) (s : Nat) : Blk := blkOf fun r c => (B (c / s * s + r % s)).getLsbD (r / s * s + c % s)
theorem pB_bit (B : Blk) (s r c : Nat) (hc : c < 64) : (pB B s r).getLsbD c = (B (c / s * s + r % s)).getLsbD (r / s * s + c % s) := blkOf_bit _ r c hc
theorem pB_same {s : Nat} (h : isS s) (B : Blk) (r c : Nat) (hc : c < 64) (e : c / s % 2 = r / s % 2) : (pB B s r).getLsbD c = (pB B (2 * s) r).getLsbD c := by
  rw [pB_bit B s r c hc, pB_bit B (2 * s) r c hc]
  have e1 : c / s * s + r % s = c / (2 * s) * (2 * s) + r % (2 * s) := by rcases h with rfl | rfl | rfl | rfl | rfl | rfl <;> omega
  have e2 : r / s * s + c % s = r / (2 * s) * (2 * s) + c % (2 * s) := by rcases h with rfl | rfl | rfl | rfl | rfl | rfl <;> omega
  rw [e1, e2]
theorem pB_up {s : Nat} (h : isS s) (B : Blk) (r c : Nat) (hc : c < 64) (ec : ¬ c / s % 2 = 0) (er : r / s % 2 = 0) : s ≤ c ∧ (c - s) / s % 2 = 0 ∧ (pB B s r).getLsbD c = (pB B (2 * s) (r + s)).getLsbD (c - s) := by
  have h1 : s ≤ c := by rcases h with rfl | rfl | rfl | rfl | rfl | rfl <;> omega
  have h2 : (c - s) / s % 2 = 0 := by rcases h with rfl | rfl | rfl | rfl | rfl | rfl <;> omega
  refine ⟨h1, h2, ?_⟩
  rw [pB_bit B s r c hc, pB_bit B (2 * s) (r + s) (c - s) (by omega)]
  have e1 : c / s * s + r % s = (c - s) / (2 * s) * (2 * s) + (r + s) % (2 * s) := by rcases h with rfl | rfl | rfl | rfl | rfl | rfl <;> omega
  have e2 : r / s * s + c % s = (r + s) / (2 * s) * (2 * s) + (c - s) % (2 * s) := by rcases h with rfl | rfl | rfl | rfl | rfl | rfl <;> omega
  rw [e1, e2]
theorem pB_dn {s : Nat} (h : isS s) (B : Blk) (n c : Nat) (hc : c < 64) (ec : c / s % 2 = 0) (er : n / s % 2 = 0) : c + s < 64 ∧ ¬ (c + s) / s % 2 = 0 ∧ (pB B s (n + s)).getLsbD c = (pB B (2 * s) n).getLsbD (c + s) := by
  have h1 : c + s < 64 := by rcases h with rfl | rfl | rfl | rfl | rfl | rfl <;> omega
  have h2 : ¬ (c + s) / s % 2 = 0 := by rcases h with rfl | rfl | rfl | rfl | rfl | rfl <;> omega
  refine ⟨h1, h2, ?_⟩
  rw [pB_bit B s (n + s) c hc, pB_bit B (2 * s) n (c + s) h1]
  have e1 : c / s * s + (n + s) % s = (c + s) / (2 * s) * (2 * s) + n % (2 * s) := by rcases h with rfl | rfl | rfl | rfl | rfl | rfl <;> omega
  have e2 : (n + s) / s * s + c % s = n / (2 * s) * (2 * s) + (c + s) % (2 * s) := by rcases h with rfl | rfl | rfl | rfl | rfl | rfl <;> omega
  rw [e1, e2]
/-- The word that both rows take up. -/
def dW (A : Blk) (s n : Nat) : BitVec 64 := (A n >>> s ^^^ A (n + s)) &&& mskW s
theorem dW_bit (A : Blk) (s n c : Nat) (hc : c < 64) : (dW A s n).getLsbD c = (((A n).getLsbD (s + c) ^^ (A (n + s)).getLsbD c) && (c / s % 2 == 0)) := by
  unfold dW; rw [BitVec.getLsbD_and, BitVec.getLsbD_xor, BitVec.getLsbD_ushiftRight, mskW_bit s c hc]
theorem row_one {s : Nat} (h : isS s) (B : Blk) (n : Nat) (hn : n < 64) (er : n / s % 2 = 0) : pB (B) (2 * s) n ^^^ dW (pB B (2 * s)) s n <<< s = pB B s n := eq_of_bits fun c hc => by
  rw [BitVec.getLsbD_xor, BitVec.getLsbD_shiftLeft]
  by_cases ec : c / s % 2 = 0
  · rw [pB_same h B n c hc (by omega)]
    by_cases hs : c < s
    · simp [hs]
    · have : ¬ (c - s) / s % 2 = 0 := by rcases h with rfl | rfl | rfl | rfl | rfl | rfl <;> omega
      rw [dW_bit _ s n (c - s) (by omega)]
      simp [beq_eq_false_iff_ne.mpr this]
  · obtain ⟨h1, h2, h3⟩ := pB_up h B n c hc ec er
    rw [h3, dW_bit _ s n (c - s) (by omega), show s + (c - s) = c by omega]
    simp [hc, h2, Nat.not_lt.mpr h1]
theorem row_two {s : Nat} (h : isS s) (B : Blk) (n : Nat) (hn : n < 64) (er : n / s % 2 = 0) : pB B (2 * s) (n + s) ^^^ dW (pB B (2 * s)) s n = pB B s (n + s) := eq_of_bits fun c hc => by
  rw [BitVec.getLsbD_xor, dW_bit _ s n c hc]
  by_cases ec : c / s % 2 = 0
  · obtain ⟨h1, h2, h3⟩ := pB_dn h B n c hc ec er
    rw [h3, Nat.add_comm s c]
    cases (pB B (2 * s) (n + s)).getLsbD c <;> simp [ec]
  · rw [pB_same h B (n + s) c hc (by rcases h with rfl | rfl | rfl | rfl | rfl | rfl <;> omega)]
    simp [beq_eq_false_iff_ne.mpr ec]
/-- The block while the rows are exchanged: the pairs whose lower row is below n are done. -/
def midB (B : Blk) (s n : Nat) : Blk := fun x => if x / (2 * s) * (2 * s) + x % s < n then pB B s x else pB B (2 * s) x
theorem midB_zero (B : Blk) (s : Nat) : cells (pB B (2 * s)) = cells (midB B s 0) := cells_congr fun i _ => by simp [midB]
theorem midB_end {s : Nat} (h : isS s) (B : Blk) : cells (midB B s 64) = cells (pB B s) := cells_congr fun i hi => by
  unfold midB
  rw [if_pos (by rcases h with rfl | rfl | rfl | rfl | rfl | rfl <;> omega)]
theorem midB_skip {s : Nat} (h : isS s) (B : Blk) (n : Nat) (hn : n < 64) (er : ¬ n / s % 2 = 0) : cells (midB B s n) = cells (midB B s (n + 1)) := cells_congr fun i hi => by
  unfold midB
  have : (i / (2 * s) * (2 * s) + i % s < n) ↔ (i / (2 * s) * (2 * s) + i % s < n + 1) := by rcases h with rfl | rfl | rfl | rfl | rfl | rfl <;> omega
  simp only [this]
theorem midB_at {s : Nat} (h : isS s) (B : Blk) (n : Nat) (hn : n < 64) (er : n / s % 2 = 0) : midB B s n n = pB B (2 * s) n ∧ midB B s n (n + s) = pB B (2 * s) (n + s) := by
  unfold midB
  rw [if_neg (by rcases h with rfl | rfl | rfl | rfl | rfl | rfl <;> omega), if_neg (by rcases h with rfl | rfl | rfl | rfl | rfl | rfl <;> omega)]
  exact ⟨rfl, rfl⟩
theorem midB_step {s : Nat} (h : isS s) (B : Blk) (n : Nat) (hn : n < 64) (er : n / s % 2 = 0) {x y : BitVec 64} (hx : x = pB B s n) (hy : y = pB B s (n + s)) : cells (updB (updB (midB B s n) n x) (n + s) y) = cells (midB B s (n + 1)) := cells_congr fun i hi => by
  subst hx; subst hy
  unfold updB midB
  by_cases h1 : i = n + s
  · subst h1
    rw [if_pos rfl, if_pos (by rcases h with rfl | rfl | rfl | rfl | rfl | rfl <;> omega)]
  · rw [if_neg h1]
    by_cases h2 : i = n
    · subst h2
      rw [if_pos rfl, if_pos (by rcases h with rfl | rfl | rfl | rfl | rfl | rfl <;> omega)]
    · rw [if_neg h2]
      have : (i / (2 * s) * (2 * s) + i % s < n) ↔ (i / (2 * s) * (2 * s) + i % s < n + 1) := by rcases h with rfl | rfl | rfl | rfl | rfl | rfl <;> omega
      simp only [this]
theorem pB_first (B : Blk) : cells B = cells (pB B (topS 32)) := cells_congr fun i hi => eq_of_bits fun c hc => by
  rw [pB_bit B _ i c hc]
  have e1 : c / topS 32 * topS 32 + i % topS 32 = i := by show c / (2 * 32) * (2 * 32) + i % (2 * 32) = i; omega
  have e2 : i / topS 32 * topS 32 + c % topS 32 = c := by show i / (2 * 32) * (2 * 32) + c % (2 * 32) = c; omega
  rw [e1, e2]
theorem pB_last (B : Blk) : cells (pB B (topS 0)) = cells (turnB B) := cells_congr fun i hi => eq_of_bits fun c hc => by
  rw [pB_bit B _ i c hc]
  unfold turnB; rw [blkOf_bit _ i c hc]; unfold turnP
  have e1 : c / topS 0 * topS 0 + i % topS 0 = c := by show c / 1 * 1 + i % 1 = c; omega
  have e2 : i / topS 0 * topS 0 + c % topS 0 = i := by show i / 1 * 1 + c % 1 = i; omega
  rw [e1, e2]
theorem isS_next {s : Nat} (h : isS s) : (s / 2 = 0 ∨ isS (s / 2)) ∧ topS (s / 2) = s := by
  unfold isS at *
  rcases h with rfl | rfl | rfl | rfl | rfl | rfl <;> decide
end Go.Proofs.YtpfcgfgkmgnaaaaDoor
