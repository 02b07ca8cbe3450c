/-
  The laws BlockRing and BlockTurned.
-/
import Derived.Test.YtpfcgfgkmgnaaaaDoorKD
import Derived.Test.YtpfcgfgkmgnaaaaDoorKK
namespace Go.Proofs.YtpfcgfgkmgnaaaaDoor
open Go
attribute [local irreducible] G GO GQ Fn pt init exs pur sat

/-! ## The plain laws -/
theorem mulB_bit (A B : Blk) (r c : Nat) : (mulB A B r).getLsbD c = true ↔ ∃ k, k < 64 ∧ (A r).getLsbD k = true ∧ (B k).getLsbD c = true := mulRow_bit _ _ _
theorem mul_assoc (A B C : Blk) (i : Nat) : mulB (mulB A B) C i = mulB A (mulB B C) i := eq_of_bits_iff fun c _ => by
  rw [mulB_bit, mulB_bit]
  constructor
  · rintro ⟨k, h1, h2, h3⟩
    obtain ⟨l, h4, h5, h6⟩ := (mulB_bit _ _ _ _).1 h2
    exact ⟨l, h4, h5, (mulB_bit _ _ _ _).2 ⟨k, h1, h6, h3⟩⟩
  · rintro ⟨k, h1, h2, h3⟩
    obtain ⟨l, h4, h5, h6⟩ := (mulB_bit _ _ _ _).1 h3
    exact ⟨l, h4, (mulB_bit _ _ _ _).2 ⟨k, h1, h2, h5⟩, h6⟩
theorem oneB_bit (r c : Nat) (hr : r < 64) (hc : c < 64) : (oneB r).getLsbD c = decide (c = r) := by
  unfold oneB diagB; rw [if_pos hr, getLsbD_bit c r hc]
theorem one_mul (A : Blk) (i : Nat) (hi : i < 64) : mulB oneB A i = A i := eq_of_bits_iff fun c _ => by
  rw [mulB_bit]
  constructor
  · rintro ⟨k, h1, h2, h3⟩
    rw [oneB_bit i k hi h1] at h2
    have : k = i := of_decide_eq_true h2
    subst this; exact h3
  · intro h
    exact ⟨i, hi, by rw [oneB_bit i i hi hi]; simp, h⟩
theorem mul_one (A : Blk) (i : Nat) : mulB A oneB i = A i := eq_of_bits_iff fun c hc => by
  rw [mulB_bit]
  constructor
  · rintro ⟨k, h1, h2, h3⟩
    rw [oneB_bit k c h1 hc] at h3
    have : c = k := of_decide_eq_true h3
    subst this; exact h2
  · intro h
    exact ⟨c, hc, h, by rw [oneB_bit c c hc hc]; simp⟩
theorem orB_bit (A B : Blk) (r c : Nat) : (orB A B r).getLsbD c = true ↔ (A r).getLsbD c = true ∨ (B r).getLsbD c = true := by
  unfold orB; rw [BitVec.getLsbD_or, Bool.or_eq_true]
theorem mul_or (A B C : Blk) (i : Nat) : mulB A (orB B C) i = orB (mulB A B) (mulB A C) i := eq_of_bits_iff fun c _ => by
  rw [mulB_bit, orB_bit, mulB_bit, mulB_bit]
  constructor
  · rintro ⟨k, h1, h2, h3⟩
    rcases (orB_bit _ _ _ _).1 h3 with h | h
    · exact .inl ⟨k, h1, h2, h⟩
    · exact .inr ⟨k, h1, h2, h⟩
  · rintro (⟨k, h1, h2, h3⟩ | ⟨k, h1, h2, h3⟩)
    · exact ⟨k, h1, h2, (orB_bit _ _ _ _).2 (.inl h3)⟩
    · exact ⟨k, h1, h2, (orB_bit _ _ _ _).2 (.inr h3)⟩
theorem or_mul (A B C : Blk) (i : Nat) : mulB (orB A B) C i = orB (mulB A C) (mulB B C) i := eq_of_bits_iff fun c _ => by
  rw [mulB_bit, orB_bit, mulB_bit, mulB_bit]
  constructor
  · rintro ⟨k, h1, h2, h3⟩
    rcases (orB_bit _ _ _ _).1 h2 with h | h
    · exact .inl ⟨k, h1, h, h3⟩
    · exact .inr ⟨k, h1, h, h3⟩
  · rintro (⟨k, h1, h2, h3⟩ | ⟨k, h1, h2, h3⟩)
    · exact ⟨k, h1, (orB_bit _ _ _ _).2 (.inl h2), h3⟩
    · exact ⟨k, h1, (orB_bit _ _ _ _).2 (.inr h2), h3⟩
theorem turnB_bit (A : Blk) (r c : Nat) (hc : c < 64) : (turnB A r).getLsbD c = (A c).getLsbD r := blkOf_bit _ r c hc
theorem turn_turn (A : Blk) (i : Nat) (hi : i < 64) : turnB (turnB A) i = A i := eq_of_bits fun c hc => by rw [turnB_bit _ i c hc, turnB_bit _ c i hi]
theorem turn_mul (A B : Blk) (i : Nat) (hi : i < 64) : turnB (mulB A B) i = mulB (turnB B) (turnB A) i := eq_of_bits_iff fun c hc => by
  rw [turnB_bit _ i c hc, mulB_bit, mulB_bit]
  constructor
  · rintro ⟨k, h1, h2, h3⟩
    exact ⟨k, h1, by rw [turnB_bit _ i k h1]; exact h3, by rw [turnB_bit _ k c hc]; exact h2⟩
  · rintro ⟨k, h1, h2, h3⟩
    rw [turnB_bit _ i k h1] at h2
    rw [turnB_bit _ k c hc] at h3
    exact ⟨k, h1, h3, h2⟩
theorem bit_two (x : BitVec 64) (k : Nat) : x >>> k % 2#64 = if x.getLsbD k then 1#64 else 0#64 := by
  have h := has_eq x k
  cases hb : x.getLsbD k
  · rw [hb] at h
    have h1 : ¬ x >>> k % 2#64 = 1#64 := of_decide_eq_false h
    have h2 : (2#64).toNat = 2 := rfl
    apply BitVec.eq_of_toNat_eq
    rw [BitVec.toNat_umod, h2]
    have h3 : ¬ (x >>> k).toNat % 2 = 1 := fun e => h1 (BitVec.eq_of_toNat_eq (by rw [BitVec.toNat_umod, h2, e]; rfl))
    show (x >>> k).toNat % 2 = (0#64).toNat
    have h4 : (0#64).toNat = 0 := rfl
    omega
  · rw [hb] at h
    exact of_decide_eq_true h

end Go.Proofs.YtpfcgfgkmgnaaaaDoor
