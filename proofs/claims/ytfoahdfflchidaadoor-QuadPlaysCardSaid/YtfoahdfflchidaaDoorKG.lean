/-
  The contracts of the engine's Turn (the delta swap) and of the reference's Sets.
-/
import Derived.Test.YtfoahdfflchidaaDoorKF
namespace Go.Proofs.YtfoahdfflchidaaDoor
open Go
attribute [local irreducible] G GO GQ Fn pt init exs pur sat

/-! ## Turn -/
def isS (s : Nat) : Prop := s = 32 ∨ s = 16 ∨ s = 8 ∨ s = 4 ∨ s = 2 ∨ s = 1
def topS (s : Nat) : Nat := if s = 0 then 1 else 2 * s
def mskW (s : Nat) : BitVec 64 := wd (fun c => c / s % 2 == 0) 64
theorem mskW_bit (s c : Nat) (hc : c < 64) : (mskW s).getLsbD c = (c / s % 2 == 0) := by unfold mskW; rw [wd_bit _ _ hc]; simp [hc]
theorem mskW_next {s : Nat} (h : isS s) : mskW (2 * s) ^^^ mskW (2 * s) <<< s = mskW s := by
  rcases h with rfl | rfl | rfl | rfl | rfl | rfl <;> rfl
theorem mskW_top : Value.int IntKind.u64 18446744073709551615 = u64 (mskW (topS 32)) := rfl
theorem bit_or {s : Nat} (h : isS s) : ∀ n, n < 64 → n / s % 2 = 0 → n ||| s = n + s ∧ n + s < 64 := by
  rcases h with rfl | rfl | rfl | rfl | rfl | rfl <;> decide
theorem bit_and {s : Nat} (h : isS s) : ∀ n, n < 64 → (n &&& s ≠ 0 ↔ ¬ n / s % 2 = 0) := by
  rcases h with rfl | rfl | rfl | rfl | rfl | rfl <;> decide
/-- The block where all bits of the numbers from s on are exchanged. -/
def pB (B : Blk) (s : Nat) : Blk := blkOf fun r c => (B (c / s * s + r % s)).getLsbD (r / s * s + c % s)
theorem pB_bit (B : Blk) (s r c : Nat) (hc : c < 64) : (pB B s r).getLsbD c = (B (c / s * s + r % s)).getLsbD (r / s * s + c % s) := blkOf_bit _ r c hc
theorem pB_same {s : Nat} (h : isS s) (B : Blk) (r c : Nat) (hc : c < 64) (e : c / s % 2 = r / s % 2) : (pB B s r).getLsbD c = (pB B (2 * s) r).getLsbD c := by
  rw [pB_bit B s r c hc, pB_bit B (2 * s) r c hc]
  have e1 : c / s * s + r % s = c / (2 * s) * (2 * s) + r % (2 * s) := by rcases h with rfl | rfl | rfl | rfl | rfl | rfl <;> omega
  have e2 : r / s * s + c % s = r / (2 * s) * (2 * s) + c % (2 * s) := by rcases h with rfl | rfl | rfl | rfl | rfl | rfl <;> omega
  rw [e1, e2]
theorem pB_up {s : Nat} (h : isS s) (B : Blk) (r c : Nat) (hc : c < 64) (ec : ¬ c / s % 2 = 0) (er : r / s % 2 = 0) : s ≤ c ∧ (c - s) / s % 2 = 0 ∧ (pB B s r).getLsbD c = (pB B (2 * s) (r + s)).getLsbD (c - s) := by
  have h1 : s ≤ c := by rcases h with rfl | rfl | rfl | rfl | rfl | rfl <;> omega
  have h2 : (c - s) / s % 2 = 0 := by rcases h with rfl | rfl | rfl | rfl | rfl | rfl <;> omega
  refine ⟨h1, h2, ?_⟩
  rw [pB_bit B s r c hc, pB_bit B (2 * s) (r + s) (c - s) (by omega)]
  have e1 : c / s * s + r % s = (c - s) / (2 * s) * (2 * s) + (r + s) % (2 * s) := by rcases h with rfl | rfl | rfl | rfl | rfl | rfl <;> omega
  have e2 : r / s * s + c % s = (r + s) / (2 * s) * (2 * s) + (c - s) % (2 * s) := by rcases h with rfl | rfl | rfl | rfl | rfl | rfl <;> omega
  rw [e1, e2]
theorem pB_dn {s : Nat} (h : isS s) (B : Blk) (n c : Nat) (hc : c < 64) (ec : c / s % 2 = 0) (er : n / s % 2 = 0) : c + s < 64 ∧ ¬ (c + s) / s % 2 = 0 ∧ (pB B s (n + s)).getLsbD c = (pB B (2 * s) n).getLsbD (c + s) := by
  have h1 : c + s < 64 := by rcases h with rfl | rfl | rfl | rfl | rfl | rfl <;> omega
  have h2 : ¬ (c + s) / s % 2 = 0 := by rcases h with rfl | rfl | rfl | rfl | rfl | rfl <;> omega
  refine ⟨h1, h2, ?_⟩
  rw [pB_bit B s (n + s) c hc, pB_bit B (2 * s) n (c + s) h1]
  have e1 : c / s * s + (n + s) % s = (c + s) / (2 * s) * (2 * s) + n % (2 * s) := by rcases h with rfl | rfl | rfl | rfl | rfl | rfl <;> omega
  have e2 : (n + s) / s * s + c % s = n / (2 * s) * (2 * s) + (c + s) % (2 * s) := by rcases h with rfl | rfl | rfl | rfl | rfl | rfl <;> omega
  rw [e1, e2]
/-- The word that both rows take up. -/
def dW (A : Blk) (s n : Nat) : BitVec 64 := (A n >>> s ^^^ A (n + s)) &&& mskW s
theorem dW_bit (A : Blk) (s n c : Nat) (hc : c < 64) : (dW A s n).getLsbD c = (((A n).getLsbD (s + c) ^^ (A (n + s)).getLsbD c) && (c / s % 2 == 0)) := by
  unfold dW; rw [BitVec.getLsbD_and, BitVec.getLsbD_xor, BitVec.getLsbD_ushiftRight, mskW_bit s c hc]
theorem row_one {s : Nat} (h : isS s) (B : Blk) (n : Nat) (hn : n < 64) (er : n / s % 2 = 0) : pB (B) (2 * s) n ^^^ dW (pB B (2 * s)) s n <<< s = pB B s n := eq_of_bits fun c hc => by
  rw [BitVec.getLsbD_xor, BitVec.getLsbD_shiftLeft]
  by_cases ec : c / s % 2 = 0
  · rw [pB_same h B n c hc (by omega)]
    by_cases hs : c < s
    · simp [hs]
    · have : ¬ (c - s) / s % 2 = 0 := by rcases h with rfl | rfl | rfl | rfl | rfl | rfl <;> omega
      rw [dW_bit _ s n (c - s) (by omega)]
      simp [beq_eq_false_iff_ne.mpr this]
  · obtain ⟨h1, h2, h3⟩ := pB_up h B n c hc ec er
    rw [h3, dW_bit _ s n (c - s) (by omega), show s + (c - s) = c by omega]
    simp [hc, h2, Nat.not_lt.mpr h1]
theorem row_two {s : Nat} (h : isS s) (B : Blk) (n : Nat) (hn : n < 64) (er : n / s % 2 = 0) : pB B (2 * s) (n + s) ^^^ dW (pB B (2 * s)) s n = pB B s (n + s) := eq_of_bits fun c hc => by
  rw [BitVec.getLsbD_xor, dW_bit _ s n c hc]
  by_cases ec : c / s % 2 = 0
  · obtain ⟨h1, h2, h3⟩ := pB_dn h B n c hc ec er
    rw [h3, Nat.add_comm s c]
    cases (pB B (2 * s) (n + s)).getLsbD c <;> simp [ec]
  · rw [pB_same h B (n + s) c hc (by rcases h with rfl | rfl | rfl | rfl | rfl | rfl <;> omega)]
    simp [beq_eq_false_iff_ne.mpr ec]
/-- The block while the rows are exchanged: the pairs whose lower row is below n are done. -/
def midB (B : Blk) (s n : Nat) : Blk := fun x => if x / (2 * s) * (2 * s) + x % s < n then pB B s x else pB B (2 * s) x
theorem midB_zero (B : Blk) (s : Nat) : cells (pB B (2 * s)) = cells (midB B s 0) := cells_congr fun i _ => by simp [midB]
theorem midB_end {s : Nat} (h : isS s) (B : Blk) : cells (midB B s 64) = cells (pB B s) := cells_congr fun i hi => by
  unfold midB
  rw [if_pos (by rcases h with rfl | rfl | rfl | rfl | rfl | rfl <;> omega)]
theorem midB_skip {s : Nat} (h : isS s) (B : Blk) (n : Nat) (hn : n < 64) (er : ¬ n / s % 2 = 0) : cells (midB B s n) = cells (midB B s (n + 1)) := cells_congr fun i hi => by
  unfold midB
  have : (i / (2 * s) * (2 * s) + i % s < n) ↔ (i / (2 * s) * (2 * s) + i % s < n + 1) := by rcases h with rfl | rfl | rfl | rfl | rfl | rfl <;> omega
  simp only [this]
theorem midB_at {s : Nat} (h : isS s) (B : Blk) (n : Nat) (hn : n < 64) (er : n / s % 2 = 0) : midB B s n n = pB B (2 * s) n ∧ midB B s n (n + s) = pB B (2 * s) (n + s) := by
  unfold midB
  rw [if_neg (by rcases h with rfl | rfl | rfl | rfl | rfl | rfl <;> omega), if_neg (by rcases h with rfl | rfl | rfl | rfl | rfl | rfl <;> omega)]
  exact ⟨rfl, rfl⟩
theorem midB_step {s : Nat} (h : isS s) (B : Blk) (n : Nat) (hn : n < 64) (er : n / s % 2 = 0) {x y : BitVec 64} (hx : x = pB B s n) (hy : y = pB B s (n + s)) : cells (updB (updB (midB B s n) n x) (n + s) y) = cells (midB B s (n + 1)) := cells_congr fun i hi => by
  subst hx; subst hy
  unfold updB midB
  by_cases h1 : i = n + s
  · subst h1
    rw [if_pos rfl, if_pos (by rcases h with rfl | rfl | rfl | rfl | rfl | rfl <;> omega)]
  · rw [if_neg h1]
    by_cases h2 : i = n
    · subst h2
      rw [if_pos rfl, if_pos (by rcases h with rfl | rfl | rfl | rfl | rfl | rfl <;> omega)]
    · rw [if_neg h2]
      have : (i / (2 * s) * (2 * s) + i % s < n) ↔ (i / (2 * s) * (2 * s) + i % s < n + 1) := by rcases h with rfl | rfl | rfl | rfl | rfl | rfl <;> omega
      simp only [this]
theorem pB_first (B : Blk) : cells B = cells (pB B (topS 32)) := cells_congr fun i hi => eq_of_bits fun c hc => by
  rw [pB_bit B _ i c hc]
  have e1 : c / topS 32 * topS 32 + i % topS 32 = i := by show c / (2 * 32) * (2 * 32) + i % (2 * 32) = i; omega
  have e2 : i / topS 32 * topS 32 + c % topS 32 = c := by show i / (2 * 32) * (2 * 32) + c % (2 * 32) = c; omega
  rw [e1, e2]
theorem pB_last (B : Blk) : cells (pB B (topS 0)) = cells (turnB B) := cells_congr fun i hi => eq_of_bits fun c hc => by
  rw [pB_bit B _ i c hc]
  unfold turnB; rw [blkOf_bit _ i c hc]; unfold turnP
  have e1 : c / topS 0 * topS 0 + i % topS 0 = c := by show c / 1 * 1 + i % 1 = c; omega
  have e2 : i / topS 0 * topS 0 + c % topS 0 = i := by show i / 1 * 1 + c % 1 = i; omega
  rw [e1, e2]
theorem isS_next {s : Nat} (h : isS s) : (s / 2 = 0 ∨ isS (s / 2)) ∧ topS (s / 2) = s := by
  unfold isS at *
  rcases h with rfl | rfl | rfl | rfl | rfl | rfl <;> decide
set_option maxHeartbeats 2000000 in
theorem turn_spec (B : Blk) : Fn Tryd.prog 40 #[blk B] [] (fun v Q => v = blk (turnB B) ∧ Q = []) := by
  refine Fn.mk Tryd.func40 rfl rfl fun w0 F => ?_
  (refine G.seq ?_; refine G.region ?_)
  refine GO.box rfl rfl rfl fun b1 => ?_
  refine GO.alloc rfl fun b2 => ?_
  rw [cells_zero, pB_first B]
  (refine GO.nil ?_; refine kthen_n ?_; refine G.seq ?_; refine G.region ?_; refine GO.assign rfl rfl ?_; refine GO.nil ?_; refine kthen_n ?_; refine G.seq ?_; refine G.seq ?_; refine G.region ?_; refine GO.assign rfl rfl ?_; refine GO.nil ?_; refine kthen_n ?_; refine G.block ?_)
  rw [mskW_top]
  refine G.loop (fun s : Nat => [(1, .pointer (some ⟨b1, 0, none⟩)), (2, .pointer (some ⟨b2, 0, none⟩)), (3, u64 (mskW (topS s))), (4, i64 s)])
    (fun s => pt b1 (row (cells (pB B (topS s))) 77) :: pt b2 (row (cells zeroB) 77) :: F) (fun s => s = 0 ∨ isS s) (fun s => s) 32 (Or.inr (Or.inl rfl)) ?_ ?_ ?_
  · (refine SubE.c rfl rfl ?_; refine SubE.c rfl rfl ?_; refine SubE.c rfl rfl ?_; refine SubE.c rfl rfl ?_; exact SubE.n)
  · ((refine Sb.c (Tk.t Tk.h) ?_; refine Sb.c Tk.h ?_); (exact Sb.r))
  intro s hs
  (refine G.seq ?_; refine G.seq ?_; refine G.region ?_; refine GO.move rfl rfl ?_; refine GO.gti rfl rfl rfl ?_; refine GO.nil ?_; refine kthen_n ?_)
  refine G.condD rfl (fun hlt => ?_) (fun hge => ?_)
  · have hS : isS s := by rcases hs with h | h; · omega
                          · exact h
    have hs1 : 1 ≤ s ∧ s ≤ 32 := by rcases hS with rfl | rfl | rfl | rfl | rfl | rfl <;> omega
    obtain ⟨hn1, hn2⟩ := isS_next hS
    have ht : topS s = 2 * s := by unfold topS; rw [if_neg (by omega)]
    rw [ht]
    (refine G.skip ?_; refine kthen_n ?_; refine G.seq ?_; refine G.block ?_; refine G.seq ?_; refine G.region ?_; refine GO.move rfl rfl ?_; refine GO.move rfl rfl ?_; refine GO.move rfl rfl ?_; refine GO.shlu rfl rfl rfl ?_; refine GO.xoru rfl rfl rfl ?_; refine GO.assign rfl rfl ?_; refine GO.nil ?_; refine kthen_n ?_; refine G.seq ?_; refine G.region ?_; refine GO.assign rfl rfl ?_; refine GO.nil ?_; refine kthen_n ?_; refine G.block ?_)
    rw [mskW_next hS, midB_zero]
    refine G.loop (fun n : Nat => [(1, .pointer (some ⟨b1, 0, none⟩)), (2, .pointer (some ⟨b2, 0, none⟩)), (3, u64 (mskW s)), (4, i64 s), (5, i64 n)])
      (fun n => pt b1 (row (cells (midB B s n)) 77) :: pt b2 (row (cells zeroB) 77) :: F) (fun n => n ≤ 64) (fun n => 64 - n) 0 (by omega) ?_ ?_ ?_
    · (refine SubE.c rfl rfl ?_; refine SubE.c rfl rfl ?_; refine SubE.c rfl rfl ?_; refine SubE.c rfl rfl ?_; refine SubE.c rfl rfl ?_; exact SubE.n)
    · ((refine Sb.c Tk.h ?_; refine Sb.c Tk.h ?_); (exact Sb.r))
    intro n hn
    (refine G.seq ?_; refine G.seq ?_; refine G.region ?_; refine GO.move rfl rfl ?_; refine GO.lti rfl rfl rfl ?_; refine GO.nil ?_; refine kthen_n ?_)
    refine G.condD rfl (fun hlt2 => ?_) (fun hge2 => ?_)
    · have hn64 : n < 64 := by omega
      have hand := bit_and hS n hn64
      (refine G.skip ?_; refine kthen_n ?_; refine G.seq ?_; refine G.block ?_; refine G.seq ?_; refine G.seq ?_; refine G.region ?_; refine GO.move rfl rfl ?_; refine GO.move rfl rfl ?_; refine GO.andi rfl rfl rfl (by omega) ?_; refine GO.nei rfl rfl rfl ?_; refine GO.nil ?_; refine kthen_n ?_)
      refine G.condD rfl (fun hb => ?_) (fun hb => ?_)
      · have er : ¬ n / s % 2 = 0 := hand.mp (by omega)
        have hk := midB_skip hS B n hn64 er
        (refine G.exit ?_; refine G.region ?_; refine GO.move rfl rfl ?_; refine GO.addi rfl rfl rfl (by omega) ?_; refine GO.assign rfl rfl ?_; refine GO.nil ?_; refine kthen_n ?_)
        refine ⟨n + 1, by omega, by omega, ?_, ?_⟩
        · (refine SubE.c rfl rfl ?_; refine SubE.c rfl rfl ?_; refine SubE.c rfl rfl ?_; refine SubE.c rfl rfl ?_; refine SubE.c rfl rfl ?_; exact SubE.n)
        · rw [← hk]; ((refine Sb.c Tk.h ?_; refine Sb.c Tk.h ?_); (exact Sb.r))
      · have er : n / s % 2 = 0 := by
          by_cases e : n / s % 2 = 0
          · exact e
          · have := hand.mpr e; omega
        obtain ⟨ho, ho2⟩ := bit_or hS n hn64 er
        obtain ⟨ha1, ha2⟩ := midB_at hS B n hn64 er
        (refine G.skip ?_; refine kthen_n ?_; refine G.seq ?_)
        refine G.draw 12 (by kernel_rfl) ?_
        ((apply GQ.step; focus (intro Z; refine GO.move rfl rfl ?_; exact KQ.z)); (apply GQ.step; focus (intro Z; refine GO.idxA rfl rfl rfl ⟨rfl, by omega⟩ ?_; exact KQ.z)))
        apply GQ.step; focus (intro Z; refine GO.load1 rfl rfl rfl Tk.h (cells_get _ (j := n) (by omega) (by omega)) ?_; exact KQ.z)
        ((apply GQ.step; focus (intro Z; refine GO.move rfl rfl ?_; exact KQ.z)); (apply GQ.step; focus (intro Z; refine GO.shru rfl rfl rfl ?_; exact KQ.z)); (apply GQ.step; focus (intro Z; refine GO.move rfl rfl ?_; exact KQ.z)); (apply GQ.step; focus (intro Z; refine GO.move rfl rfl ?_; exact KQ.z)); (apply GQ.step; focus (intro Z; refine GO.ori rfl rfl rfl (by omega) ?_; exact KQ.z)); (apply GQ.step; focus (intro Z; refine GO.idxA rfl rfl rfl ⟨rfl, by omega⟩ ?_; exact KQ.z)))
        apply GQ.step; focus (intro Z; refine GO.load1 rfl rfl rfl Tk.h (cells_get _ (j := n + s) (by omega) (by omega)) ?_; exact KQ.z)
        ((apply GQ.step; focus (intro Z; refine GO.xoru rfl rfl rfl ?_; exact KQ.z)); (apply GQ.step; focus (intro Z; refine GO.move rfl rfl ?_; exact KQ.z)))
        refine GQ.nil ?_
        (refine GO.andu rfl rfl rfl ?_; refine GO.assign rfl rfl ?_; refine GO.nil ?_; refine kthen_n ?_; refine G.seq ?_)
        rw [ha1, ha2]
        refine G.draw 8 (by kernel_rfl) ?_
        ((apply GQ.step; focus (intro Z; refine GO.move rfl rfl ?_; exact KQ.z)); (apply GQ.step; focus (intro Z; refine GO.idxA rfl rfl rfl ⟨rfl, by omega⟩ ?_; exact KQ.z)))
        apply GQ.step; focus (intro Z; refine GO.load1 rfl rfl rfl Tk.h (cells_get _ (j := n) (by omega) (by omega)) ?_; exact KQ.z)
        ((apply GQ.step; focus (intro Z; refine GO.move rfl rfl ?_; exact KQ.z)); (apply GQ.step; focus (intro Z; refine GO.move rfl rfl ?_; exact KQ.z)); (apply GQ.step; focus (intro Z; refine GO.shlu rfl rfl rfl ?_; exact KQ.z)); (apply GQ.step; focus (intro Z; refine GO.xoru rfl rfl rfl ?_; exact KQ.z)); (apply GQ.step; focus (intro Z; refine GO.idxA rfl rfl rfl ⟨rfl, by omega⟩ ?_; exact KQ.z)))
        refine GQ.nil ?_
        refine GO.store1 rfl rfl rfl Tk.h (by rw [cells_len]; omega) ?_
        rw [cells_set (midB B s n) _ (show 0 + n * 1 = n by omega)]
        (refine GO.nil ?_; refine kthen_n ?_; refine G.region ?_; refine GO.move rfl rfl ?_; refine GO.move rfl rfl ?_; refine GO.ori rfl rfl rfl (by omega) ?_; refine GO.idxA rfl rfl rfl ⟨rfl, by omega⟩ ?_)
        refine GO.load1 rfl rfl rfl Tk.h (cells_get _ (j := n + s) (by omega) (by omega)) ?_
        (refine GO.move rfl rfl ?_; refine GO.xoru rfl rfl rfl ?_; refine GO.idxA rfl rfl rfl ⟨rfl, by omega⟩ ?_)
        refine GO.store1 rfl rfl rfl Tk.h (by rw [cells_len]; omega) ?_
        rw [cells_set _ _ (show 0 + (n ||| s) * 1 = n + s by omega), midB_step hS B n hn64 er (by rw [ha1]; exact row_one hS B n hn64 er) (by unfold updB; rw [if_neg (by omega), ha2]; exact row_two hS B n hn64 er)]
        (refine GO.nil ?_; refine kblock_n ?_; refine kthen_n ?_; refine G.region ?_; refine GO.move rfl rfl ?_; refine GO.addi rfl rfl rfl (by omega) ?_; refine GO.assign rfl rfl ?_; refine GO.nil ?_; refine kthen_n ?_)
        refine ⟨n + 1, by omega, by omega, ?_, ?_⟩
        · (refine SubE.c rfl rfl ?_; refine SubE.c rfl rfl ?_; refine SubE.c rfl rfl ?_; refine SubE.c rfl rfl ?_; refine SubE.c rfl rfl ?_; exact SubE.n)
        · ((refine Sb.c Tk.h ?_; refine Sb.c Tk.h ?_); (exact Sb.r))
    · have : n = 64 := by omega
      subst this
      (refine G.exit ?_; refine G.region ?_; refine GO.move rfl rfl ?_; refine GO.quoi rfl rfl rfl (by omega) ?_; refine GO.assign rfl rfl ?_; refine GO.nil ?_; refine kthen_n ?_)
      refine ⟨s / 2, hn1, by omega, ?_, ?_⟩
      · rw [hn2]; (refine SubE.c rfl rfl ?_; refine SubE.c rfl rfl ?_; refine SubE.c rfl rfl ?_; refine SubE.c rfl rfl ?_; exact SubE.n)
      · rw [hn2, ← midB_end hS B]; ((refine Sb.c Tk.h ?_; refine Sb.c Tk.h ?_); (exact Sb.r))
  · have : s = 0 := by omega
    subst this
    (refine G.exit ?_; refine G.seq ?_; refine G.region ?_)
    refine GO.loadW rfl rfl rfl Tk.h (cells_len _) ?_
    refine GO.storeW rfl rfl (Tk.t Tk.h) ⟨cells_len _, cells_len _⟩ (cells_one _) ?_
    (refine GO.nil ?_; refine kthen_n ?_; refine G.ret ?_)
    refine KF.r1 rfl (RV.cW rfl rfl Tk.h (cells_len _)) ⟨?_, rfl⟩ ?_
    · rw [pB_last]
    · (skip; (refine Sb.s ?_; refine Sb.s ?_; exact Sb.r))
end Go.Proofs.YtfoahdfflchidaaDoor
