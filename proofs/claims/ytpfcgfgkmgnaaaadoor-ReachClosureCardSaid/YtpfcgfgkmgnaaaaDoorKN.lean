/-
  The engine's Close, and the law BlockLeast.
-/
import Derived.Test.YtpfcgfgkmgnaaaaDoorKL
namespace Go.Proofs.YtpfcgfgkmgnaaaaDoor
open Go
attribute [local irreducible] G GO GQ Fn pt init exs pur sat

/-! ## Close -/
def wstep (k : Nat) (A : Blk) : Blk := fun r => if (A r).getLsbD k then A r ||| A k else A r
def warsh (A : Blk) : Nat → Blk
  | 0 => A
  | k + 1 => wstep k (warsh A k)
def closeB (A : Blk) : Blk := warsh A 64
theorem wstep_at (k : Nat) (A : Blk) : wstep k A k = A k := by unfold wstep; split <;> simp
theorem mixB_k (k r : Nat) (A : Blk) : mixB (wstep k A) A r k = A k := by unfold mixB; split; exact wstep_at k A; rfl
theorem mixB_same {W X : Blk} {r : Nat} (h : W r = X r) : mixB W X r = mixB W X (r + 1) := by
  funext i; unfold mixB
  by_cases e : i = r
  · subst e; simp [h]
  · have : i < r ↔ i < r + 1 := by omega
    simp only [this]
/-! ## What is reached -/
inductive Pth (A : Blk) (n : Nat) : Nat → Nat → Prop
  | one {r j : Nat} : (A r).getLsbD j = true → Pth A n r j
  | via {r m j : Nat} : Pth A n r m → m < n → Pth A n m j → Pth A n r j
theorem Pth.more {A : Blk} {n r j : Nat} (h : Pth A n r j) : Pth A (n + 1) r j := by
  induction h with
  | one h => exact .one h
  | via _ h _ a b => exact .via a (by omega) b
theorem Pth.succ {A : Blk} {n r j : Nat} : Pth A (n + 1) r j ↔ Pth A n r j ∨ (Pth A n r n ∧ Pth A n n j) := by
  constructor
  · intro h
    induction h with
    | one h => exact .inl (.one h)
    | @via r m j _ hm _ a b =>
      by_cases e : m = n
      · subst e
        refine .inr ⟨?_, ?_⟩
        · rcases a with a | a
          · exact a
          · exact a.1
        · rcases b with b | b
          · exact b
          · exact b.2
      · have hm' : m < n := by omega
        rcases a with a | ⟨a1, a2⟩ <;> rcases b with b | ⟨b1, b2⟩
        · exact .inl (.via a hm' b)
        · exact .inr ⟨.via a hm' b1, b2⟩
        · exact .inr ⟨a1, .via a2 hm' b⟩
        · exact .inr ⟨a1, b2⟩
  · rintro (h | ⟨h1, h2⟩)
    · exact h.more
    · exact .via h1.more (by omega) h2.more
theorem warsh_bit (A : Blk) : ∀ k r j, (warsh A k r).getLsbD j = true ↔ Pth A k r j
  | 0, r, j => ⟨.one, fun h => by
    induction h with
    | one h => exact h
    | via _ h _ _ _ => omega⟩
  | k + 1, r, j => by
    rw [Pth.succ, ← warsh_bit A k r j, ← warsh_bit A k r k, ← warsh_bit A k k j]
    show (wstep k (warsh A k) r).getLsbD j = true ↔ _
    unfold wstep
    cases hb : (warsh A k r).getLsbD k <;> simp
theorem closeB_bit (A : Blk) (r j : Nat) : (closeB A r).getLsbD j = true ↔ Pth A 64 r j := warsh_bit A 64 r j
theorem sub_iff {x y : BitVec 64} : x &&& y = x ↔ ∀ j, j < 64 → x.getLsbD j = true → y.getLsbD j = true := by
  constructor
  · intro h j _ hx
    rw [← h, BitVec.getLsbD_and, Bool.and_eq_true] at hx
    exact hx.2
  · intro h
    refine eq_of_bits_iff fun j hj => ?_
    rw [BitVec.getLsbD_and, Bool.and_eq_true]
    exact ⟨fun a => a.1, fun a => ⟨a, h j hj a⟩⟩
theorem close_has (A : Blk) : subB A (closeB A) := fun r _ => sub_iff.2 fun j _ h => (closeB_bit A r j).2 (.one h)
theorem close_mul (A : Blk) : subB (mulB (closeB A) (closeB A)) (closeB A) := fun r _ => sub_iff.2 fun j _ h => by
  obtain ⟨m, h1, h2, h3⟩ := (mulB_bit _ _ _ _).1 h
  exact (closeB_bit A r j).2 (.via ((closeB_bit A r m).1 h2) h1 ((closeB_bit A m j).1 h3))
theorem close_close (A : Blk) (i : Nat) : closeB (closeB A) i = closeB A i := eq_of_bits_iff fun j hj => by
  clear hj
  rw [closeB_bit]
  constructor
  · intro h
    induction h with
    | one h => exact h
    | via _ hm _ a b => exact (closeB_bit A _ _).2 (.via ((closeB_bit A _ _).1 a) hm ((closeB_bit A _ _).1 b))
  · exact .one
theorem close_least {A D : Blk} (hA : ∀ r, r < 64 → ∀ j, j < 64 → (A r).getLsbD j = true → (D r).getLsbD j = true) (hD : subB (mulB D D) D) : subB (closeB A) D := fun r hr => sub_iff.2 fun j hj h => by
  have key : ∀ r j, Pth A 64 r j → r < 64 → j < 64 → (D r).getLsbD j = true := by
    intro r j h
    induction h with
    | one h => intro hr hj; exact hA _ hr _ hj h
    | @via r m j _ hm _ a b =>
      intro hr hj
      exact sub_iff.1 (hD r hr) j hj ((mulB_bit _ _ _ _).2 ⟨m, hm, a hr hm, b hm hj⟩)
  exact key r j ((closeB_bit A r j).1 h) hr hj
/-! ## The walk from a row -/
def wk (A : Blk) (x : BitVec 64) : Nat → BitVec 64
  | 0 => x
  | n + 1 => if (wk A x n).getLsbD n then wk A x n ||| A n else wk A x n
def rnds (A : Blk) (x : BitVec 64) : Nat → BitVec 64
  | 0 => x
  | n + 1 => wk A (rnds A x n) 64
def leB (x y : BitVec 64) : Prop := ∀ j, j < 64 → x.getLsbD j = true → y.getLsbD j = true
theorem leB.refl (x : BitVec 64) : leB x x := fun _ _ h => h
theorem leB.trans {x y z : BitVec 64} (a : leB x y) (b : leB y z) : leB x z := fun j hj h => b j hj (a j hj h)
theorem leB.anti {x y : BitVec 64} (a : leB x y) (b : leB y x) : x = y := eq_of_bits_iff fun j hj => ⟨a j hj, b j hj⟩
theorem wk_up (A : Blk) (x : BitVec 64) (n : Nat) : leB (wk A x n) (wk A x (n + 1)) := fun j _ h => by
  simp only [wk]; split
  · rw [BitVec.getLsbD_or, h]; rfl
  · exact h
theorem wk_le (A : Blk) (x : BitVec 64) (n : Nat) : ∀ k, leB (wk A x n) (wk A x (n + k))
  | 0 => leB.refl _
  | k + 1 => (wk_le A x n k).trans (wk_up A x (n + k))
theorem wk_sound (A : Blk) (r : Nat) {x : BitVec 64} (h : leB x (closeB A r)) : ∀ n, n ≤ 64 → leB (wk A x n) (closeB A r)
  | 0, _ => h
  | n + 1, hn => fun j hj => by
    have ih := wk_sound A r h n (by omega)
    simp only [wk]
    split
    · rename_i hb
      rw [BitVec.getLsbD_or, Bool.or_eq_true]
      rintro (h1 | h1)
      · exact ih j hj h1
      · exact (closeB_bit A r j).2 (.via ((closeB_bit A r n).1 (ih n (by omega) hb)) (by omega) (.one h1))
    · exact ih j hj
theorem rnds_sound (A : Blk) (r : Nat) : ∀ n, leB (rnds A (A r) n) (closeB A r)
  | 0 => fun j _ h => (closeB_bit A r j).2 (.one h)
  | n + 1 => wk_sound A r (rnds_sound A r n) 64 (by omega)
/-- A round that turns nothing: what is met is closed. -/
theorem wk_closed (A : Blk) {x : BitVec 64} (h : wk A x 64 = x) (m : Nat) (hm : m < 64) (hx : x.getLsbD m = true) : leB (A m) x := fun j hj hA => by
  have e1 : leB x (wk A x m) := by have := wk_le A x 0 m; rwa [Nat.zero_add] at this
  have e2 : leB (wk A x (m + 1)) x := by
    have := wk_le A x (m + 1) (64 - (m + 1))
    rw [show m + 1 + (64 - (m + 1)) = 64 by omega, h] at this
    exact this
  refine e2 j hj ?_
  simp only [wk]
  rw [if_pos (e1 m hm hx), BitVec.getLsbD_or, hA, Bool.or_true]
theorem closed_all (A : Blk) (r : Nat) {x : BitVec 64} (h0 : leB (A r) x) (h : wk A x 64 = x) : leB (closeB A r) x := fun j hj hc => by
  have key : ∀ s j, Pth A 64 s j → j < 64 → leB (A s) x → x.getLsbD j = true := by
    intro s j hp
    induction hp with
    | one h1 => intro hj hs; exact hs _ hj h1
    | @via s m j _ hm _ a b => intro hj hs; exact b hj (wk_closed A h m hm (a hm hs))
  exact key r j ((closeB_bit A r j).1 hc) hj h0
/-! How many bits. -/
def cnt (x : BitVec 64) : Nat → Nat
  | 0 => 0
  | n + 1 => cnt x n + (if x.getLsbD n then 1 else 0)
theorem cnt_le (x : BitVec 64) : ∀ n, cnt x n ≤ n
  | 0 => Nat.le_refl _
  | n + 1 => by have := cnt_le x n; simp only [cnt]; split <;> omega
theorem cnt_full (x : BitVec 64) : ∀ n, cnt x n = n → ∀ i, i < n → x.getLsbD i = true
  | 0, _, i, h => by omega
  | n + 1, e, i, h => by
    have hl := cnt_le x n
    simp only [cnt] at e
    cases hb : x.getLsbD n
    · rw [hb] at e; simp at e; omega
    · rw [hb] at e
      by_cases hi : i = n
      · subst hi; exact hb
      · exact cnt_full x n (by simpa using e) i (by omega)
theorem cnt_mono {x y : BitVec 64} (h : leB x y) : ∀ n, n ≤ 64 → cnt x n ≤ cnt y n
  | 0, _ => Nat.le_refl _
  | n + 1, hn => by
    have := cnt_mono h n (by omega)
    have h2 := h n (by omega)
    simp only [cnt]
    cases hx : x.getLsbD n
    · simp; omega
    · rw [h2 hx]; simp; omega
theorem cnt_lt {x y : BitVec 64} (h : leB x y) {i : Nat} (h1 : x.getLsbD i = false) (h2 : y.getLsbD i = true) : ∀ n, n ≤ 64 → i < n → cnt x n < cnt y n
  | 0, _, hi => by omega
  | n + 1, hn, hi => by
    simp only [cnt]
    by_cases e : i = n
    · subst e
      have := cnt_mono h i (by omega)
      rw [h1, h2]; simp; omega
    · have := cnt_lt h h1 h2 n (by omega) (by omega)
      have h3 := h n (by omega)
      cases hx : x.getLsbD n
      · simp; omega
      · rw [h3 hx]; simp; omega
theorem rnds_up (A : Blk) (x : BitVec 64) (n : Nat) : leB (rnds A x n) (rnds A x (n + 1)) := by
  have := wk_le A (rnds A x n) 0 64; rwa [Nat.zero_add] at this
theorem rnds_base (A : Blk) (x : BitVec 64) : ∀ n, leB x (rnds A x n)
  | 0 => leB.refl _
  | n + 1 => (rnds_base A x n).trans (rnds_up A x n)
theorem rnds_grow (A : Blk) (x : BitVec 64) : ∀ n, wk A (rnds A x n) 64 = rnds A x n ∨ n ≤ cnt (rnds A x n) 64
  | 0 => .inr (Nat.zero_le _)
  | n + 1 => by
    by_cases e : rnds A x (n + 1) = rnds A x n
    · left
      have e2 : wk A (rnds A x n) 64 = rnds A x n := e
      rw [e]; exact e2
    · right
      rcases rnds_grow A x n with h | h
      · exact absurd h e
      · have hup := rnds_up A x n
        obtain ⟨i, hi, h1, h2⟩ : ∃ i, i < 64 ∧ (rnds A x n).getLsbD i = false ∧ (rnds A x (n + 1)).getLsbD i = true := by
          refine Classical.byContradiction fun hno => e ?_
          refine (leB.anti (fun j hj hy => ?_) hup)
          cases hx : (rnds A x n).getLsbD j
          · exact absurd ⟨j, hj, hx, hy⟩ hno
          · rfl
        have := cnt_lt hup h1 h2 64 (by omega) hi
        omega
theorem rnds_all (A : Blk) (r : Nat) : rnds A (A r) 64 = closeB A r := by
  refine leB.anti (rnds_sound A r 64) ?_
  rcases rnds_grow A (A r) 64 with h | h
  · exact closed_all A r (rnds_base A (A r) 64) h
  · have := cnt_full (rnds A (A r) 64) 64 (by have := cnt_le (rnds A (A r) 64) 64; omega)
    exact fun j hj _ => this j hj

end Go.Proofs.YtpfcgfgkmgnaaaaDoor
