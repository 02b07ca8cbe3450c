/-
  The plain facts of the law LeastGoes.
-/
import Derived.Test.YtcemehocbemfmaaLR
namespace Go.Proofs.Ytcemehocbemfmaa
open Go
attribute [local irreducible] G GO GR GT Fn FnV pt init exs pur sat own ImpS
/-- The length that the reference's Long tells. -/
abbrev lg (s : Nat → Int) (p : ProdD) : Int := (lenF s p.2 0).getD (-1)
theorem lg_vN {s : Nat → Int} {n : Nat} (hs : Shorts s n) {p : ProdD} (hp : prodIn n p) : vN (lg s p) = longU (fun i => vN (s i)) p.2 0 ∧ -1 ≤ lg s p ∧ lg s p ≤ 65 := by
  have hlen := longU_lenF hs hp.2 (m := 0) (by omega)
  unfold lg
  cases hl : lenF s p.2 0 with
  | none =>
    rw [hl] at hlen
    exact ⟨by rw [show (0 : Nat) = (0 : Int).toNat from rfl, ← hlen], by decide, by decide⟩
  | some m =>
    rw [hl] at hlen
    have hm := lenF_in hs hp.2 (by omega) hl
    exact ⟨hlen, by show -1 ≤ m; omega, by show m ≤ 65; omega⟩
/-- No body is shorter than what the end of the rounds tells. -/
theorem goes_le {ps : List ProdD} {n : Nat} (hin : ∀ p ∈ ps, prodIn n p) {s : Nat → Int} (hs : ∀ i, i < n → s i = itR ps n i) {p : ProdD} (hp : p ∈ ps) (hl : 0 ≤ lg s p) : 0 ≤ s p.1.toNat ∧ s p.1.toNat ≤ lg s p := by
  have hsh : Shorts s n := fun i hi => by rw [hs i hi]; exact itR_in hin n i hi
  have hpp := hin p hp
  have hk : p.1.toNat < n := by have := hpp.1; omega
  obtain ⟨h1, h2, h3⟩ := lg_vN hsh hpp
  have e : longU (fun i => vN (s i)) p.2 0 = longU (fun i => vN (itR ps n i)) p.2 0 := Nat.le_antisymm
    (longU_mono (n := n) (fun i hi => by show vN (s i) ≤ vN (itR ps n i); rw [hs i hi]; exact Nat.le_refl _) p.2 0 0 hpp.2 (Nat.le_refl _) (by omega))
    (longU_mono (n := n) (fun i hi => by show vN (itR ps n i) ≤ vN (s i); rw [hs i hi]; exact Nat.le_refl _) p.2 0 0 hpp.2 (Nat.le_refl _) (by omega))
  have h4 := (rnd_spec hin (itR_in hin n)).1 p hp
  rw [itR_fix hin _ hk, ← hs _ hk, ← e, ← h1] at h4
  have h5 := hsh _ hk
  unfold vN at h4
  split at h4 <;> split at h4 <;> omega
/-- Where there is a word, a body has its length. -/
theorem goes_at {ps : List ProdD} {n : Nat} (hin : ∀ p ∈ ps, prodIn n p) {s : Nat → Int} (hs : ∀ i, i < n → s i = itR ps n i) {i : Nat} (hi : i < n) (h0 : 0 ≤ s i) : ∃ p ∈ ps, p.1.toNat = i ∧ lg s p = s i := by
  have hsh : Shorts s n := fun i hi => by rw [hs i hi]; exact itR_in hin n i hi
  have hne : vN (itR ps n i) ≠ 66 := by
    rw [← hs i hi]
    have := hsh i hi
    unfold vN; split <;> omega
  rcases (rnd_spec hin (itR_in hin n)).2 i hi with h | ⟨p, hp, h1, h2⟩
  · rw [itR_fix hin i hi] at h; exact absurd h hne
  · have hpp := hin p hp
    obtain ⟨g1, g2, g3⟩ := lg_vN hsh hpp
    have e : longU (fun i => vN (s i)) p.2 0 = longU (fun i => vN (itR ps n i)) p.2 0 := Nat.le_antisymm
      (longU_mono (n := n) (fun i hi => by show vN (s i) ≤ vN (itR ps n i); rw [hs i hi]; exact Nat.le_refl _) p.2 0 0 hpp.2 (Nat.le_refl _) (by omega))
      (longU_mono (n := n) (fun i hi => by show vN (itR ps n i) ≤ vN (s i); rw [hs i hi]; exact Nat.le_refl _) p.2 0 0 hpp.2 (Nat.le_refl _) (by omega))
    rw [itR_fix hin i hi, ← hs i hi, ← e, ← g1] at h2
    refine ⟨p, hp, h1, ?_⟩
    have h5 := hsh i hi
    unfold vN at h2
    split at h2 <;> split at h2 <;> omega
end Go.Proofs.Ytcemehocbemfmaa
