/-
  The plain law of least, second part: the engine's closure tells who has a word (of length 0; of any).
-/
import Derived.Test.YtcemehocbemfmaaLP
namespace Go.Proofs.Ytcemehocbemfmaa
open Go
theorem closed_end {ps : List ProdD} {n : Nat} (hin : ∀ p ∈ ps, prodIn n p) {lb : Bool} {b : Nat} (hb : b ≤ 65) (hlb : lb = true → b = 65) (hlb0 : lb = false → b = 0) {o : Nat → Bool} (hR : Reach (cloStep lb) ps (fun _ => false) o) (hst : ∀ p ∈ ps, (cloStep lb o p).2 = false) : ∀ i, i < n → (o i = true ↔ vN (itR ps n i) ≤ b) := by
  have hJ : ∀ i, i < n → o i = true → vN (itR ps n i) ≤ b := by
    refine Reach.inv (J := fun t => ∀ i, i < n → t i = true → vN (itR ps n i) ≤ b) (fun t p ht hp i hi => ?_) hR (fun i _ h => by cases h)
    have hpp := hin p hp
    unfold cloStep
    split
    · exact ht i hi
    · rename_i hc
      dsimp only
      by_cases e : i = p.1.toNat
      · intro _
        subst e
        have hall : p.2.all (symHas t lb) = true := by
          cases h : p.2.all (symHas t lb) with
          | true => rfl
          | false => rw [h] at hc; simp at hc
        have h1 := (all_has (u := fun i => if t i = true then vN (itR ps n i) else 66) hb hlb (fun i hi => by
          show t i = true ↔ (if t i = true then vN (itR ps n i) else 66) ≤ b
          by_cases hti : t i = true
          · rw [if_pos hti]; exact ⟨fun _ => ht i hi hti, fun _ => hti⟩
          · rw [if_neg hti]; exact ⟨fun h => absurd h hti, fun h => by omega⟩) p.2 0 hpp.2 (Nat.zero_le b) hlb0).1 hall
        have h2 := longU_mono (u := fun i => vN (itR ps n i)) (w := fun i => if t i = true then vN (itR ps n i) else 66) (n := n) (fun i hi => by
          show vN (itR ps n i) ≤ (if t i = true then vN (itR ps n i) else 66)
          have := (vN_le (itR_in hin n) hi).1
          split <;> omega) p.2 0 0 hpp.2 (Nat.le_refl _) (by omega)
        have h3 := (rnd_spec hin (itR_in hin n)).1 p hp
        have h4 := itR_fix hin _ hi
        omega
      · rw [upd_ne _ _ e]; exact ht i hi
  have hK : ∀ k i, i < n → vN (itR ps k i) ≤ b → o i = true := by
    intro k
    induction k with
    | zero =>
      intro i _ h
      have : vN (itR ps 0 i) = 66 := rfl
      omega
    | succ k ih =>
      intro i hi h
      have h : vN (rnd ps (itR ps k) i) ≤ b := h
      rcases (rnd_spec hin (itR_in hin k)).2 i hi with h1 | ⟨p, hp, h1, h2⟩
      · omega
      · have hpp := hin p hp
        have h3 := longU_mono (u := fun i => if o i = true then 0 else vN (itR ps k i)) (w := fun i => vN (itR ps k i)) (n := n) (fun i hi => by
          show (if o i = true then 0 else vN (itR ps k i)) ≤ vN (itR ps k i)
          split <;> omega) p.2 0 0 hpp.2 (Nat.le_refl _) (by omega)
        have hall := (all_has (u := fun i => if o i = true then 0 else vN (itR ps k i)) (o := o) hb hlb (fun i hi => by
          show o i = true ↔ (if o i = true then 0 else vN (itR ps k i)) ≤ b
          by_cases hti : o i = true
          · rw [if_pos hti]; exact ⟨fun _ => Nat.zero_le b, fun _ => hti⟩
          · rw [if_neg hti]; exact ⟨fun h => absurd h hti, fun h => ih i hi h⟩) p.2 0 hpp.2 (Nat.zero_le b) hlb0).2 (by omega)
        have hs := hst p hp
        unfold cloStep at hs
        split at hs
        · rename_i hc
          rw [hall] at hc
          simp at hc
          rw [← h1]; exact hc
        · cases hs
  exact fun i hi => ⟨hJ i hi, hK n i hi⟩
theorem empty_end {ps : List ProdD} {n : Nat} (hin : ∀ p ∈ ps, prodIn n p) {o : Nat → Bool} (hR : Reach (cloStep false) ps (fun _ => false) o) (hst : ∀ p ∈ ps, (cloStep false o p).2 = false) : ∀ i, i < n → o i = decide (itR ps n i = 0) := by
  intro i hi
  have h := closed_end hin (b := 0) (by omega) (fun h => by cases h) (fun _ => rfl) hR hst i hi
  have h2 := itR_in hin n i hi
  have h3 : vN (itR ps n i) ≤ 0 ↔ itR ps n i = 0 := by unfold vN; split <;> omega
  rw [h3] at h
  rw [Bool.eq_iff_iff, h, decide_eq_true_iff]
theorem fruitful_end {ps : List ProdD} {n : Nat} (hin : ∀ p ∈ ps, prodIn n p) {o : Nat → Bool} (hR : Reach (cloStep true) ps (fun _ => false) o) (hst : ∀ p ∈ ps, (cloStep true o p).2 = false) : ∀ i, i < n → o i = decide (0 ≤ itR ps n i) := by
  intro i hi
  have h := closed_end hin (b := 65) (by omega) (fun _ => rfl) (fun h => by cases h) hR hst i hi
  have h2 := itR_in hin n i hi
  have h3 : vN (itR ps n i) ≤ 65 ↔ 0 ≤ itR ps n i := by unfold vN; split <;> omega
  rw [h3] at h
  rw [Bool.eq_iff_iff, h, decide_eq_true_iff]
end Go.Proofs.Ytcemehocbemfmaa
