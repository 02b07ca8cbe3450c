/-
  For the law DeriveRows: no word is shorter than the shortest. Plain.
-/
import Derived.Test.YtjokibfldngkeaaDX
import Derived.Test.YtjokibfldngkeaaDO
import Derived.Test.YtjokibfldngkeaaLL
namespace Go.Proofs.Ytjokibfldngkeaa
open Go
theorem st_le {s : Nat → Int} {p : ProdD} {m : Int} (h : lenF s p.2 0 = some m) (hst : (shoStep s p).2 = false) : s p.1.toNat ≠ -1 ∧ s p.1.toNat ≤ m := by
  unfold shoStep at hst
  rw [h] at hst
  dsimp only at hst
  split at hst
  · assumption
  · cases hst
theorem short_le {C : CnfD} (hok : okC C = true) (hwk : weakC C = true) {s : Nat → Int} (hR : Reach shoStep C.prods (fun _ => -1) s) (hst : ∀ p ∈ C.prods, (shoStep s p).2 = false) {w : List Int} {A : Int} {i j : Nat} (h : Der C w A i j) : 0 ≤ s A.toNat ∧ s A.toNat ≤ ((j : Int) - (i : Int)) := by
  obtain ⟨⟨hn1, hn2⟩, hin⟩ := okC_in hok
  have h0 : Shorts (fun _ => -1) C.nts.toNat := fun i _ => by show (-1 : Int) ≤ -1 ∧ (-1 : Int) ≤ 65; decide
  have hS : Shorts s C.nts.toNat := Reach.inv (J := fun s => Shorts s C.nts.toNat) (fun t p h1 hp => shoStep_in h1 (by rw [Int.toNat_of_nonneg (by omega)]; exact hin p hp)) hR h0
  have hwb : ∀ p ∈ C.prods, weakB p.2 = true := by
    unfold weakC at hwk
    rw [Bool.and_eq_true] at hwk
    exact List.all_eq_true.1 hwk.2
  have hA : ∀ A b, (A, b) ∈ C.prods → A.toNat < C.nts.toNat := fun A b hp => by
    have := okC_prod hok hp
    dsimp only at this
    omega
  refine Der.short (S := fun A => s A.toNat) ?_ ?_ ?_ h
  · intro A hp
    have h1 := st_le (m := 0) (p := (A, [])) rfl (hst _ hp)
    have h2 := hS _ (hA _ _ hp)
    dsimp only at h1 h2 ⊢
    omega
  · rintro A ⟨l, k⟩ hp
    have hl : l = true := by
      have := hwb _ hp
      cases l with
      | true => rfl
      | false => cases this
    subst hl
    have h1 := st_le (m := 1) (p := (A, [(true, k)])) rfl (hst _ hp)
    have h2 := hS _ (hA _ _ hp)
    dsimp only at h1 h2 ⊢
    omega
  · rintro A ⟨l, a⟩ ⟨l2, b⟩ hp ha hb
    have hl : l = false ∧ l2 = false := by
      have := hwb _ hp
      cases l with
      | true => cases this
      | false =>
        cases l2 with
        | true => cases this
        | false => exact ⟨rfl, rfl⟩
    obtain ⟨rfl, rfl⟩ := hl
    dsimp only at ha hb ⊢
    have e : lenF s [(false, a), (false, b)] 0 = some (min 65 (min 65 (0 + s a.toNat) + s b.toNat)) := by
      simp only [lenF]
      rw [if_neg (by omega), if_neg (by omega)]
    have h1 := st_le (p := (A, [(false, a), (false, b)])) e (hst _ hp)
    have h2 := hS _ (hA _ _ hp)
    dsimp only at h1 h2
    omega
theorem ask_who (C : CnfD) : askE C 0 0 = 0 ∨ askE C 0 0 = 220 ∨ askE C 0 0 = 250 := by
  unfold askE
  by_cases hok : okC C = true
  · have := okC_nts hok
    rw [if_pos hok]
    by_cases hwk : weakC C = true
    · rw [if_pos hwk, if_neg (by omega), if_neg (by omega), if_neg (by omega)]; exact .inl rfl
    · rw [if_neg hwk]; exact .inr (.inr rfl)
  · rw [if_neg hok]; exact .inr (.inl rfl)
theorem ask_in {C : CnfD} (hok : okC C = true) (hwk : weakC C = true) {A : Int} (h0 : 0 ≤ A) (h1 : A < C.nts) {n : Nat} (hn : n ≤ 64) : askE C A n = 0 := by
  unfold askE
  rw [if_pos hok, if_pos hwk, if_neg (by omega), if_neg (by omega), if_neg (by omega)]
theorem word_nil (q : HP) : WordR q (.slice none 0 0) [] := ⟨none, 0, rfl, rfl, fun h => by simp at h⟩
theorem wordV_one (l : List Int) : ∀ u ∈ wordV l, u.oneCell' = true := by
  intro u hu
  unfold wordV at hu
  obtain ⟨x, _, rfl⟩ := List.mem_map.1 hu
  rfl
theorem wordV_app (l m : List Int) : wordV (l ++ m) = wordV l ++ wordV m := by unfold wordV; rw [List.map_append]
theorem shorts_len {C : CnfD} (hok : okC C = true) : C.nts.toNat ≤ 1024 ∧ ((C.nts.toNat : Nat) : Int) = C.nts := by
  obtain ⟨⟨hn1, hn2⟩, _⟩ := okC_in hok
  omega
theorem word_own {q : HP} {v : Value} {l m : List Int} (h : Sl q v (l.length + m.length) 1 ([] ++ wordV l ++ wordV m)) : WordR q v (l ++ m) := by
  unfold WordR
  rw [wordV_app, List.length_append]
  exact h
end Go.Proofs.Ytjokibfldngkeaa
