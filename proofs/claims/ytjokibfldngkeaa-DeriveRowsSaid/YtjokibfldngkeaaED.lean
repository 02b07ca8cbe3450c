/-
  The law DeriveRows.
-/
import Derived.Test.YtjokibfldngkeaaEA
import Derived.Test.YtjokibfldngkeaaEB
import Derived.Test.YtjokibfldngkeaaEC
namespace Go.Proofs.Ytjokibfldngkeaa
open Go
theorem drows_law (q : HP) (v wv yv : Value) (C : CnfD) (k : Int) (w y : List Int) (hv : CnfR q v C) (hz : Fits C) (hw : WordR q wv w) (hwl : w.length * 8 ≤ 140737488355328) (hy : WordR q yv y) (hyl : y.length * 8 ≤ 140737488355328) :
    Fn Try.prog 7 #[v, i64 k, wv, yv] [q] (fun r Q => r = .bool true ∧ Q = [q]) := by
  by_cases he : askE C 0 0 = 0
  · by_cases hg : k < 0 ∨ (C.prods.length : Int) ≤ k ∨ ∃ (n : Nat) (p : ProdD), k = n ∧ C.prods[n]? = some p ∧ (p.2.length ≠ 2 ∨ 64 < w.length + y.length)
    · exact drows_off q v wv yv C k w y hv hz hw hy hwl hyl he hg
    · have h0 : 0 ≤ k := by
        by_cases h : 0 ≤ k
        · exact h
        · exact absurd (.inl (by omega)) hg
      obtain ⟨n, rfl⟩ := Int.eq_ofNat_of_zero_le h0
      have hn : n < C.prods.length := by
        by_cases h : n < C.prods.length
        · exact h
        · exact absurd (.inr (.inl (by omega))) hg
      obtain ⟨⟨B, b⟩, hpk⟩ : ∃ p, C.prods[n]? = some p := ⟨_, List.getElem?_eq_getElem hn⟩
      have hb : b.length = 2 := by
        by_cases h : b.length = 2
        · exact h
        · exact absurd (.inr (.inr ⟨n, _, rfl, hpk, .inl h⟩)) hg
      have hl : ¬ 64 < w.length + y.length := fun h => absurd (.inr (.inr ⟨n, _, rfl, hpk, .inr h⟩)) hg
      match b, hb, hpk with
      | [s, t], _, hpk => exact drows_on q v wv yv C w y hv hz hw hy he n B s t hpk hl
  · exact drows_err q v wv yv C k w y hv hz hw hy he
end Go.Proofs.Ytjokibfldngkeaa
