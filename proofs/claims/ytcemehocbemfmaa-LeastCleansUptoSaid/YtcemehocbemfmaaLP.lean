/-
  The plain law of least: the rounds come to an end at the least lengths, and the engine's growing too.
-/
import Derived.Test.YtcemehocbemfmaaLO
namespace Go.Proofs.Ytcemehocbemfmaa
open Go
/-- 66 stands for none. -/
def vN (x : Int) : Nat := if x = -1 then 66 else x.toNat
/-- The least length of a body's words, none being 66. -/
def longU (u : Nat → Nat) : List SymD → Nat → Nat
  | [], m => m
  | (true, _) :: r, m => longU u r (min 65 (m + 1))
  | (false, k) :: r, m => if 66 ≤ u k.toNat then 66 else longU u r (min 65 (m + u k.toNat))
theorem vN_le {s : Nat → Int} {n i : Nat} (hs : Shorts s n) (hi : i < n) : vN (s i) ≤ 66 ∧ (66 ≤ vN (s i) ↔ s i = -1) := by
  have := hs i hi
  unfold vN
  split <;> omega
theorem longU_lenF {s : Nat → Int} {n : Nat} (hs : Shorts s n) : ∀ {ss : List SymD} {m : Int}, (∀ x ∈ ss, symIn n x) → 0 ≤ m ∧ m ≤ 65 → vN ((lenF s ss m).getD (-1)) = longU (fun i => vN (s i)) ss m.toNat
  | [], m, _, hm => by
    have : ¬ m = -1 := by omega
    simp [lenF, longU, vN, this]
  | (true, i) :: r, m, hi, hm => by
    have := longU_lenF hs (ss := r) (m := min 65 (m + 1)) (fun x hx => hi x (List.mem_cons_of_mem _ hx)) (by omega)
    simp only [lenF, longU]
    rw [this]; congr 1; omega
  | (false, i) :: r, m, hi, hm => by
    have h1 := hi (false, i) (by simp) rfl
    dsimp only at h1
    have hk : i.toNat < n := by omega
    have h2 := hs i.toNat hk
    have h3 := (vN_le hs hk).2
    simp only [lenF, longU]
    by_cases hne : s i.toNat = -1
    · rw [if_pos hne, if_pos (h3.2 hne)]; rfl
    · rw [if_neg hne, if_neg (fun h => hne (h3.1 h))]
      have := longU_lenF hs (ss := r) (m := min 65 (m + s i.toNat)) (fun x hx => hi x (List.mem_cons_of_mem _ hx)) (by omega)
      rw [this]; congr 1
      unfold vN; rw [if_neg hne]; omega
theorem longU_ge (u : Nat → Nat) : ∀ (ss : List SymD) (m : Nat), m ≤ 65 → m ≤ longU u ss m ∧ longU u ss m ≤ 66
  | [], m, h => by simp [longU]; omega
  | (true, _) :: r, m, h => by
    have := longU_ge u r (min 65 (m + 1)) (by omega)
    simp only [longU]; omega
  | (false, k) :: r, m, h => by
    simp only [longU]
    split
    · omega
    · have := longU_ge u r (min 65 (m + u k.toNat)) (by omega)
      omega
theorem longU_mono {u w : Nat → Nat} {n : Nat} (h : ∀ i, i < n → u i ≤ w i) : ∀ (ss : List SymD) (m m' : Nat), (∀ x ∈ ss, symIn n x) → m ≤ m' → m' ≤ 65 → longU u ss m ≤ longU w ss m'
  | [], m, m', _, hm, _ => hm
  | (true, _) :: r, m, m', hi, hm, hm' => longU_mono h r _ _ (fun x hx => hi x (List.mem_cons_of_mem _ hx)) (by omega) (by omega)
  | (false, k) :: r, m, m', hi, hm, hm' => by
    have h1 := hi (false, k) (by simp) rfl
    dsimp only at h1
    have h2 := h k.toNat (by omega)
    simp only [longU]
    by_cases hw : 66 ≤ w k.toNat
    · rw [if_pos hw]
      split
      · omega
      · exact (longU_ge u r _ (by omega)).2
    · rw [if_neg hw, if_neg (by omega)]
      exact longU_mono h r _ _ (fun x hx => hi x (List.mem_cons_of_mem _ hx)) (by omega) (by omega)
/-- Where a body gets shorter, one of its nonterminals has. -/
theorem longU_comp {u w : Nat → Nat} {n : Nat} (h : ∀ i, i < n → u i ≤ w i) (hb : ∀ i, i < n → u i ≤ 65 ∨ 66 ≤ u i) : ∀ (ss : List SymD) (m : Nat), (∀ x ∈ ss, symIn n x) → m ≤ 65 → longU u ss m < longU w ss m →
    ∃ k, k < n ∧ u k < w k ∧ u k ≤ longU u ss m
  | [], m, _, _, hlt => absurd hlt (by simp [longU])
  | (true, _) :: r, m, hi, hm, hlt => longU_comp h hb r (min 65 (m + 1)) (fun x hx => hi x (List.mem_cons_of_mem _ hx)) (by omega) hlt
  | (false, k) :: r, m, hi, hm, hlt => by
    have h1 := hi (false, k) (by simp) rfl
    dsimp only at h1
    have hk : k.toNat < n := by omega
    have h2 := h k.toNat hk
    have hwle := (longU_ge w ((false, k) :: r) m hm).2
    by_cases hu : 66 ≤ u k.toNat
    · have e : longU u ((false, k) :: r) m = 66 := by simp only [longU]; rw [if_pos hu]
      rw [e] at hlt; omega
    · have e : longU u ((false, k) :: r) m = longU u r (min 65 (m + u k.toNat)) := by simp only [longU]; rw [if_neg hu]
      rw [e] at hlt ⊢
      by_cases hd : u k.toNat < w k.toNat
      · refine ⟨k.toNat, hk, hd, ?_⟩
        have := (longU_ge u r (min 65 (m + u k.toNat)) (by omega)).1
        omega
      · have heq : w k.toNat = u k.toNat := by omega
        have e2 : longU w ((false, k) :: r) m = longU w r (min 65 (m + u k.toNat)) := by simp only [longU]; rw [if_neg (by omega), heq]
        rw [e2] at hlt
        exact longU_comp h hb r _ (fun x hx => hi x (List.mem_cons_of_mem _ hx)) (by omega) hlt
theorem nodup_short : ∀ (n : Nat) (l : List Nat), l.Nodup → (∀ x ∈ l, x < n) → l.length ≤ n
  | 0, l, _, h => by
    cases l with
    | nil => simp
    | cons a l => exact absurd (h a (by simp)) (by omega)
  | n + 1, l, hd, h => by
    by_cases hm : n ∈ l
    · have := nodup_short n (l.erase n) (hd.erase n) (fun x hx => by
        have h1 := h x (List.mem_of_mem_erase hx)
        have h2 : x ≠ n := fun e => by subst e; exact (List.Nodup.not_mem_erase hd) hx
        omega)
      rw [List.length_erase_of_mem hm] at this
      omega
    · have := nodup_short n l hd (fun x hx => by
        have h1 := h x hx
        have h2 : x ≠ n := fun e => by subst e; exact hm hx
        omega)
      omega
/-! ### The rounds -/
section
variable {ps : List ProdD} {n : Nat}
theorem rnd_in (hin : ∀ p ∈ ps, prodIn n p) {s : Nat → Int} (hs : Shorts s n) : Shorts (rnd ps s) n := by
  have key : ∀ (l : List ProdD) (t : Nat → Int), (∀ p ∈ l, prodIn n p) → Shorts t n → Shorts (l.foldl (rndStep s) t) n := by
    intro l
    induction l with
    | nil => intro t _ ht; exact ht
    | cons p l ih => intro t hp ht; exact ih _ (fun p' h' => hp p' (by simp [h'])) (rndStep_in hs ht (hp p (by simp)))
  exact key ps _ hin (fun i _ => by show (-1 : Int) ≤ -1 ∧ (-1 : Int) ≤ 65; decide)
/-- What a round makes of a nonterminal: the least that its bodies give. -/
theorem rnd_spec (hin : ∀ p ∈ ps, prodIn n p) {s : Nat → Int} (hs : Shorts s n) : (∀ p ∈ ps, vN (rnd ps s p.1.toNat) ≤ longU (fun i => vN (s i)) p.2 0) ∧
    ∀ i, i < n → vN (rnd ps s i) = 66 ∨ ∃ p ∈ ps, p.1.toNat = i ∧ vN (rnd ps s i) = longU (fun i => vN (s i)) p.2 0 := by
  have key : ∀ (l : List ProdD) (t : Nat → Int), (∀ p ∈ l, prodIn n p) → Shorts t n →
      (∀ i, i < n → vN (l.foldl (rndStep s) t i) ≤ vN (t i)) ∧ (∀ p ∈ l, vN (l.foldl (rndStep s) t p.1.toNat) ≤ longU (fun i => vN (s i)) p.2 0) ∧
      ∀ i, i < n → vN (l.foldl (rndStep s) t i) = vN (t i) ∨ ∃ p ∈ l, p.1.toNat = i ∧ vN (l.foldl (rndStep s) t i) = longU (fun i => vN (s i)) p.2 0 := by
    intro l
    induction l with
    | nil => intro t _ _; exact ⟨fun i _ => Nat.le_refl _, fun p hp => by simp at hp, fun i _ => .inl rfl⟩
    | cons p l ih =>
      intro t hp ht
      have hpp := hp p (by simp)
      have hk : p.1.toNat < n := by have := hpp.1; omega
      have hlen := longU_lenF hs hpp.2 (m := 0) (by omega)
      -- one step
      have one : (∀ i, i < n → vN (rndStep s t p i) ≤ vN (t i)) ∧ vN (rndStep s t p p.1.toNat) ≤ longU (fun i => vN (s i)) p.2 0 ∧
          ∀ i, i < n → vN (rndStep s t p i) = vN (t i) ∨ (p.1.toNat = i ∧ vN (rndStep s t p i) = longU (fun i => vN (s i)) p.2 0) := by
        unfold rndStep
        cases hl : lenF s p.2 0 with
        | none =>
          rw [hl] at hlen
          have h66 : longU (fun i => vN (s i)) p.2 0 = 66 := by rw [show (0 : Nat) = (0 : Int).toNat from rfl, ← hlen]; rfl
          refine ⟨fun i _ => Nat.le_refl _, ?_, fun i _ => .inl rfl⟩
          rw [h66]; exact (vN_le ht hk).1
        | some m =>
          rw [hl] at hlen
          have hm := lenF_in hs hpp.2 (by omega) hl
          have hvm : vN m = longU (fun i => vN (s i)) p.2 0 := hlen
          have hm1 : ¬ m = -1 := by omega
          have hvm' : vN m = m.toNat := by unfold vN; rw [if_neg hm1]
          have htk := ht p.1.toNat hk
          simp only
          split
          · rename_i hc
            refine ⟨fun i hi => ?_, by rw [upd_at, hvm]; exact Nat.le_refl _, fun i hi => ?_⟩
            · by_cases e : i = p.1.toNat
              · subst e; rw [upd_at, hvm']
                unfold vN; split <;> omega
              · rw [upd_ne _ _ e]; exact Nat.le_refl _
            · by_cases e : i = p.1.toNat
              · subst e; right; exact ⟨rfl, by rw [upd_at, hvm]⟩
              · left; rw [upd_ne _ _ e]
          · rename_i hc
            refine ⟨fun i _ => Nat.le_refl _, ?_, fun i _ => .inl rfl⟩
            rw [← hvm, hvm']
            unfold vN; split <;> omega
      have ht' := rndStep_in hs ht hpp
      obtain ⟨i1, i2, i3⟩ := ih (rndStep s t p) (fun p' h' => hp p' (by simp [h'])) ht'
      rw [List.foldl_cons]
      refine ⟨fun i hi => Nat.le_trans (i1 i hi) (one.1 i hi), fun p' hp' => ?_, fun i hi => ?_⟩
      · rcases List.mem_cons.1 hp' with rfl | hp'
        · exact Nat.le_trans (i1 _ hk) one.2.1
        · exact i2 p' hp'
      · rcases i3 i hi with h | ⟨p', hp', h1, h2⟩
        · rcases one.2.2 i hi with h' | ⟨h1, h2⟩
          · exact .inl (by rw [h, h'])
          · exact .inr ⟨p, by simp, h1, by rw [h, h2]⟩
        · exact .inr ⟨p', by simp [hp'], h1, h2⟩
  obtain ⟨_, k2, k3⟩ := key ps (fun _ => -1) hin (fun i _ => by show (-1 : Int) ≤ -1 ∧ (-1 : Int) ≤ 65; decide)
  exact ⟨k2, fun i hi => (k3 i hi).imp (fun h => by unfold rnd; rw [h]; rfl) id⟩
def itR (ps : List ProdD) : Nat → (Nat → Int)
  | 0 => fun _ => -1
  | k + 1 => rnd ps (itR ps k)
theorem itR_in (hin : ∀ p ∈ ps, prodIn n p) : ∀ k, Shorts (itR ps k) n
  | 0 => fun i _ => by show (-1 : Int) ≤ -1 ∧ (-1 : Int) ≤ 65; decide
  | k + 1 => rnd_in hin (itR_in hin k)
theorem rnd_mono (hin : ∀ p ∈ ps, prodIn n p) {s t : Nat → Int} (hs : Shorts s n) (ht : Shorts t n) (h : ∀ i, i < n → vN (s i) ≤ vN (t i)) : ∀ i, i < n → vN (rnd ps s i) ≤ vN (rnd ps t i) := by
  intro i hi
  rcases (rnd_spec hin ht).2 i hi with h1 | ⟨p, hp, h1, h2⟩
  · rw [h1]; exact (vN_le (rnd_in hin hs) hi).1
  · rw [h2, ← h1]
    exact Nat.le_trans ((rnd_spec hin hs).1 p hp) (longU_mono h p.2 0 0 (hin p hp).2 (Nat.le_refl _) (by omega))
theorem itR_dn (hin : ∀ p ∈ ps, prodIn n p) : ∀ k i, i < n → vN (itR ps (k + 1) i) ≤ vN (itR ps k i)
  | 0, i, hi => by
    have := (vN_le (itR_in hin 1) hi).1
    exact this
  | k + 1, i, hi => rnd_mono hin (itR_in hin (k + 1)) (itR_in hin k) (itR_dn hin k) i hi
theorem itR_le (hin : ∀ p ∈ ps, prodIn n p) {j k i : Nat} (hjk : j ≤ k) (hi : i < n) : vN (itR ps k i) ≤ vN (itR ps j i) := by
  induction hjk with
  | refl => exact Nat.le_refl _
  | step _ ih => exact Nat.le_trans (itR_dn hin _ i hi) ih
/-- A change in the k-th round comes of a chain of k changes at as many nonterminals. -/
theorem itR_chain (hin : ∀ p ∈ ps, prodIn n p) : ∀ k i, i < n → vN (itR ps (k + 1) i) < vN (itR ps k i) →
    ∃ l : List Nat, l.length = k + 1 ∧ l.Nodup ∧ (∀ x ∈ l, x < n) ∧ ∀ x ∈ l, ∃ j, j ≤ k + 1 ∧ vN (itR ps j x) ≤ vN (itR ps (k + 1) i)
  | 0, i, hi, hlt => ⟨[i], rfl, by simp, by simpa using hi, fun x hx => by simp at hx; subst hx; exact ⟨1, by omega, Nat.le_refl _⟩⟩
  | k + 1, i, hi, hlt => by
    have hlt : vN (itR ps (k + 2) i) < vN (itR ps (k + 1) i) := hlt
    show ∃ l : List Nat, l.length = k + 2 ∧ l.Nodup ∧ (∀ x ∈ l, x < n) ∧ ∀ x ∈ l, ∃ j, j ≤ k + 2 ∧ vN (itR ps j x) ≤ vN (itR ps (k + 2) i)
    have hne : vN (itR ps (k + 2) i) ≠ 66 := by have := (vN_le (itR_in hin (k + 1)) hi).1; omega
    rcases (rnd_spec hin (itR_in hin (k + 1))).2 i hi with h1 | ⟨p, hp, h1, h2⟩
    · exact absurd h1 hne
    · have h3 := (rnd_spec hin (itR_in hin k)).1 p hp
      rw [h1] at h3
      have h4 : longU (fun i => vN (itR ps (k + 1) i)) p.2 0 < longU (fun i => vN (itR ps k i)) p.2 0 := by
        have h5 : vN (itR ps (k + 2) i) = longU (fun i => vN (itR ps (k + 1) i)) p.2 0 := h2
        have h6 : vN (itR ps (k + 1) i) ≤ longU (fun i => vN (itR ps k i)) p.2 0 := h3
        omega
      obtain ⟨c, hc, hcl, hcv⟩ := longU_comp (n := n) (u := fun i => vN (itR ps (k + 1) i)) (w := fun i => vN (itR ps k i)) (itR_dn hin k) (fun i _ => by omega) p.2 0 (hin p hp).2 (by omega) h4
      obtain ⟨l, hl1, hl2, hl3, hl4⟩ := itR_chain hin k c hc hcl
      have hcv' : vN (itR ps (k + 1) c) ≤ vN (itR ps (k + 2) i) := by
        have h5 : vN (itR ps (k + 2) i) = longU (fun i => vN (itR ps (k + 1) i)) p.2 0 := h2
        rw [h5]; exact hcv
      refine ⟨i :: l, by simp [hl1], ?_, ?_, ?_⟩
      · rw [List.nodup_cons]
        refine ⟨fun hm => ?_, hl2⟩
        obtain ⟨j, hj, hv⟩ := hl4 i hm
        have := itR_le hin (j := j) (k := k + 1) hj hi
        omega
      · intro x hx
        rcases List.mem_cons.1 hx with rfl | hx
        · exact hi
        · exact hl3 x hx
      · intro x hx
        rcases List.mem_cons.1 hx with rfl | hx
        · exact ⟨k + 2, by omega, Nat.le_refl _⟩
        · obtain ⟨j, hj, hv⟩ := hl4 x hx
          exact ⟨j, by omega, by omega⟩
theorem itR_end (hin : ∀ p ∈ ps, prodIn n p) : ∀ i, i < n → vN (itR ps (n + 1) i) = vN (itR ps n i) := by
  intro i hi
  by_cases h : vN (itR ps (n + 1) i) < vN (itR ps n i)
  · obtain ⟨l, h1, h2, h3, _⟩ := itR_chain hin n i hi h
    have := nodup_short n l h2 h3
    omega
  · have := itR_dn hin n i hi
    omega
theorem vN_inj {s t : Nat → Int} (hs : Shorts s n) (ht : Shorts t n) {i : Nat} (hi : i < n) (h : vN (s i) = vN (t i)) : s i = t i := by
  have h1 := hs i hi
  have h2 := ht i hi
  unfold vN at h
  split at h <;> split at h <;> omega
theorem itR_fix (hin : ∀ p ∈ ps, prodIn n p) : ∀ i, i < n → vN (rnd ps (itR ps n) i) = vN (itR ps n i) := itR_end hin
/-- From where two rounds are the same on, all are. -/
theorem itR_same (hin : ∀ p ∈ ps, prodIn n p) {k : Nat} (h : ∀ i, i < n → itR ps k i = itR ps (k + 1) i) : ∀ j, k ≤ j → ∀ i, i < n → vN (itR ps j i) = vN (itR ps k i) := by
  intro j hj
  induction hj with
  | refl => intro i _; rfl
  | @step m _ ih =>
    intro i hi
    have h1 := rnd_mono hin (itR_in hin m) (itR_in hin k) (fun i hi => Nat.le_of_eq (ih i hi)) i hi
    have h2 := rnd_mono hin (itR_in hin k) (itR_in hin m) (fun i hi => Nat.le_of_eq (ih i hi).symm) i hi
    have h3 : itR ps k i = itR ps (k + 1) i := h i hi
    show vN (rnd ps (itR ps m) i) = _
    have h4 : vN (rnd ps (itR ps k) i) = vN (itR ps k i) := by rw [h3]; rfl
    omega
theorem leastS_it (hin : ∀ p ∈ ps, prodIn n p) : ∀ m k, k + m = n + 1 → ∀ i, i < n → leastS ps n m (itR ps k) i = itR ps n i
  | 0, k, hk, i, hi => by
    simp only [leastS]
    have : k = n + 1 := by omega
    subst this
    exact vN_inj (itR_in hin _) (itR_in hin _) hi (itR_end hin i hi)
  | m + 1, k, hk, i, hi => by
    simp only [leastS]
    by_cases hb : sameB (itR ps k) (rnd ps (itR ps k)) n = true
    · rw [if_pos hb]
      have hs := sameB_iff.1 hb
      have h1 := itR_same hin (k := k) (fun i hi => hs i hi)
      have h2 := h1 n (by omega) i hi
      have h3 := h1 (k + 1) (by omega) i hi
      exact vN_inj (itR_in hin (k + 1)) (itR_in hin n) hi (by rw [h2]; exact h3)
    · rw [if_neg hb]
      exact leastS_it hin m (k + 1) (by omega) i hi
/-- What the reference tells: the end of the rounds. -/
theorem leastS_end (hin : ∀ p ∈ ps, prodIn n p) (i : Nat) (hi : i < n) : leastS ps n (n + 1) (fun _ => -1) i = itR ps n i := leastS_it hin (n + 1) 0 (by omega) i hi
/-! ### The engine's growing -/
theorem shoStep_stable {s : Nat → Int} (hs : Shorts s n) {p : ProdD} (hp : prodIn n p) (h : (shoStep s p).2 = false) : vN (s p.1.toNat) ≤ longU (fun i => vN (s i)) p.2 0 := by
  have hk : p.1.toNat < n := by have := hp.1; omega
  have hlen := longU_lenF hs hp.2 (m := 0) (by omega)
  unfold shoStep at h
  cases hl : lenF s p.2 0 with
  | none =>
    rw [hl] at hlen
    have h66 : longU (fun i => vN (s i)) p.2 0 = 66 := by rw [show (0 : Nat) = (0 : Int).toNat from rfl, ← hlen]; rfl
    rw [h66]; exact (vN_le hs hk).1
  | some m =>
    rw [hl] at hlen
    simp only [hl] at h
    split at h
    · rename_i hc
      have hvm : vN m = longU (fun i => vN (s i)) p.2 0 := hlen
      have hm := lenF_in hs hp.2 (by omega) hl
      have h1 := hs p.1.toNat hk
      rw [← hvm]
      have hm1 : ¬ m = -1 := by omega
      unfold vN
      rw [if_neg hc.1, if_neg hm1]; omega
    · cases h
theorem shortest_end (hin : ∀ p ∈ ps, prodIn n p) {s : Nat → Int} (hR : Reach shoStep ps (fun _ => -1) s) (hst : ∀ p ∈ ps, (shoStep s p).2 = false) : ∀ i, i < n → s i = itR ps n i := by
  have h0 : Shorts (fun _ => -1) n := fun i _ => by show (-1 : Int) ≤ -1 ∧ (-1 : Int) ≤ 65; decide
  have hJ : Shorts s n ∧ ∀ i, i < n → vN (itR ps n i) ≤ vN (s i) := by
    refine Reach.inv (J := fun s => Shorts s n ∧ ∀ i, i < n → vN (itR ps n i) ≤ vN (s i)) (fun t p ⟨h1, h2⟩ hp => ⟨shoStep_in h1 (hin p hp), fun i hi => ?_⟩) hR ⟨h0, fun i hi => (vN_le (itR_in hin n) hi).1⟩
    have hpp := hin p hp
    have hlen := longU_lenF h1 hpp.2 (m := 0) (by omega)
    unfold shoStep
    cases hl : lenF t p.2 0 with
    | none => exact h2 i hi
    | some m =>
      simp only
      split
      · exact h2 i hi
      · dsimp only
        by_cases e : i = p.1.toNat
        · subst e
          rw [upd_at]
          rw [hl] at hlen
          have hvm : vN m = longU (fun i => vN (t i)) p.2 0 := hlen
          rw [hvm, ← itR_fix hin _ hi]
          exact Nat.le_trans ((rnd_spec hin (itR_in hin n)).1 p hp) (longU_mono h2 p.2 0 0 hpp.2 (Nat.le_refl _) (by omega))
        · rw [upd_ne _ _ e]; exact h2 i hi
  obtain ⟨hs, hlow⟩ := hJ
  have hup : ∀ k i, i < n → vN (s i) ≤ vN (itR ps k i) := by
    intro k
    induction k with
    | zero => intro i hi; exact (vN_le hs hi).1
    | succ k ih =>
      intro i hi
      rcases (rnd_spec hin (itR_in hin k)).2 i hi with h1 | ⟨p, hp, h1, h2⟩
      · show vN (s i) ≤ vN (rnd ps (itR ps k) i)
        rw [h1]; exact (vN_le hs hi).1
      · show vN (s i) ≤ vN (rnd ps (itR ps k) i)
        rw [h2, ← h1]
        exact Nat.le_trans (shoStep_stable hs (hin p hp) (hst p hp)) (longU_mono ih p.2 0 0 (hin p hp).2 (Nat.le_refl _) (by omega))
  intro i hi
  exact vN_inj hs (itR_in hin n) hi (Nat.le_antisymm (hup n i hi) (hlow i hi))
/-- A body that has something throughout, by what the rounds tell. -/
theorem all_has {u : Nat → Nat} {o : Nat → Bool} {lb : Bool} {b : Nat} (hb : b ≤ 65) (hlb : lb = true → b = 65) (ho : ∀ i, i < n → (o i = true ↔ u i ≤ b)) : ∀ (ss : List SymD) (m : Nat), (∀ x ∈ ss, symIn n x) → m ≤ b → (lb = false → b = 0) → (ss.all (symHas o lb) = true ↔ longU u ss m ≤ b)
  | [], m, _, hm, _ => by simp [longU, hm]
  | (true, k) :: r, m, hi, hm, hb0 => by
    have ih := all_has hb hlb ho r (min 65 (m + 1)) (fun x hx => hi x (List.mem_cons_of_mem _ hx))
    simp only [List.all_cons, Bool.and_eq_true, longU]
    cases lb with
    | true =>
      have := hlb rfl
      rw [ih (by omega) hb0]
      simp [symHas]
    | false =>
      have h0 := hb0 rfl
      have h1 := (longU_ge u r (min 65 (m + 1)) (by omega)).1
      simp only [symHas, if_true]
      constructor
      · rintro ⟨h, _⟩; cases h
      · intro h; omega
  | (false, k) :: r, m, hi, hm, hb0 => by
    have h1 := hi (false, k) (by simp) rfl
    dsimp only at h1
    have hk : k.toNat < n := by omega
    have ho' := ho k.toNat hk
    simp only [List.all_cons, Bool.and_eq_true, longU]
    have hh : symHas o lb (false, k) = o k.toNat := rfl
    rw [hh, ho']
    by_cases hu : 66 ≤ u k.toNat
    · rw [if_pos hu]
      constructor
      · rintro ⟨h, _⟩; omega
      · intro h; omega
    · rw [if_neg hu]
      have hge := (longU_ge u r (min 65 (m + u k.toNat)) (by omega)).1
      by_cases hle : u k.toNat ≤ b
      · cases lb with
        | true =>
          have := hlb rfl
          rw [all_has hb hlb ho r (min 65 (m + u k.toNat)) (fun x hx => hi x (List.mem_cons_of_mem _ hx)) (by omega) hb0]
          exact ⟨fun h => h.2, fun h => ⟨hle, h⟩⟩
        | false =>
          have h0 := hb0 rfl
          rw [all_has hb hlb ho r (min 65 (m + u k.toNat)) (fun x hx => hi x (List.mem_cons_of_mem _ hx)) (by omega) hb0]
          exact ⟨fun h => h.2, fun h => ⟨hle, h⟩⟩
      · constructor
        · rintro ⟨h, _⟩; exact absurd h hle
        · intro h
          exfalso
          cases lb with
          | true => have := hlb rfl; omega
          | false => have := hb0 rfl; omega
end
end Go.Proofs.Ytcemehocbemfmaa
