/-
  The reference's Used: a pile of what is still to look at.
-/
import Derived.Test.YtcemehocbemfmaaLV
namespace Go.Proofs.Ytcemehocbemfmaa
open Go
attribute [local irreducible] G GO GR GT Fn FnV pt init exs pur sat own ImpS
def nts (ss : List SymD) : List Int := ss.filterMap fun s => if s.1 then none else some s.2
/-- What a nonterminal's bodies put on the pile. -/
def push (ps : List ProdD) (i : Nat) : List Int := ps.flatMap fun p => if p.1.toNat = i then nts p.2 else []
def tot (ps : List ProdD) : Nat := (ps.map fun p => p.2.length).sum
/-- What is reached from some numbers. -/
inductive Rch (ps : List ProdD) (fr : List Int) : Nat → Prop
  | base {x : Int} : x ∈ fr → Rch ps fr x.toNat
  | step {p : ProdD} {s : SymD} : Rch ps fr p.1.toNat → p ∈ ps → s ∈ p.2 → s.1 = false → Rch ps fr s.2.toNat
theorem nts_len (ss : List SymD) : (nts ss).length ≤ ss.length := List.length_filterMap_le _ _
theorem nts_mem {ss : List SymD} {x : Int} : x ∈ nts ss ↔ ∃ s ∈ ss, s.1 = false ∧ s.2 = x := by
  unfold nts
  rw [List.mem_filterMap]
  constructor
  · rintro ⟨⟨l, m⟩, h1, h2⟩
    cases l <;> simp at h2
    exact ⟨(false, m), h1, rfl, h2⟩
  · rintro ⟨⟨l, m⟩, h1, h2, h3⟩
    dsimp only at h2 h3
    subst h2 h3
    exact ⟨(false, m), h1, rfl⟩
theorem push_mem {ps : List ProdD} {i : Nat} {x : Int} : x ∈ push ps i ↔ ∃ p ∈ ps, p.1.toNat = i ∧ ∃ s ∈ p.2, s.1 = false ∧ s.2 = x := by
  unfold push
  rw [List.mem_flatMap]
  constructor
  · rintro ⟨p, h1, h2⟩
    split at h2
    · exact ⟨p, h1, ‹_›, nts_mem.1 h2⟩
    · simp at h2
  · rintro ⟨p, h1, h2, h3⟩
    exact ⟨p, h1, by rw [if_pos h2]; exact nts_mem.2 h3⟩
theorem push_len (ps : List ProdD) (i : Nat) : (push ps i).length ≤ tot ps := by
  unfold push tot
  induction ps with
  | nil => simp
  | cons p ps ih =>
    simp only [List.flatMap_cons, List.length_append, List.map_cons, List.sum_cons]
    have := nts_len p.2
    split
    · omega
    · simp only [List.length_nil]; omega
theorem tot_take (ps : List ProdD) (k : Nat) : tot (ps.take k) ≤ tot ps := by
  unfold tot
  induction ps generalizing k with
  | nil => simp
  | cons p ps ih =>
    cases k with
    | zero => simp
    | succ k => simp only [List.take_succ_cons, List.map_cons, List.sum_cons]; have := ih k; omega
theorem tot_mem {ps : List ProdD} {p : ProdD} (h : p ∈ ps) : p.2.length ≤ tot ps := by
  unfold tot
  induction ps with
  | nil => simp at h
  | cons q ps ih =>
    simp only [List.map_cons, List.sum_cons]
    rcases List.mem_cons.1 h with rfl | h
    · omega
    · have := ih h; omega
theorem tot_bulk (ps : List ProdD) : tot ps + ps.length = (ps.map fun p => p.2.length + 1).sum := by
  unfold tot
  induction ps with
  | nil => rfl
  | cons p ps ih => simp only [List.map_cons, List.sum_cons, List.length_cons]; omega
theorem push_take {ps : List ProdD} {i k : Nat} {p : ProdD} (h : ps[k]? = some p) : push (ps.take (k + 1)) i = push (ps.take k) i ++ if p.1.toNat = i then nts p.2 else [] := by
  unfold push
  rw [List.take_add_one, h, List.flatMap_append]
  simp
theorem nts_take {ss : List SymD} {k : Nat} {s : SymD} (h : ss[k]? = some s) : nts (ss.take (k + 1)) = nts (ss.take k) ++ if s.1 then [] else [s.2] := by
  unfold nts
  rw [List.take_add_one, h, List.filterMap_append]
  obtain ⟨l, m⟩ := s
  cases l <;> rfl
/-- What holds between two looks at the pile. -/
structure Pile (ps : List ProdD) (fr : List Int) (n : Nat) (o : Nat → Bool) (l : List Int) : Prop where
  inn : ∀ x ∈ l, 0 ≤ x ∧ x < n
  rch : ∀ x ∈ l, Rch ps fr x.toNat
  out : ∀ i, o i = true → Rch ps fr i
  frm : ∀ x ∈ fr, o x.toNat = true ∨ x ∈ l
  clo : ∀ p ∈ ps, o p.1.toNat = true → ∀ s ∈ p.2, s.1 = false → o s.2.toNat = true ∨ s.2 ∈ l
theorem Pile.start {ps : List ProdD} {fr : List Int} {n : Nat} (h : inAll n fr = true) : Pile ps fr n (fun _ => false) fr := by
  unfold inAll at h
  rw [List.all_eq_true] at h
  exact ⟨fun x hx => by simpa using h x hx, fun x hx => .base hx, (fun i h => by cases h), fun x hx => .inr hx, fun p _ h => by cases h⟩
theorem Pile.skip {ps : List ProdD} {fr : List Int} {n : Nat} {o : Nat → Bool} {l : List Int} {x : Int} (h : Pile ps fr n o (l ++ [x])) (hx : o x.toNat = true) : Pile ps fr n o l := by
  obtain ⟨h1, h2, h3, h4, h5⟩ := h
  refine ⟨fun y hy => h1 y (by simp [hy]), fun y hy => h2 y (by simp [hy]), h3, fun y hy => ?_, fun p hp ho s hs hl => ?_⟩
  · rcases h4 y hy with h | h
    · exact .inl h
    · rcases List.mem_append.1 h with h | h
      · exact .inr h
      · simp at h; subst h; exact .inl hx
  · rcases h5 p hp ho s hs hl with h | h
    · exact .inl h
    · rcases List.mem_append.1 h with h | h
      · exact .inr h
      · simp at h; rw [h]; exact .inl hx
theorem Pile.look {ps : List ProdD} {fr : List Int} {n : Nat} {o : Nat → Bool} {l : List Int} {x : Int} (hin : ∀ p ∈ ps, prodIn n p) (h : Pile ps fr n o (l ++ [x])) : Pile ps fr n (upd o x.toNat true) (l ++ push ps x.toNat) := by
  obtain ⟨h1, h2, h3, h4, h5⟩ := h
  have hxr : Rch ps fr x.toNat := h2 x (by simp)
  have up : ∀ i, o i = true → upd o x.toNat true i = true := fun i hi => by unfold upd; split <;> simp_all
  refine ⟨fun y hy => ?_, fun y hy => ?_, fun i hi => ?_, fun y hy => ?_, fun p hp ho s hs hl => ?_⟩
  · rcases List.mem_append.1 hy with h | h
    · exact h1 y (by simp [h])
    · obtain ⟨p, hp, _, s, hs, hl, rfl⟩ := push_mem.1 h
      exact (hin p hp).2 s hs hl
  · rcases List.mem_append.1 hy with h | h
    · exact h2 y (by simp [h])
    · obtain ⟨p, hp, he, s, hs, hl, rfl⟩ := push_mem.1 h
      exact .step (he ▸ hxr) hp hs hl
  · unfold upd at hi
    split at hi
    · rename_i e; rw [e]; exact hxr
    · exact h3 i hi
  · rcases h4 y hy with h | h
    · exact .inl (up _ h)
    · rcases List.mem_append.1 h with h | h
      · exact .inr (by simp [h])
      · simp at h; subst h; exact .inl (by simp [upd])
  · by_cases e : p.1.toNat = x.toNat
    · exact .inr (List.mem_append.2 (.inr (push_mem.2 ⟨p, hp, e, s, hs, hl, rfl⟩)))
    · have ho' : o p.1.toNat = true := by unfold upd at ho; rw [if_neg e] at ho; exact ho
      rcases h5 p hp ho' s hs hl with h | h
      · exact .inl (up _ h)
      · rcases List.mem_append.1 h with h | h
        · exact .inr (by simp [h])
        · simp at h; rw [h]; exact .inl (by simp [upd])
theorem Pile.done {ps : List ProdD} {fr : List Int} {n : Nat} {o : Nat → Bool} (h : Pile ps fr n o []) (i : Nat) : o i = true ↔ Rch ps fr i := by
  obtain ⟨h1, h2, h3, h4, h5⟩ := h
  refine ⟨h3 i, fun hr => ?_⟩
  induction hr with
  | base hx => exact (h4 _ hx).resolve_right (by simp)
  | step _ hp hs hl ih => exact (h5 _ hp ih _ hs hl).resolve_right (by simp)
/-- The end of the engine's rounds says the same. -/
theorem used_done {ps : List ProdD} {fr : List Int} {o : Nat → Bool} (hR : Reach useStep ps (setOf fr) o) (hst : ∀ p ∈ ps, (useStep o p).2 = false) (i : Nat) : o i = true ↔ Rch ps fr i := by
  have keep : ∀ h (ss : List SymD) (a : (Nat → Bool) × Bool) i, a.1 i = true → (ss.foldl (useS h) a).1 i = true := by
    intro h ss
    induction ss with
    | nil => intro a i hi; exact hi
    | cons s ss ih => intro a i hi; exact ih _ i (useS_mono hi)
  constructor
  · have : ∀ i, o i = true → Rch ps fr i := by
      refine hR.inv (J := fun o => ∀ i, o i = true → Rch ps fr i) (fun s p hs hp => ?_) (fun i hi => ?_)
      · have : ∀ (ss : List SymD) (a : (Nat → Bool) × Bool), (∀ x ∈ ss, x ∈ p.2) → (∀ i, a.1 i = true → Rch ps fr i) → ∀ i, (ss.foldl (useS p.1.toNat) a).1 i = true → Rch ps fr i := by
          intro ss
          induction ss with
          | nil => intro a _ ha; exact ha
          | cons x ss ih =>
            intro a hss ha
            refine ih _ (fun y hy => hss y (by simp [hy])) (fun i hi => ?_)
            unfold useS at hi
            split at hi
            · rename_i hc
              simp only [Bool.and_eq_true, Bool.not_eq_true'] at hc
              simp only [upd] at hi
              split at hi
              · rename_i e; rw [e]; exact .step (ha _ hc.1.1) hp (hss x (by simp)) hc.1.2
              · exact ha i hi
            · exact ha i hi
        exact this p.2 (s, false) (fun x hx => hx) hs
      · obtain ⟨x, hx, rfl⟩ := setOf_iff.1 hi; exact .base hx
    exact this i
  · intro hr
    have hbase : ∀ i, setOf fr i = true → o i = true := by
      refine hR.inv (J := fun o => ∀ i, setOf fr i = true → o i = true) (fun s p hs _ i hi => keep _ _ _ i (hs i hi)) (fun i hi => hi)
    induction hr with
    | base hx => exact hbase _ (setOf_iff.2 ⟨_, hx, rfl⟩)
    | @step p s _ hp hs hl ih =>
      have h0 := hst p hp
      have hall : ∀ (ss : List SymD) (a : (Nat → Bool) × Bool), a.1 p.1.toNat = true → (ss.foldl (useS p.1.toNat) a).2 = false → s ∈ ss → a.1 s.2.toNat = true := by
        intro ss
        induction ss with
        | nil => intro a _ _ h; simp at h
        | cons x ss ih =>
          intro a ha hf hm
          rw [List.foldl_cons] at hf
          have hc : ¬ (a.1 p.1.toNat && !x.1 && !a.1 x.2.toNat) = true := fun hc => by
            have e : useS p.1.toNat a x = (upd a.1 x.2.toNat true, true) := by unfold useS; rw [if_pos hc]
            rw [e] at hf
            rw [useF_keep.1 rfl] at hf; cases hf
          have e : useS p.1.toNat a x = a := by unfold useS; rw [if_neg hc]
          rcases List.mem_cons.1 hm with rfl | hm
          · simp only [ha, hl, Bool.true_and, Bool.not_false, Bool.not_eq_true', Bool.not_eq_true, Bool.not_eq_false] at hc
            simpa using hc
          · rw [e] at hf; exact ih a ha hf hm
      exact hall p.2 (o, false) ih h0 hs
end Go.Proofs.Ytcemehocbemfmaa
