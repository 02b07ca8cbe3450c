/-
  A region whose order of evaluation is open, continued: the operations with effects among the quiet ones need not stand in one line: whatever comes next of them. Any program.
-/
import Derived.Test.YtbconcohpfkncaaGreatY
namespace Go.Proofs.YtbconcohpfkncaaGreat
open Go
/-- As xOK, the others in no line. -/
def xOKw (q tm : Nat) (A : Array Oper) (R : List Nat) : Bool := (List.range q).all fun i => match A[i]? with
  | some o => (opTmps o).all (fun t => (List.range q).all fun j => !dstIs A j t || ((bit R i j && Nat.blt j i) && (Nat.testBit tm i || !Nat.testBit tm j))) &&
      (match o.guard with | some (j, _) => Nat.testBit tm i || !Nat.testBit tm j | none => true)
  | none => false
def drawWOK (N q tm : Nat) (A : Array Oper) : Bool := drawOK N q A && xOKw q tm A (cloL A A.size)
/-- Which of the others may come next, when those of D have come. -/
def nexts (R : List Nat) (q tm : Nat) (D : List Nat) : List Nat := (List.range q).filter fun i => Nat.testBit tm i && !D.contains i && (List.range q).all fun j => !bit R i j || !Nat.testBit tm j || D.contains j
def leftN (q tm : Nat) (D : List Nat) : Nat := (List.range q).countP fun j => Nat.testBit tm j && !D.contains j
def GW (P : Program) (c : Cx) (A : Array Oper) (RR : List Nat) (q tm : Nat) (k : Env → List HP → Prop) : Nat → List Nat → Env → List HP → List HP → Prop
  | 0, _, L, M, R => k L (M ++ R)
  | n + 1, D, L, M, R => ∀ i, i ∈ nexts RR q tm D → ∀ o, A[i]? = some o → GO P c A [o] (fun e L' H' => e = .normal ∧ ∃ v R', L' = ext o.dst v L ∧ ImpS H' (M ++ R') ∧ GW P c A RR q tm k n (i :: D) (ext o.dst v L) M R') L (M ++ R)
section
variable {P : Program} {c : Cx} {A : Array Oper} {os : List Oper} {tm i : Nat} {k : Env → Prop} {kk : Env → List HP → Prop} {K : Kont} {L : Env} {H M R : List HP}
abbrev WK (P : Program) (c : Cx) (A : Array Oper) (RR : List Nat) (q tm : Nat) (k : Env → List HP → Prop) (n : Nat) (D : List Nat) (o : Oper) (L : Env) (M : List HP) : Kont := fun e L' H' => e = .normal ∧ ∃ v R', L' = ext o.dst v L ∧ ImpS H' (M ++ R') ∧ GW P c A RR q tm k n D (ext o.dst v L) M R'
theorem GW.nil {RR : List Nat} {q : Nat} {D : List Nat} (h : kk L (M ++ R)) : GW P c A RR q tm kk 0 D L M R := h
theorem GW.one {RR : List Nat} {q n : Nat} {D : List Nat} {i : Nat} {o : Oper} (h : nexts RR q tm D = [i]) (ho : A[i]? = some o) (g : GO P c A [o] (WK P c A RR q tm kk n (i :: D) o L M) L (M ++ R)) : GW P c A RR q tm kk (n + 1) D L M R := by
  unfold GW
  intro j hj o' ho'
  rw [h] at hj
  obtain rfl := List.mem_singleton.1 hj
  rw [ho] at ho'
  obtain rfl := Option.some.inj ho'
  exact g
theorem GW.two {RR : List Nat} {q n : Nat} {D : List Nat} {i1 i2 : Nat} {o1 o2 : Oper} (h : nexts RR q tm D = [i1, i2]) (h1 : A[i1]? = some o1) (h2 : A[i2]? = some o2) (g1 : GO P c A [o1] (WK P c A RR q tm kk n (i1 :: D) o1 L M) L (M ++ R)) (g2 : GO P c A [o2] (WK P c A RR q tm kk n (i2 :: D) o2 L M) L (M ++ R)) : GW P c A RR q tm kk (n + 1) D L M R := by
  unfold GW
  intro j hj o' ho'
  rw [h] at hj
  rcases List.mem_cons.1 hj with rfl | hj
  · rw [h1] at ho'
    obtain rfl := Option.some.inj ho'
    exact g1
  · obtain rfl := List.mem_singleton.1 hj
    rw [h2] at ho'
    obtain rfl := Option.some.inj ho'
    exact g2
theorem drawW_run {q : Nat} {m : Region.Mode} {V : Nat → Value} {RR : List Nat} {kk : Env → List HP → Prop} (ok : chk c.N q A RR = true) (xok : xOKw q tm A RR = true) (tp : topo m A (order m A) 0 = true)
    (hV : ∀ i, i < q → Nat.testBit tm i = false → ∀ o, A[i]? = some o → ∀ Z, GO P c A [o] (KQ (ext o.dst (V i) (LatQ A tm V L i)) (M ++ Z)) (LatQ A tm V L i) (M ++ Z))
    (hkk : ∀ L' H', kk L' H' → GO P c A (A.toList.drop q) K L' H') : ∀ (n t : Nat) (B : Array Bool) (a : Act) (w : World) (nT : Nat) (D : List Nat) (Lv : Env) (R : List HP),
    B.size = A.size → Closed A RR B → (List.range A.size).countP (fun i => !B.getD i true) = n → (∀ i, q ≤ i → i < A.size → B.getD i true = false) →
    a.tmps.size = c.N → Same c.w0 w → (∃ ds : List Nat, a.defers = ds.map mark ++ c.D ∧ ((c.r.isSome || c.nd) = true → ds = []) ∧ sat ((M ++ R) ++ (c.X ++ ds.map dblk)) w) →
    leftN q tm D = nT → (∀ j, j < q → Nat.testBit tm j = true → (B.getD j true = true ↔ j ∈ D)) → GW P c A RR q tm kk nT D Lv M R →
    (∀ j d, j < q → Nat.testBit tm j = false → dstAt A j d → look Lv d = some (V j)) → (∀ s, (∀ j, j < q → ¬ dstAt A j s) → look Lv s = look L s) →
    (∀ s v, look Lv s = some v → s < c.N) → (∀ s v, look Lv s = some v → (∀ j, j < q → Nat.testBit tm j = false → B.getD j true = false → ¬ dstAt A j s) → a.tmps[s]? = some v) →
    wpOpsIn (fen c.r) 0 P A (Post c K) (lin m A n t B) a w := by
  have hok := ok
  unfold chk at hok
  simp only [Bool.and_eq_true, List.all_eq_true, List.mem_range] at hok
  obtain ⟨hqb, hok⟩ := hok
  have hq : q ≤ A.size := by simpa using hqb
  have hop : ∀ i (hi : i < A.size), opOK c.N q A RR i A[i] = true := fun i hi => by have := hok i hi; simpa [hi] using this
  have hqop : ∀ i (hi : i < A.size), i < q → qkind A[i].op = true ∧ (∀ d, A[i].dst = some d → d < c.N ∧ ∀ j, j < q → j ≠ i → ¬ dstAt A j d) ∧
      (∀ t, .tmp t ∈ A[i].op.operands.toList → ∀ j, j < q → dstAt A j t → bit RR i j = true ∧ j < i) ∧ (∀ j b, A[i].guard = some (j, b) → j < q ∧ bit RR i j = true ∧ j < i) := by
    intro i hi hiq
    have h := hop i hi
    unfold opOK at h
    have hb : Nat.blt i q = true := by simpa using hiq
    simp only [hb, cond_true, Bool.and_eq_true] at h
    obtain ⟨_, ⟨⟨h1, h2⟩, h3⟩, h4⟩ := h
    refine ⟨h1, ?_, ?_, ?_⟩
    · intro d hd
      rw [hd] at h2
      simp only [Bool.and_eq_true, List.all_eq_true, List.mem_range] at h2
      refine ⟨by simpa using h2.1, fun j hj hne hdj => ?_⟩
      have := h2.2 j hj
      rw [dstIs_of hdj, nbeq hne] at this
      simp at this
    · intro t ht j hj hdj
      have hx := xok
      unfold xOKw at hx
      simp only [List.all_eq_true, List.mem_range] at hx
      have hx := hx i hiq
      simp only [hi, getElem?_pos, Bool.and_eq_true, List.all_eq_true, List.mem_range] at hx
      have := hx.1 t (by unfold opTmps; rw [List.mem_filterMap]; exact ⟨.tmp t, ht, rfl⟩) j hj
      rw [dstIs_of hdj] at this
      simp only [Bool.not_true, Bool.false_or, Bool.and_eq_true] at this
      exact ⟨this.1.1, by simpa using this.1.2⟩
    · intro j b hg
      rw [hg] at h4
      simp only [Bool.and_eq_true] at h4
      exact ⟨by simpa using h4.1.1, h4.1.2, by simpa using h4.2⟩
  have xop : ∀ i (hi : i < A.size), i < q → (∀ t, .tmp t ∈ A[i].op.operands.toList → ∀ j, j < q → dstAt A j t → Nat.testBit tm i = true ∨ Nat.testBit tm j = false) ∧
      (∀ j b, A[i].guard = some (j, b) → Nat.testBit tm i = true ∨ Nat.testBit tm j = false) := by
    intro i hi hiq
    have h := xok
    unfold xOKw at h
    simp only [List.all_eq_true, List.mem_range] at h
    have h := h i hiq
    simp only [hi, getElem?_pos, Bool.and_eq_true, List.all_eq_true, List.mem_range] at h
    obtain ⟨h1, h2⟩ := h
    refine ⟨?_, ?_⟩
    · intro t ht j hj hd
      have := h1 t (by unfold opTmps; rw [List.mem_filterMap]; exact ⟨.tmp t, ht, rfl⟩) j hj
      rw [dstIs_of hd] at this
      simp only [Bool.not_true, Bool.false_or, Bool.and_eq_true] at this
      simpa using this.2
    · intro j b hg
      rw [hg] at h2
      simpa using h2
  have ssa : ∀ i j s, i < q → j < q → dstAt A i s → dstAt A j s → i = j := by
    intro i j s hi hj h1 h2
    by_cases hij : i = j
    · exact hij
    · exfalso
      obtain ⟨o, ho, hd⟩ := h1
      have hi' : i < A.size := by omega
      simp [hi'] at ho
      have := (hqop i hi' hi).2.1 s (by rw [ho]; exact hd)
      exact this.2 j hj (Ne.symm hij) h2
  have hlenq : (A.toList.take q).length = q := by simp; omega
  -- when all of the first q are done
  have done : ∀ (B : Array Bool) (a : Act) (w : World) (nT : Nat) (D : List Nat) (Lv : Env) (R : List HP), (∀ i, i < q → B.getD i true = true) → a.tmps.size = c.N → Same c.w0 w → (∃ ds : List Nat, a.defers = ds.map mark ++ c.D ∧ ((c.r.isSome || c.nd) = true → ds = []) ∧ sat ((M ++ R) ++ (c.X ++ ds.map dblk)) w) →
      leftN q tm D = nT → (∀ j, j < q → Nat.testBit tm j = true → (B.getD j true = true ↔ j ∈ D)) → GW P c A RR q tm kk nT D Lv M R → (∀ s v, look Lv s = some v → (∀ j, j < q → Nat.testBit tm j = false → B.getD j true = false → ¬ dstAt A j s) → a.tmps[s]? = some v) →
      opsWp (fen c.r) P A (Post c K) (A.toList.drop q) a w := by
    intro B a w nT D Lv R hall hN hsame hmem hp hT hgt hI
    have h0 : nT = 0 := by
      rw [← hp]
      unfold leftN
      rw [List.countP_eq_zero]
      intro j hj
      cases hb : Nat.testBit tm j with
      | false => simp
      | true =>
        have := (hT j (List.mem_range.1 hj) hb).1 (hall j (List.mem_range.1 hj))
        simp [this]
    subst h0
    have h2 : kk Lv (M ++ R) := hgt
    refine hkk _ _ h2 a w ⟨⟨hN, fun s v hs => hI s v hs fun j hj _ hb => ?_⟩, hsame, hmem⟩
    rw [hall j hj] at hb; cases hb
  intro n
  induction n with
  | zero =>
    intro t B a w nT D Lv R hBs cl hcnt htail hN hsame hmem hp hT hgt hI1 hI2 hI3 hI4
    have hall : ∀ i, i < A.size → B.getD i true = true := by
      intro i hi
      rw [List.countP_eq_zero] at hcnt
      simpa using hcnt i (by simpa using hi)
    have hqs : q = A.size := by
      by_cases h : q < A.size
      · have h1 := hall q h; have h2 := htail q (by omega) h; rw [h1] at h2; cases h2
      · omega
    have hd := done B a w nT D Lv R (fun i hi => hall i (by omega)) hN hsame hmem hp hT hgt hI4
    have hdrop : A.toList.drop q = [] := by rw [hqs]; simp
    rw [hdrop] at hd
    simp only [lin]
    exact hd
  | succ n ih =>
    intro t B a w nT D Lv R hBs cl hcnt htail hN hsame hmem hp hT hgt hI1 hI2 hI3 hI4
    by_cases hquiet : ∀ i, i < q → B.getD i true = true
    · -- the tail
      have hB : ∀ i, i < A.size → B.getD i true = decide (i < q) := by
        intro i hi
        by_cases h : i < q
        · simp [h, hquiet i h]
        · simp [h, htail i (by omega) hi]
      have hcn : n + 1 = A.size - q := by
        rw [← hcnt, ← countP_ge q A.size hq]
        apply List.countP_congr
        intro x hx
        rw [hB x (by simpa using hx)]
      rw [lin_tail ok (n + 1) q t B (by omega) (Nat.le_refl q) hBs cl hB]
      refine wpOps_of_list (fen_fn c.r) _ (A.toList.drop q) a w ?_ (done B a w nT D Lv R hquiet hN hsame hmem hp hT hgt hI4)
      apply List.ext_getElem?
      intro i
      simp only [List.getElem?_map, List.getElem?_range', List.getElem?_drop]
      by_cases h : i < n + 1
      · have h' : q + i < A.size := by omega
        simp [h, h']
      · have h' : ¬ q + i < A.size := by omega
        have e1 : A.toList[q + i]? = none := by rw [List.getElem?_eq_none]; simpa using h'
        simp [h, e1]
    · -- one of the others
      have hex : ∃ i, i < A.size ∧ B.getD i true = false := by
        apply Classical.byContradiction
        intro h
        apply hquiet
        intro i hi
        cases e : B.getD i true with
        | true => rfl
        | false => exact absurd ⟨i, by omega, e⟩ h
      obtain ⟨i0, hi0, hc0⟩ := topo_cand hBs _ 0 tp (fun i h => by simp at h) hex
      have hne : 0 < ((List.range A.size).filter (cand m A B)).length := by
        apply List.length_pos_of_mem (a := i0)
        rw [List.mem_filter]; exact ⟨by simpa using hi0, hc0⟩
      have hlt := Nat.mod_lt t hne
      have hget := List.getElem?_eq_getElem hlt
      generalize hidef : ((List.range A.size).filter (cand m A B))[t % ((List.range A.size).filter (cand m A B)).length] = i at hget
      have himem : i ∈ (List.range A.size).filter (cand m A B) := by rw [← hidef]; exact List.getElem_mem hlt
      rw [List.mem_filter] at himem
      obtain ⟨hir, hci⟩ := himem
      have hi : i < A.size := by simpa using hir
      have hBi : B.getD i true = false := cand_not hci
      have hiA : A[i]? = some A[i] := by simp [hi]
      have pred : ∀ j, bit RR i j = true → B.getD j true = true := by
        intro j hj
        have h2 := cand_pred hci hiA (hop i hi) cl hBs hj
        rw [Array.getD_eq_getD_getElem?] at h2 ⊢
        cases hb : B[j]? with
        | none => simp
        | some b => simp [hb] at h2 ⊢; exact h2
      have hiq : i < q := by
        apply Classical.byContradiction
        intro hnq
        apply hquiet
        intro j hj
        have h := hop i hi
        unfold opOK at h
        have hb : Nat.blt i q = false := by
          cases e : Nat.blt i q with
          | false => rfl
          | true => have : i < q := by simpa using e
                    omega
        simp only [hb, cond_false, Bool.and_eq_true, List.all_eq_true, List.mem_range] at h
        exact pred j (h.2.1 j (by omega))
      obtain ⟨hqk, hdst, hops, hgd⟩ := hqop i hi hiq
      obtain ⟨xops, xgd⟩ := xop i hi hiq
      obtain ⟨ds, hdef, hdr, hsat⟩ := hmem
      have hlin : lin m A (n + 1) t B = i :: lin m A n (t / ((List.range A.size).filter (cand m A B)).length) (B.setIfInBounds i true) := by
        simp only [lin, hget]
      have hgd2 : ∀ j, (B.setIfInBounds i true).getD j true = if j = i then true else B.getD j true := by
        intro j
        rw [Array.getD_eq_getD_getElem?, Array.getD_eq_getD_getElem?]
        by_cases h : i = j
        · subst h
          have : i < B.size := by omega
          simp [this]
        · rw [Array.getElem?_setIfInBounds_ne h]; simp [Ne.symm h]
      have hcl2 : Closed A RR (B.setIfInBounds i true) := by
        intro i' j hi' hb hj
        rw [hgd2] at hb
        have h1 : B.getD j false = true := by
          by_cases h : i' = i
          · subst h; exact cand_pred hci hiA (hop i' hi) cl hBs hj
          · rw [if_neg h] at hb; exact cl i' j hi' hb hj
        rw [Array.getD_eq_getD_getElem?] at h1 ⊢
        by_cases h : i = j
        · subst h
          have : i < B.size := by omega
          simp [this]
        · rw [Array.getElem?_setIfInBounds_ne h]; exact h1
      have hcnt2 : (List.range A.size).countP (fun j => !(B.setIfInBounds i true).getD j true) = n := by
        have := countP_upd (f := fun j => !B.getD j true) (g := fun j => !(B.setIfInBounds i true).getD j true) (i := i) (by simp [hBi]) (by simp [hgd2]) (fun j hj => by simp [hgd2, hj]) (List.range A.size) List.nodup_range (by simpa using hi)
        omega
      have htail2 : ∀ j, q ≤ j → j < A.size → (B.setIfInBounds i true).getD j true = false := by
        intro j hj hja
        rw [hgd2, if_neg (by omega)]; exact htail j hj hja
      -- a slot that the operation looks at holds what it will hold: no waiting quiet one writes it
      have hsee : ∀ s, (.tmp s ∈ A[i].op.operands.toList ∨ ∃ j b, A[i].guard = some (j, b) ∧ dstAt A j s) → ∀ j, j < q → Nat.testBit tm j = false → B.getD j true = false → ¬ dstAt A j s := by
        intro s hs j hj _ hb hd
        have hE : bit RR i j = true := by
          rcases hs with hs | ⟨j', b, hg, hd'⟩
          · exact (hops s hs j hj hd).1
          · obtain ⟨hj', hE⟩ := hgd j' b hg
            have : j' = j := ssa j' j s hj' hj hd' hd
            subst this; exact hE.1
        rw [pred j hE] at hb; cases hb
      rw [hlin]
      cases hti : Nat.testBit tm i with
      | false =>
        -- a quiet one
        obtain ⟨l1, l2⟩ := look_LatQ (V := V) (L := L) (tm := tm) hq ssa i (by omega)
        let a2 : Act := { tmps := Array.ofFn (n := c.N) fun s => (look (LatQ A tm V L i) s.1).getD (a.tmps.getD s.1 undef), defers := a.defers }
        have ha2 : ∀ s, s < c.N → a2.tmps[s]? = some ((look (LatQ A tm V L i) s).getD (a.tmps.getD s undef)) := by
          intro s hs; simp [a2, Array.getElem?_ofFn, hs]
        have hLv : ∀ s v, look (LatQ A tm V L i) s = some v → (∃ j, j < i ∧ Nat.testBit tm j = false ∧ dstAt A j s ∧ v = V j) ∨ ((∀ j, j < i → Nat.testBit tm j = false → ¬ dstAt A j s) ∧ look L s = some v) := by
          intro s v hs
          by_cases h : ∃ j, j < i ∧ Nat.testBit tm j = false ∧ dstAt A j s
          · obtain ⟨j, hj, hjb, hd⟩ := h
            rw [l1 j s hj hjb hd] at hs
            exact .inl ⟨j, hj, hjb, hd, by simpa using hs.symm⟩
          · have hn : ∀ j, j < i → Nat.testBit tm j = false → ¬ dstAt A j s := fun j hj hjb hd => h ⟨j, hj, hjb, hd⟩
            rw [l2 s hn] at hs
            exact .inr ⟨hn, hs⟩
        have hdN : ∀ j s, j < q → dstAt A j s → s < c.N := by
          intro j s hj hd
          obtain ⟨o, ho1, ho2⟩ := hd
          have hj' : j < A.size := by omega
          simp [hj'] at ho1
          exact ((hqop j hj' hj).2.1 s (by rw [ho1]; exact ho2)).1
        have hLN : ∀ s v, look (LatQ A tm V L i) s = some v → s < c.N := by
          intro s v hs
          rcases hLv s v hs with ⟨j, hj, _, hd, _⟩ | ⟨_, hl⟩
          · exact hdN j s (by omega) hd
          · by_cases h' : ∃ j, j < q ∧ dstAt A j s
            · obtain ⟨j, hj, hd⟩ := h'; exact hdN j s hj hd
            · exact hI3 s v (by rw [hI2 s fun j hj hd => h' ⟨j, hj, hd⟩]; exact hl)
        have hst2 : St c (LatQ A tm V L i) (M ++ R) a2 w := ⟨⟨by simp [a2], fun s v hs => by rw [ha2 s (hLN s v hs), hs]; rfl⟩, hsame, ds, hdef, hdr, hsat⟩
        have hone := hV i hiq hti A[i] hiA R a2 w hst2
        have hone1 := oneOp_of (F := fen c.r) (P := P) (A := A) (o := A[i]) (a := a2) (w := w) (fun e a w h => by obtain ⟨_, _, _, h, _⟩ := h; exact h) hone
        have hslot : ∀ s, (.tmp s ∈ A[i].op.operands.toList ∨ ∃ j b, A[i].guard = some (j, b) ∧ dstAt A j s) → a.tmps[s]? = a2.tmps[s]? := by
          intro s hs
          by_cases hsN : s < c.N
          · rw [ha2 s hsN]
            cases hl : look (LatQ A tm V L i) s with
            | none =>
              simp only [Option.getD_none]
              rw [Array.getD_eq_getD_getElem?]
              have hh : s < a.tmps.size := by omega
              simp [hh]
            | some v =>
              rw [Option.getD_some]
              refine hI4 s v ?_ (hsee s hs)
              rcases hLv s v hl with ⟨j, hj, hjb, hd, rfl⟩ | ⟨hn, hl'⟩
              · exact hI1 j s (by omega) hjb hd
              · rw [hI2 s]
                · exact hl'
                · intro j hj hd
                  rcases hs with hs | ⟨j', b, hg, hd'⟩
                  · obtain ⟨_, hji⟩ := hops s hs j hj hd
                    rcases xops s hs j hj hd with h | h
                    · rw [hti] at h; cases h
                    · exact hn j hji h hd
                  · obtain ⟨hj', _, hji⟩ := hgd j' b hg
                    have : j' = j := ssa j' j s hj' hj hd' hd
                    subst this
                    rcases xgd j' b hg with h | h
                    · rw [hti] at h; cases h
                    · exact hn j' hji h hd
          · have h1 : a.tmps[s]? = none := by rw [Array.getElem?_eq_none]; omega
            have h2 : a2.tmps[s]? = none := by rw [Array.getElem?_eq_none]; simp [a2]; omega
            rw [h1, h2]
        have hone2 := oneOp_see (A := A) hqk (fun s hs => hslot s (.inl hs)) (fun j b hg s hd => hslot s (.inr ⟨j, b, hg, hd⟩)) hone1
        refine oneOp_run (fen_fn c.r) hiA (oneOp_mono hone2 ?_)
        rintro Dd v w' ⟨L', H', ⟨hat, hs', ds', hdef', hdr', hsat'⟩, _, rfl, hsb⟩
        have hv : ∀ d, A[i].dst = some d → v = V i := by
          intro d hd
          have h1 := hat.2 d (V i) (by rw [hd]; simp [ext, look])
          rw [hd, putD_self (by simp [a2]; exact (hdst d hd).1)] at h1
          simpa using h1
        refine ih _ _ _ w' nT D Lv R (by simpa using hBs) hcl2 hcnt2 htail2 ?_ hs' ?_ hp ?_ hgt hI1 hI2 hI3 ?_
        · cases hd : A[i].dst <;> simp only [Act.putD, Act.put, Array.size_setIfInBounds, hN]
        · refine ⟨ds', ?_, hdr', (Sb.app hsb).sat hsat'⟩
          have : (Act.putD a2 Dd A[i].dst v).defers = Dd ++ a.defers := by cases A[i].dst <;> rfl
          rw [this] at hdef'
          cases A[i].dst <;> exact hdef'
        · intro j hj hjt
          rw [hgd2, if_neg (by intro e; subst e; rw [hti] at hjt; cases hjt)]
          exact hT j hj hjt
        · intro s u hs hnone
          by_cases hd : A[i].dst = some s
          · rw [hd, hv s hd]
            rw [hI1 i s hiq hti ⟨A[i], hiA, hd⟩] at hs
            simp only [Option.some.injEq] at hs
            rw [← hs]
            exact putD_self (Nat.lt_of_lt_of_eq (hdst s hd).1 hN.symm)
          · rw [putD_ne (fun d' hd' e => hd (by rw [hd', e]))]
            refine hI4 s u hs fun j hj hjt hb hdj => ?_
            by_cases hji : j = i
            · subst hji
              obtain ⟨o, ho1, ho2⟩ := hdj
              rw [hiA] at ho1
              simp only [Option.some.injEq] at ho1
              exact hd (by rw [ho1]; exact ho2)
            · exact hnone j hj hjt (by rw [hgd2, if_neg hji]; exact hb) hdj
      | true =>
        -- the thread's next
        have hiD : i ∉ D := fun h => by
          have := (hT i hiq hti).2 h
          rw [hBi] at this; cases this
        have hnx : i ∈ nexts RR q tm D := by
          unfold nexts
          refine List.mem_filter.2 ⟨List.mem_range.2 hiq, ?_⟩
          rw [hti, Bool.true_and, Bool.and_eq_true]
          refine ⟨by simpa using hiD, List.all_eq_true.2 fun j hj => ?_⟩
          have hjq := List.mem_range.1 hj
          cases hb1 : bit RR i j with
          | false => rfl
          | true =>
            cases hb2 : Nat.testBit tm j with
            | false => rfl
            | true =>
              have := (hT j hjq hb2).1 (pred j hb1)
              simp [this]
        have hlft : leftN q tm D = leftN q tm (i :: D) + 1 := by
          unfold leftN
          have := countP_upd (f := fun j => Nat.testBit tm j && !D.contains j) (g := fun j => Nat.testBit tm j && !(i :: D).contains j) (i := i) (by simp [hti, hiD]) (by simp) (fun j hj => by simp [hj]) (List.range q) List.nodup_range (by simpa using hiq)
          omega
        obtain ⟨nT', rfl⟩ : ∃ m, nT = m + 1 := ⟨_, hp.symm.trans hlft⟩
        have hgt2 := hgt
        unfold GW at hgt2
        have hgt2 := hgt2 i hnx A[i] hiA
        let a2 : Act := { tmps := Array.ofFn (n := c.N) fun s => (look Lv s.1).getD (a.tmps.getD s.1 undef), defers := a.defers }
        have ha2 : ∀ s, s < c.N → a2.tmps[s]? = some ((look Lv s).getD (a.tmps.getD s undef)) := by
          intro s hs; simp [a2, Array.getElem?_ofFn, hs]
        have hst2 : St c Lv (M ++ R) a2 w := ⟨⟨by simp [a2], fun s v hs => by rw [ha2 s (hI3 s v hs), hs]; rfl⟩, hsame, ds, hdef, hdr, hsat⟩
        have hone := hgt2 a2 w hst2
        have hone1 := oneOp_of (F := fen c.r) (P := P) (A := A) (o := A[i]) (a := a2) (w := w) (fun e a w h => by obtain ⟨_, _, _, h, _⟩ := h; exact h) hone
        have hslot : ∀ s, (.tmp s ∈ A[i].op.operands.toList ∨ ∃ j b, A[i].guard = some (j, b) ∧ dstAt A j s) → a.tmps[s]? = a2.tmps[s]? := by
          intro s hs
          by_cases hsN : s < c.N
          · rw [ha2 s hsN]
            cases hl : look Lv s with
            | none =>
              simp only [Option.getD_none]
              rw [Array.getD_eq_getD_getElem?]
              have hh : s < a.tmps.size := by omega
              simp [hh]
            | some v =>
              rw [Option.getD_some]
              exact hI4 s v hl (hsee s hs)
          · have h1 : a.tmps[s]? = none := by rw [Array.getElem?_eq_none]; omega
            have h2 : a2.tmps[s]? = none := by rw [Array.getElem?_eq_none]; simp [a2]; omega
            rw [h1, h2]
        have hone2 := oneOp_see (A := A) hqk (fun s hs => hslot s (.inl hs)) (fun j b hg s hd => hslot s (.inr ⟨j, b, hg, hd⟩)) hone1
        refine oneOp_run (fen_fn c.r) hiA (oneOp_mono hone2 ?_)
        rintro Dd v w' ⟨L', H', ⟨hat, hs', ds', hdef', hdr', hsat'⟩, _, v', R', rfl, hsb, hgt3⟩
        have hv : ∀ d, A[i].dst = some d → v = v' := by
          intro d hd
          have h1 := hat.2 d v' (by rw [hd]; simp [ext, look])
          rw [hd, putD_self (by simp [a2]; exact (hdst d hd).1)] at h1
          simpa using h1
        have hnd : ∀ s, A[i].dst = some s → ∀ j, j < q → j ≠ i → ¬ dstAt A j s := fun s hs j hj hji => (hdst s hs).2 j hj hji
        refine ih _ _ _ w' nT' (i :: D) (ext A[i].dst v' Lv) R' (by simpa using hBs) hcl2 hcnt2 htail2 ?_ hs' ?_ (by omega) ?_ hgt3 ?_ ?_ ?_ ?_
        · cases hd : A[i].dst <;> simp only [Act.putD, Act.put, Array.size_setIfInBounds, hN]
        · refine ⟨ds', ?_, hdr', hsb _ _ hsat'⟩
          have : (Act.putD a2 Dd A[i].dst v).defers = Dd ++ a.defers := by cases A[i].dst <;> rfl
          rw [this] at hdef'
          cases A[i].dst <;> exact hdef'
        · intro j hj hjt
          rw [hgd2]
          by_cases hji : j = i
          · subst hji; simp
          · rw [if_neg hji, hT j hj hjt]
            simp [hji]
        · intro j d hj hjt hd
          rw [look_ext, if_neg (fun e => hnd d e j hj (by intro e'; subst e'; rw [hti] at hjt; cases hjt) hd)]
          exact hI1 j d hj hjt hd
        · intro s hs
          rw [look_ext, if_neg (fun e => hs i hiq ⟨A[i], hiA, e⟩)]
          exact hI2 s hs
        · intro s u hs
          rw [look_ext] at hs
          by_cases hd : A[i].dst = some s
          · exact (hdst s hd).1
          · rw [if_neg hd] at hs; exact hI3 s u hs
        · intro s u hs hnone
          rw [look_ext] at hs
          by_cases hd : A[i].dst = some s
          · rw [if_pos hd] at hs
            simp only [Option.some.injEq] at hs
            rw [hd, hv s hd, hs]
            exact putD_self (Nat.lt_of_lt_of_eq (hdst s hd).1 hN.symm)
          · rw [if_neg hd] at hs
            rw [putD_ne (fun d' hd' e => hd (by rw [hd', e]))]
            refine hI4 s u hs fun j hj hjt hb hdj => ?_
            have hji : j ≠ i := by intro e; subst e; rw [hti] at hjt; cases hjt
            exact hnone j hj hjt (by rw [hgd2, if_neg hji]; exact hb) hdj
/-- A region that draws its order: quiet operations in whatever order, among them others (the bits of tm) in whatever order the region allows, then the rest, whose order is forced. -/
theorem G.drawW {id : Nat} (q tm n : Nat) (M R : List HP) (kk : Env → List HP → Prop) (ok : drawWOK c.N q tm A = true) (hn : leftN q tm [] = n) (hL : ∀ s v, look L s = some v → s < c.N) (tk : ImpS H (M ++ R))
    (h : GR P c A tm 0 (A.toList.take q) (fun L' => GW P c A (cloL A A.size) q tm kk n [] L' M R) L M) (hkk : ∀ L' H', kk L' H' → GO P c A (A.toList.drop q) K L' H') : G P c (.region id A true) K L H := by
  intro a w hs
  refine wpIn_region_draw fun t => ?_
  unfold drawWOK drawOK at ok
  simp only [Bool.and_eq_true] at ok
  obtain ⟨⟨ok1, ok2, ok3, ok4⟩, xok⟩ := ok
  have hq : q ≤ A.size := by
    unfold chk at ok1
    simp only [Bool.and_eq_true] at ok1
    simpa using ok1.1
  have hlen : (A.toList.take q).length = q := by simp; omega
  have hAt : ∀ j o, (A.toList.take q)[j]? = some o → A[0 + j]? = some o := fun j o hj => by
    have := (List.getElem?_eq_some_iff.1 hj).1
    rw [hlen] at this
    rw [List.getElem?_take_of_lt this] at hj
    simpa using hj
  obtain ⟨V, _, hV, hk⟩ := GR.get (A.toList.take q) 0 (fun _ => undef) hAt (by simpa [LatQ] using h)
  rw [hlen, Nat.zero_add] at hV hk
  have hok := ok1
  unfold chk at hok
  simp only [Bool.and_eq_true, List.all_eq_true, List.mem_range] at hok
  have hdd : ∀ i d, i < q → dstAt A i d → d < c.N ∧ ∀ j, j < q → j ≠ i → ¬ dstAt A j d := by
    intro i d hi hd
    have hi' : i < A.size := by omega
    have h := hok.2 i hi'
    simp only [hi', getElem?_pos] at h
    obtain ⟨o, ho1, ho2⟩ := hd
    simp [hi'] at ho1
    rw [ho1] at h
    unfold opOK at h
    have hb : Nat.blt i q = true := by simpa using hi
    simp only [hb, cond_true, Bool.and_eq_true] at h
    obtain ⟨_, ⟨⟨_, h2⟩, _⟩, _⟩ := h
    rw [ho2] at h2
    simp only [Bool.and_eq_true, List.all_eq_true, List.mem_range] at h2
    refine ⟨by simpa using h2.1, fun j hj hne hdj => ?_⟩
    have := h2.2 j hj
    rw [dstIs_of hdj, nbeq hne] at this
    simp at this
  have ssa : ∀ i j s, i < q → j < q → dstAt A i s → dstAt A j s → i = j := by
    intro i j s hi hj h1 h2
    by_cases hij : i = j
    · exact hij
    · exact absurd h2 ((hdd i s hi h1).2 j hj (Ne.symm hij))
  obtain ⟨l1, l2⟩ := look_LatQ (V := V) (L := L) (tm := tm) hq ssa q (Nat.le_refl q)
  have run : ∀ m t, topo m A (order m A) 0 = true → wpOpsIn (fen c.r) 0 P A (Post c K) (Region.linearise m A t) a { w with drawn := w.drawn + 1 } := by
    intro m t tp
    unfold Region.linearise
    rw [lin_eq]
    simp only [List.reverse_nil, List.nil_append]
    obtain ⟨h1, h2, ds, h3, h4, h5⟩ := hs
    have hrep : ∀ i, i < A.size → (Array.replicate A.size false).getD i true = false := by
      intro i hi; rw [Array.getD_eq_getD_getElem?]; simp [hi]
    refine drawW_run (RR := cloL A A.size) ok1 xok tp (fun i hi hb o ho Z => hV i (Nat.zero_le _) hi hb o ho Z) hkk _ _ _ a _ n [] (LatQ A tm V L q) R (by simp) (fun i j hi hb => by rw [hrep i hi] at hb; cases hb) ?_ (fun i _ hi => hrep i hi) h1.1 (h2.trans (Same.drawn _ (Nat.le_add_right _ _))) ⟨ds, h3, h4, ?_⟩ hn ?_ hk (fun j d hj hb hd => l1 j d hj hb hd) (fun s hs => l2 s fun j hj _ => hs j hj) ?_ ?_
    · rw [List.countP_eq_length.2]
      · simp
      · intro i hi; rw [hrep i (by simpa using hi)]; rfl
    · exact sat_heap (tk _ _ h5) rfl
    · intro j hj _
      rw [hrep j (by omega)]
      simp
    · intro s v hs
      by_cases h : ∃ j, j < q ∧ dstAt A j s
      · obtain ⟨j, hj, hd⟩ := h; exact (hdd j s hj hd).1
      · rw [l2 s fun j hj _ hd => h ⟨j, hj, hd⟩] at hs
        exact hL s v hs
    · intro s v hs hno
      have hn : ∀ j, j < q → Nat.testBit tm j = false → ¬ dstAt A j s := fun j hj hb => hno j hj hb (hrep j (by omega))
      rw [l2 s hn] at hs
      exact h1.2 s v hs
  unfold Region.schedule
  split
  · exact run _ _ ok2
  · split
    · exact run _ _ ok3
    · exact run _ _ ok4
end
end Go.Proofs.YtbconcohpfkncaaGreat
