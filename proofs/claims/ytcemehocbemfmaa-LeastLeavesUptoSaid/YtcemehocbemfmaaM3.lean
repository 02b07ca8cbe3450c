/-
  QLv, part 3.
-/
import Derived.Test.YtcemehocbemfmaaM2
import Derived.Test.YtcemehocbemfmaaM1
import Derived.Test.YtcemehocbemfmaaO
import Derived.Test.YtcemehocbemfmaaRows
import Derived.WalkKit
import Derived.ProofKit
import Derived.OpenShut
import Derived.ChangeOld
import Derived.SizedLaws
namespace Go.Proofs.Ytcemehocbemfmaa
open Go
/-- Which symbols may be left out, by a row. -/
def EO (o : Nat → Bool) : Int → Bool := fun n => o n.toNat
/-- The rows of places of productions. -/
def AllR (z : HP) (E : Int → Bool) (ps : List ProdD) (k : Nat) (cells : List Value) : Prop := ∀ j p, j < k → ps[j]? = some p → ∃ u, cells[j]? = some u ∧ IntsR z u (plE E p.2 0)
theorem AllR.sup {z z' : HP} (h : Sup z z') {E : Int → Bool} {ps : List ProdD} {k : Nat} {cells : List Value} (hc : AllR z E ps k cells) : AllR z' E ps k cells := fun j p hj hp => let ⟨u, a, b⟩ := hc j p hj hp; ⟨u, a, b.sup h⟩
theorem AllR.succ {z : HP} {E : Int → Bool} {ps : List ProdD} {k : Nat} {cells : List Value} {p : ProdD} {u : Value} (hc : AllR z E ps k cells) (hl : cells.length = k) (hp : ps[k]? = some p) (hu : IntsR z u (plE E p.2 0)) : AllR z E ps (k + 1) (cells ++ [u]) := fun j p' hj hp' => by
  by_cases e : j = k
  · subst e
    rw [hp] at hp'
    injection hp' with hp'
    subst hp'
    exact ⟨u, by rw [List.getElem?_append_right (by omega), hl, Nat.sub_self]; rfl, hu⟩
  · obtain ⟨u', a, b⟩ := hc j p' (by omega) hp'
    exact ⟨u', by rw [List.getElem?_append_left (by omega)]; exact a, b⟩
/-- What of the productions to come is there. -/
def WInv (z : HP) (xs : List (Int × Value)) (L : List ProdD) (PP : ProdD → Prop) (n : Nat) : Prop := Cp z L xs ∧ (∀ p, p ∈ L ↔ PP p) ∧ L.length ≤ n
abbrev wSt := Value × List (Int × Value) × List ProdD × HP
def stP (b : Nat) (nts : Int) (PP : ProdD → Prop) (n : Nat) : HP := exs fun x : wSt => star [pur (WInv x.2.2.2 x.2.1 x.2.2.1 PP n ∧ x.1.oneCell' = true), own 42 2 x.2.1.length x.1 (pvs x.2.1), pt b (row [i64 nts, x.1] 24), x.2.2.2]
def WithI (E : Int → Bool) (ps : List ProdD) (h : Int) (b : List SymD) (i : Nat) (p : ProdD) : Prop := WithP E ps p ∨ ∃ m, m < i ∧ p = (h, maskF E m b) ∧ maskF E m b ≠ []
theorem with_next {E : Int → Bool} {ps : List ProdD} {k : Nat} {h : Int} {b : List SymD} (hp : ps[k]? = some (h, b)) (p : ProdD) : WithI E (ps.take k) h b (2 ^ cntE E b) p ↔ WithP E (ps.take (k + 1)) p := by
  have htk : ps.take (k + 1) = ps.take k ++ [(h, b)] := by rw [List.take_add_one, hp]; rfl
  unfold WithI WithP
  rw [htk]
  constructor
  · rintro (⟨c, h1, h2⟩ | ⟨m, h1, rfl, h3⟩)
    · exact ⟨c, List.mem_append_left _ h1, h2⟩
    · exact ⟨b, List.mem_append_right _ (List.mem_singleton.2 rfl), mask_mem E b m, h3⟩
  · rintro ⟨c, h1, h2, h3⟩
    rcases List.mem_append.1 h1 with h1 | h1
    · exact .inl ⟨c, h1, h2, h3⟩
    · have e := List.mem_singleton.1 h1
      injection e with e1 e2
      subst e2
      obtain ⟨m, h4, h5⟩ := mem_mask E c p.2 h2
      exact .inr ⟨m, h4, by rw [← h5, ← e1], by rw [← h5]; exact h3⟩
theorem with_zero {E : Int → Bool} {ps : List ProdD} {h : Int} {b : List SymD} (p : ProdD) : WithI E ps h b 0 p ↔ WithP E ps p := by
  unfold WithI
  constructor
  · rintro (h | ⟨m, h, _⟩)
    · exact h
    · omega
  · exact .inl
theorem with_skip {E : Int → Bool} {ps : List ProdD} {h : Int} {b : List SymD} {i : Nat} (he : maskF E i b = []) (p : ProdD) : WithI E ps h b (i + 1) p ↔ WithI E ps h b i p := by
  unfold WithI
  constructor
  · rintro (h1 | ⟨m, h1, h2, h3⟩)
    · exact .inl h1
    · by_cases e : m = i
      · subst e; exact absurd he h3
      · exact .inr ⟨m, by omega, h2, h3⟩
  · rintro (h1 | ⟨m, h1, h2⟩)
    · exact .inl h1
    · exact .inr ⟨m, by omega, h2⟩
theorem with_more {E : Int → Bool} {ps : List ProdD} {h : Int} {b : List SymD} {i : Nat} (he : maskF E i b ≠ []) (p : ProdD) : WithI E ps h b (i + 1) p ↔ WithI E ps h b i p ∨ p = (h, maskF E i b) := by
  unfold WithI
  constructor
  · rintro (h1 | ⟨m, h1, h2, h3⟩)
    · exact .inl (.inl h1)
    · by_cases e : m = i
      · subst e; exact .inr h2
      · exact .inl (.inr ⟨m, by omega, h2, h3⟩)
  · rintro ((h1 | ⟨m, h1, h2⟩) | h1)
    · exact .inl h1
    · exact .inr ⟨m, by omega, h2⟩
    · exact .inr ⟨i, by omega, h1, he⟩
theorem ints_snoc (l : List Int) (x : Int) : intsV (l ++ [x]) = intsV l ++ [i64 x] := by unfold intsV; simp
theorem ints_nil (E : Int → Bool) (ss : List SymD) (T : TypeId) (v : Value) : own T 1 (plE E (ss.take 0) 0).length v (intsV (plE E (ss.take 0) 0)) = own T 1 0 v [] := by
  rw [List.take_zero]; unfold plE intsV; rfl
theorem IntsR.one {q : HP} {v : Value} {l : List Int} (h : IntsR q v l) : v.oneCell' = true := by
  obtain ⟨a, cap, e⟩ := h.form
  rw [e]; rfl
theorem cnt_le (E : Int → Bool) : ∀ l : List SymD, cntE E l ≤ l.length
  | [] => Nat.le_refl _
  | t :: l => by
    have := cnt_le E l
    unfold cntE
    rw [List.length_cons]
    split <;> omega
/-- What Without answers. -/
def WithoutR (C : CnfD) (q : HP) (r : Value) (Q : List HP) : Prop :=
  (okC C = false ∧ r = .tuple #[.agg #[i64 0, .slice none 0 0], i64 220] ∧ Q = [q]) ∨
  (okC C = true ∧ ∃ o, Reach (cloStep false) C.prods (fun _ => false) o ∧ (∀ p ∈ C.prods, (cloStep false o p).2 = false) ∧
    (((∃ p ∈ C.prods, 12 < cntE (EO o) p.2) ∧ r = .tuple #[.agg #[i64 0, .slice none 0 0], i64 230] ∧ Q = [q]) ∨
     ((∀ p ∈ C.prods, cntE (EO o) p.2 ≤ 12) ∧ ∃ v zs z, r = .tuple #[v, i64 0] ∧ CnfR z v ⟨C.nts, zs⟩ ∧ Ups zs ∧ (∀ p, p ∈ zs ↔ WithP (EO o) C.prods p) ∧ zs.length ≤ C.prods.length * 4096 ∧ Q = [z, q])))
theorem okC_with {C : CnfD} {E : Int → Bool} {L : List ProdD} (hok : okC C = true) (h : ∀ p ∈ L, WithP E C.prods p) : okC ⟨C.nts, L⟩ = true := by
  unfold okC at hok ⊢
  rw [Bool.and_eq_true] at hok ⊢
  refine ⟨hok.1, List.all_eq_true.2 fun p hp => ?_⟩
  obtain ⟨b, h1, h2, _⟩ := h p hp
  obtain ⟨m, _, h3⟩ := mem_mask _ _ _ h2
  have h4 := List.all_eq_true.1 hok.2 _ h1
  unfold prodOK at h4 ⊢
  rw [Bool.and_eq_true] at h4 ⊢
  refine ⟨h4.1, List.all_eq_true.2 fun s hs => ?_⟩
  rw [h3] at hs
  exact List.all_eq_true.1 h4.2 s (mask_sub E b m s hs)
theorem nodup_le {α : Type} [DecidableEq α] : ∀ {l m : List α}, l.Nodup → (∀ x ∈ l, x ∈ m) → l.length ≤ m.length
  | [], m, _, _ => Nat.zero_le _
  | a :: l, m, hn, hs => by
    rw [List.nodup_cons] at hn
    have ha := hs a (List.mem_cons_self ..)
    have h1 : l.length ≤ (m.erase a).length := nodup_le hn.2 fun x hx => by
      rw [List.mem_erase_of_ne (fun e => hn.1 (by rw [← e]; exact hx))]
      exact hs x (List.mem_cons_of_mem _ hx)
    rw [List.length_erase_of_mem ha] at h1
    have := List.length_pos_of_mem ha
    simp only [List.length_cons]; omega
theorem sub_len {zs L : List ProdD} (hm : ∀ p, p ∈ zs ↔ p ∈ L) (hu : Ups zs) : zs.length ≤ L.length := by
  have hn : zs.Nodup := hu.imp fun {a b} h e => by rw [e, prodLt_irr] at h; cases h
  exact nodup_le hn fun p hp => (hm p).1 hp
section
variable {P : Program} {c : Cx} {A : Array Oper} {os : List Oper} {K : Kont} {L : Env} {H : List HP}
theorem G.impW {x : Code} {H' : List HP} (h : ImpS H H') (k : G P c x K L H') : G P c x K L H := G.imp h k
theorem GO.impW {H' : List HP} (h : ImpS H H') (k : GO P c A os K L H') : GO P c A os K L H := GO.imp h k
end
theorem ImpS.merge2 {x z q : HP} {H : List HP} : ImpS (x :: z :: q :: H) (x :: star [z, q] :: H) := ImpS.cons Tk.h (ImpS.flat (ImpS.sb Sb.r))
theorem stP_start (b : Nat) (nts : Int) (PP : ProdD → Prop) (hno : ∀ p, ¬ PP p) (H : List HP) : ImpS (own 42 2 0 (.slice none 0 0) [] :: pt b (row [i64 nts, .slice none 0 0] 24) :: H) (stP b nts PP 0 :: H) := fun l w s => by
  have s1 : sat (pur True :: own 42 2 0 (.slice none 0 0) [] :: pt b (row [i64 nts, .slice none 0 0] 24) :: H ++ l) w := sat_pur.2 ⟨trivial, s⟩
  have h : ImpS (pur True :: own 42 2 0 (.slice none 0 0) [] :: pt b (row [i64 nts, .slice none 0 0] 24) :: H) (stP b nts PP 0 :: H) :=
    ImpS.exs (.slice none 0 0, [], [], pur True) (ImpS.flat (ImpS.pur ⟨⟨trivial, fun p => ⟨(fun h => by cases h), fun h => absurd h (hno p)⟩, Nat.le_refl _⟩, rfl⟩ (ImpS.sb (Sb.c (Tk.t Tk.h) (Sb.c (Tk.t Tk.h) (Sb.c Tk.h Sb.r))))))
  exact h l w s1
theorem stP_le {b : Nat} {nts : Int} {PP : ProdD → Prop} {n m : Nat} (h : n ≤ m) (H : List HP) : ImpS (stP b nts PP n :: H) (stP b nts PP m :: H) := fun l w s => by
  unfold stP at s
  obtain ⟨x, s⟩ := sat_exs.1 s
  obtain ⟨hi, s⟩ := sat_pur.1 (sat_flat.1 s)
  exact sat_exs.2 ⟨x, sat_flat.2 (sat_pur.2 ⟨⟨⟨hi.1.1, hi.1.2.1, Nat.le_trans hi.1.2.2 h⟩, hi.2⟩, s⟩)⟩
theorem put_one {v : Value} (h : v.oneCell' = true) : putParts [v] = [v] := by
  cases v <;> first | rfl | cases h
theorem one_size {v : Value} (h : v.oneCell' = true) : ∀ u ∈ [v], u.cells.size = 1 := by
  intro u hu
  rw [List.mem_singleton.1 hu]
  cases v <;> first | rfl | cases h
attribute [local irreducible] G GO GR GT Fn FnV pt init exs pur sat own ImpS symsV intsV plE maskF
set_option maxRecDepth 40000 in
set_option maxHeartbeats 32000000 in
theorem without_spec (q : HP) (v : Value) (C : CnfD) (hv : CnfR q v C) (hz : Fits C) (hB : C.prods.length ≤ 1048576 ∧ ∀ p ∈ C.prods, p.2.length ≤ 1048576) :
    Fn Try.prog 26 #[v] [q] (WithoutR C q) := by
  have hz1 := hz.1
  have hem := empty_spec q v C hv hz
  obtain ⟨pv, rfl, hp⟩ := hv
  obtain ⟨a0, cap0, rfl⟩ := hp.form
  refine Fn.mk2 Try.func26 rfl rfl fun w0 F => ?_
  (refine G.seq ?_; refine G.region ?_; refine GO.box rfl rfl rfl fun b1 => ?_; refine GO.alloc rfl fun b2 => ?_; refine GO.assign rfl rfl ?_; refine GO.nil ?_; refine kthen_n ?_; refine G.seq ?_; refine G.region ?_; refine GO.loadW rfl rfl rfl (Tk.t Tk.h) rfl ?_)
  refine GO.call1 rfl rfl (hem) (Tks.c (Tk.t (Tk.t Tk.h)) Tks.n) ?_
  rintro _ _ (⟨hok, x1, o, rfl, hR, hS, rfl⟩ | ⟨hok, rfl, rfl⟩)
  · obtain ⟨⟨hn1, hn2⟩, hin⟩ := okC_in hok
    obtain ⟨n, hn⟩ := Int.eq_ofNat_of_zero_le (show 0 ≤ C.nts by omega)
    have hnn : C.nts.toNat = n := by omega
    rw [hnn]
    (refine GO.move rfl rfl ?_; refine GO.extract rfl rfl rfl ?_; refine GO.extract rfl rfl rfl ?_; refine GO.assign rfl rfl ?_; refine GO.assign rfl rfl ?_; refine GO.nil ?_; refine kthen_n ?_; refine G.seq ?_; refine G.seq ?_; refine G.region ?_; refine GO.move rfl rfl ?_; refine GO.neF rfl rfl rfl rfl ?_; refine GO.nil ?_; refine kthen_n ?_; refine G.condF rfl rfl ?_; refine G.skip ?_; refine kthen_n ?_; refine G.seq ?_; refine G.region ?_; refine GO.assign rfl rfl ?_; refine GO.nil ?_; refine kthen_n ?_; refine G.seq ?_; refine G.seq ?_; refine G.region ?_; refine GO.fieldAddr rfl rfl ?_; refine GO.load1 rfl rfl rfl (Tk.t (Tk.t (Tk.t Tk.h))) rfl ?_; refine GO.lenS rfl rfl ?_; refine GO.move rfl rfl ?_; refine GO.nil ?_; refine kthen_n ?_; refine G.block ?_)
    refine G.ownNil (T := 30) (sz := 1) ?_
    refine G.imp (H' := pur True :: _) (fun l w s => sat_pur.2 ⟨trivial, s⟩) ?_
    refine G.loop4 (fun (k : Nat) (av : Value) (_ : List Value) (_ : HP) => [(1, .pointer (some ⟨b1, 0, none⟩)), (2, .pointer (some ⟨b2, 0, none⟩)), (4, .slice (some ⟨x1, 0, none⟩) n n), (6, av), (26, .slice a0 C.prods.length cap0), (27, i64 (C.prods.length : Nat)), (28, i64 (k : Nat))])
      (fun k av cells z => own 30 1 k av cells :: z :: q :: pt x1 (row (boolsV o n) 4) :: pt b1 (row [i64 C.nts, .slice a0 C.prods.length cap0] 24) :: pt b2 (row [i64 0, .slice none 0 0] 24) :: F)
      (fun k _ cells z => k ≤ C.prods.length ∧ cells.length = k ∧ AllR z (EO o) C.prods k cells ∧ ∀ j p, j < k → C.prods[j]? = some p → cntE (EO o) p.2 ≤ 12) (fun k _ _ _ => C.prods.length - k) 0 (.slice none 0 0) [] (pur True) ⟨Nat.zero_le _, rfl, fun j p h => absurd h (Nat.not_lt_zero _), fun j p h => absurd h (Nat.not_lt_zero _)⟩ ?_ ?_ ?_
    · (refine SubE.c rfl rfl ?_; refine SubE.c rfl rfl ?_; refine SubE.c rfl rfl ?_; refine SubE.c rfl rfl ?_; refine SubE.c rfl rfl ?_; refine SubE.c rfl rfl ?_; refine SubE.c rfl rfl ?_; exact SubE.n)
    · ((refine Sb.c (Tk.t Tk.h) ?_; refine Sb.c Tk.h ?_; refine Sb.c (Tk.t Tk.h) ?_; refine Sb.c Tk.h ?_; refine Sb.c (Tk.t Tk.h) ?_; refine Sb.c Tk.h ?_); (exact Sb.r))
    · rintro k av cells z ⟨hk, hcl, hall, hc12⟩
      (refine G.seq ?_; refine G.region ?_; refine GO.lti rfl rfl rfl ?_; refine GO.nil ?_; refine kthen_n ?_; refine G.seq ?_)
      refine G.condD rfl (fun hlt => ?_) (fun hge => ?_)
      · obtain ⟨⟨h, ss⟩, hpk⟩ : ∃ p, C.prods[k]? = some p := ⟨_, List.getElem?_eq_getElem (by omega)⟩
        have hpm := List.mem_of_getElem? hpk
        have hbl := hB.2 _ hpm
        have hsin := (hin _ hpm).2
        obtain ⟨b0, o0, bv, rfl, _, r1, r2, hss⟩ := hp.at hpk
        dsimp only at hbl hsin r1 r2 hss
        obtain ⟨ab, capb, rfl⟩ := hss.form
        (refine G.skip ?_; refine kthen_n ?_; refine G.seq ?_; refine G.block ?_; refine G.seq ?_; refine G.region ?_; refine GO.idxS rfl rfl rfl ⟨rfl, by omega⟩ ?_; refine GO.load2 rfl rfl rfl (Tk.t (Tk.t Tk.h)) (by assumption) (by assumption) ?_; refine GO.alloc rfl fun b8 => ?_; refine GO.storeW rfl rfl Tk.h ⟨rfl, rfl⟩ (by simp [Value.oneCell']) ?_; refine GO.nil ?_; refine kthen_n ?_; refine G.seq ?_; refine G.region ?_; refine GO.assign rfl rfl ?_; refine GO.nil ?_; refine kthen_n ?_; refine G.seq ?_; refine G.seq ?_; refine G.region ?_; refine GO.fieldAddr rfl rfl ?_; refine GO.load1 rfl rfl rfl Tk.h rfl ?_; refine GO.lenS rfl rfl ?_; refine GO.move rfl rfl ?_; refine GO.nil ?_; refine kthen_n ?_; refine G.block ?_)
        refine G.ownNil (T := 3) (sz := 1) ?_
        refine G.loop2 (fun (i : Nat) (v : Value) => [(1, .pointer (some ⟨b1, 0, none⟩)), (2, .pointer (some ⟨b2, 0, none⟩)), (4, .slice (some ⟨x1, 0, none⟩) n n), (6, av), (8, .pointer (some ⟨b8, 0, none⟩)), (9, v), (26, .slice (some ⟨b0, o0, none⟩) C.prods.length cap0), (27, i64 (C.prods.length : Nat)), (28, i64 (k : Nat)), (33, .slice ab ss.length capb), (34, i64 (ss.length : Nat)), (35, i64 (i : Nat))])
          (fun i v => own 3 1 (plE (EO o) (ss.take i) 0).length v (intsV (plE (EO o) (ss.take i) 0)) :: pt b8 (row [i64 h, .slice ab ss.length capb] 42) :: own 30 1 k av cells :: z :: q :: pt x1 (row (boolsV o n) 4) :: pt b1 (row [i64 C.nts, .slice (some ⟨b0, o0, none⟩) C.prods.length cap0] 24) :: pt b2 (row [i64 0, .slice none 0 0] 24) :: F)
          (fun i _ => i ≤ ss.length) (fun i _ => ss.length - i) 0 (.slice none 0 0) (Nat.zero_le _) ?_ ?_ ?_
        · (refine SubE.c rfl rfl ?_; refine SubE.c rfl rfl ?_; refine SubE.c rfl rfl ?_; refine SubE.c rfl rfl ?_; refine SubE.c rfl rfl ?_; refine SubE.c rfl rfl ?_; refine SubE.c rfl rfl ?_; refine SubE.c rfl rfl ?_; refine SubE.c rfl rfl ?_; refine SubE.c rfl rfl ?_; refine SubE.c rfl rfl ?_; refine SubE.c rfl rfl ?_; exact SubE.n)
        · rw [ints_nil]
          ((refine Sb.c Tk.h ?_; refine Sb.c Tk.h ?_; refine Sb.c Tk.h ?_; refine Sb.c Tk.h ?_; refine Sb.c Tk.h ?_; refine Sb.c Tk.h ?_; refine Sb.c Tk.h ?_; refine Sb.c Tk.h ?_); (exact Sb.r))
        · rintro i v hi
          (refine G.seq ?_; refine G.region ?_; refine GO.lti rfl rfl rfl ?_; refine GO.nil ?_; refine kthen_n ?_; refine G.seq ?_)
          refine G.condD rfl (fun hlt2 => ?_) (fun hge2 => ?_)
          · obtain ⟨s, hs⟩ : ∃ s, ss[i]? = some s := ⟨_, List.getElem?_eq_getElem (by omega)⟩
            have htk : ss.take (i + 1) = ss.take i ++ [s] := by rw [List.take_add_one, hs]; rfl
            have hsn := plE_snoc (EO o) s (ss.take i) 0
            have hpl := plE_len (EO o) (ss.take i) 0
            have hcl2 := cnt_le (EO o) (ss.take i)
            rw [List.length_take, Nat.min_eq_left (by omega), Nat.zero_add] at hsn
            rw [List.length_take] at hcl2
            rw [← htk] at hsn
            have hsi := hsin s (List.mem_of_getElem? hs)
            obtain ⟨bb, ob, rfl, _, r3, r4⟩ := hss.at hs
            obtain ⟨sl, sn⟩ := s
            dsimp only at r3 r4
            cases sl with
            | true =>
              rw [if_neg (by unfold nulS; simp), List.append_nil] at hsn
              rw [← hsn]
              (refine G.skip ?_; refine kthen_n ?_; refine G.seq ?_; refine G.block ?_; refine G.seq ?_; refine G.region ?_; refine GO.move rfl rfl ?_; refine GO.idxS rfl rfl rfl ⟨rfl, by omega⟩ ?_; refine GO.load2 rfl rfl rfl (Tk.t (Tk.t (Tk.t (Tk.t Tk.h)))) (by assumption) (by assumption) ?_; refine GO.alloc rfl fun b11 => ?_; refine GO.assign rfl rfl ?_; refine GO.storeW rfl rfl Tk.h ⟨rfl, rfl⟩ (by simp [Value.oneCell']) ?_; refine GO.nil ?_; refine kthen_n ?_; refine G.seq ?_; refine G.region ?_; refine GO.fieldAddr rfl rfl ?_; refine GO.load1 rfl rfl rfl Tk.h rfl ?_; refine GO.not rfl rfl ?_; refine GO.move rfl rfl ?_; refine GO.gF rfl rfl rfl rfl ?_; refine GO.gF rfl rfl rfl rfl ?_; refine GO.gF rfl rfl rfl rfl ?_; refine GO.gF rfl rfl rfl rfl ?_; refine GO.gF rfl rfl rfl rfl ?_; refine GO.pickF rfl rfl rfl ?_; refine GO.nil ?_; refine kthen_n ?_; refine G.condF rfl rfl ?_; refine G.skip ?_; refine kblock_n ?_; refine kthen_n ?_; refine G.region ?_; refine GO.addi rfl rfl rfl (by omega) ?_; refine GO.move rfl rfl ?_; refine GO.nil ?_; refine kthen_n ?_)
              refine ⟨i + 1, v, by omega, by omega, ?_, ?_⟩
              · (refine SubE.c rfl rfl ?_; refine SubE.c rfl rfl ?_; refine SubE.c rfl rfl ?_; refine SubE.c rfl rfl ?_; refine SubE.c rfl rfl ?_; refine SubE.c rfl rfl ?_; refine SubE.c rfl rfl ?_; refine SubE.c rfl rfl ?_; refine SubE.c rfl rfl ?_; refine SubE.c rfl rfl ?_; refine SubE.c rfl rfl ?_; refine SubE.c rfl rfl ?_; exact SubE.n)
              · ((refine Sb.c (Tk.t Tk.h) ?_; refine Sb.c (Tk.t Tk.h) ?_; refine Sb.c (Tk.t Tk.h) ?_; refine Sb.c (Tk.t Tk.h) ?_; refine Sb.c (Tk.t Tk.h) ?_; refine Sb.c (Tk.t Tk.h) ?_; refine Sb.c (Tk.t Tk.h) ?_; refine Sb.c (Tk.t Tk.h) ?_); (refine Sb.s ?_; exact Sb.r))
            | false =>
              have hsi := hsi rfl
              dsimp only at hsi
              obtain ⟨m, rfl⟩ := Int.eq_ofNat_of_zero_le hsi.1
              have hmn : m < n := by omega
              have hnu : nulS (EO o) (false, (m : Int)) = o m := by unfold nulS EO; rfl
              rw [hnu] at hsn
              cases ho : o m with
              | true =>
                rw [ho, if_pos rfl] at hsn
                (refine G.skip ?_; refine kthen_n ?_; refine G.seq ?_; refine G.block ?_; refine G.seq ?_; refine G.region ?_; refine GO.move rfl rfl ?_; refine GO.idxS rfl rfl rfl ⟨rfl, by omega⟩ ?_; refine GO.load2 rfl rfl rfl (Tk.t (Tk.t (Tk.t (Tk.t Tk.h)))) (by assumption) (by assumption) ?_; refine GO.alloc rfl fun b11 => ?_; refine GO.assign rfl rfl ?_; refine GO.storeW rfl rfl Tk.h ⟨rfl, rfl⟩ (by simp [Value.oneCell']) ?_; refine GO.nil ?_; refine kthen_n ?_; refine G.seq ?_; refine G.region ?_; refine GO.fieldAddr rfl rfl ?_; refine GO.load1 rfl rfl rfl Tk.h rfl ?_; refine GO.not rfl rfl ?_; refine GO.move rfl rfl ?_; refine GO.gT rfl rfl rfl ?_; refine GO.move rfl rfl ?_; refine GO.gT rfl rfl rfl ?_; refine GO.fieldAddr rfl rfl ?_; refine GO.gT rfl rfl rfl ?_; refine GO.load1 rfl rfl rfl Tk.h rfl ?_; refine GO.gT rfl rfl rfl ?_; refine GO.idxS rfl rfl rfl ⟨rfl, by omega⟩ ?_; refine GO.gT rfl rfl rfl ?_; refine GO.load1 rfl rfl rfl (Tk.t (Tk.t (Tk.t (Tk.t (Tk.t (Tk.t Tk.h)))))) (rowV_get1 (by assumption)) ?_; refine GO.pickT rfl rfl rfl ?_; refine GO.nil ?_; refine kthen_n ?_; refine G.condT rfl (by assumption) ?_; refine G.region ?_; refine GO.move rfl rfl ?_; refine GO.move rfl rfl ?_)
                refine GO.buildSlice1 (n := 1) rfl rfl (by simp; rfl) rfl ⟨by omega, by omega⟩ fun bs => ?_
                refine GO.appendOwn (m := 1) (news := [i64 (i : Nat)]) rfl rfl rfl (Tk.t (Tk.t Tk.h)) Tk.h rfl (by simp [Value.oneCell']) ⟨by decide, rfl⟩ Nat.one_pos (by unfold maxLen; omega) (by omega) fun v4 => ?_
                rw [← ints_snoc, show (plE (EO o) (ss.take i) 0).length + 1 = (plE (EO o) (ss.take i) 0 ++ [((i : Nat) : Int)]).length by rw [List.length_append]; rfl, ← hsn]
                (refine GO.assign rfl rfl ?_; refine GO.nil ?_; refine kblock_n ?_; refine kthen_n ?_; refine G.region ?_; refine GO.addi rfl rfl rfl (by omega) ?_; refine GO.move rfl rfl ?_; refine GO.nil ?_; refine kthen_n ?_)
                refine ⟨i + 1, v4, by omega, by omega, ?_, ?_⟩
                · (refine SubE.c rfl rfl ?_; refine SubE.c rfl rfl ?_; refine SubE.c rfl rfl ?_; refine SubE.c rfl rfl ?_; refine SubE.c rfl rfl ?_; refine SubE.c rfl rfl ?_; refine SubE.c rfl rfl ?_; refine SubE.c rfl rfl ?_; refine SubE.c rfl rfl ?_; refine SubE.c rfl rfl ?_; refine SubE.c rfl rfl ?_; refine SubE.c rfl rfl ?_; exact SubE.n)
                · ((refine Sb.c Tk.h ?_; refine Sb.c (Tk.t (Tk.t Tk.h)) ?_; refine Sb.c (Tk.t (Tk.t Tk.h)) ?_; refine Sb.c (Tk.t (Tk.t Tk.h)) ?_; refine Sb.c (Tk.t (Tk.t Tk.h)) ?_; refine Sb.c (Tk.t (Tk.t Tk.h)) ?_; refine Sb.c (Tk.t (Tk.t Tk.h)) ?_; refine Sb.c (Tk.t (Tk.t Tk.h)) ?_); (refine Sb.s ?_; refine Sb.s ?_; exact Sb.r))
              | false =>
                rw [ho, if_neg (by simp), List.append_nil] at hsn
                rw [← hsn]
                (refine G.skip ?_; refine kthen_n ?_; refine G.seq ?_; refine G.block ?_; refine G.seq ?_; refine G.region ?_; refine GO.move rfl rfl ?_; refine GO.idxS rfl rfl rfl ⟨rfl, by omega⟩ ?_; refine GO.load2 rfl rfl rfl (Tk.t (Tk.t (Tk.t (Tk.t Tk.h)))) (by assumption) (by assumption) ?_; refine GO.alloc rfl fun b11 => ?_; refine GO.assign rfl rfl ?_; refine GO.storeW rfl rfl Tk.h ⟨rfl, rfl⟩ (by simp [Value.oneCell']) ?_; refine GO.nil ?_; refine kthen_n ?_; refine G.seq ?_; refine G.region ?_; refine GO.fieldAddr rfl rfl ?_; refine GO.load1 rfl rfl rfl Tk.h rfl ?_; refine GO.not rfl rfl ?_; refine GO.move rfl rfl ?_; refine GO.gT rfl rfl rfl ?_; refine GO.move rfl rfl ?_; refine GO.gT rfl rfl rfl ?_; refine GO.fieldAddr rfl rfl ?_; refine GO.gT rfl rfl rfl ?_; refine GO.load1 rfl rfl rfl Tk.h rfl ?_; refine GO.gT rfl rfl rfl ?_; refine GO.idxS rfl rfl rfl ⟨rfl, by omega⟩ ?_; refine GO.gT rfl rfl rfl ?_; refine GO.load1 rfl rfl rfl (Tk.t (Tk.t (Tk.t (Tk.t (Tk.t (Tk.t Tk.h)))))) (rowV_get1 (by assumption)) ?_; refine GO.pickT rfl rfl rfl ?_; refine GO.nil ?_; refine kthen_n ?_; refine G.condF rfl (by assumption) ?_; refine G.skip ?_; refine kblock_n ?_; refine kthen_n ?_; refine G.region ?_; refine GO.addi rfl rfl rfl (by omega) ?_; refine GO.move rfl rfl ?_; refine GO.nil ?_; refine kthen_n ?_)
                refine ⟨i + 1, v, by omega, by omega, ?_, ?_⟩
                · (refine SubE.c rfl rfl ?_; refine SubE.c rfl rfl ?_; refine SubE.c rfl rfl ?_; refine SubE.c rfl rfl ?_; refine SubE.c rfl rfl ?_; refine SubE.c rfl rfl ?_; refine SubE.c rfl rfl ?_; refine SubE.c rfl rfl ?_; refine SubE.c rfl rfl ?_; refine SubE.c rfl rfl ?_; refine SubE.c rfl rfl ?_; refine SubE.c rfl rfl ?_; exact SubE.n)
                · ((refine Sb.c (Tk.t Tk.h) ?_; refine Sb.c (Tk.t Tk.h) ?_; refine Sb.c (Tk.t Tk.h) ?_; refine Sb.c (Tk.t Tk.h) ?_; refine Sb.c (Tk.t Tk.h) ?_; refine Sb.c (Tk.t Tk.h) ?_; refine Sb.c (Tk.t Tk.h) ?_; refine Sb.c (Tk.t Tk.h) ?_); (refine Sb.s ?_; exact Sb.r))
          · have e : i = ss.length := by omega
            subst e
            have hpl := plE_len (EO o) ss 0
            rw [List.take_length]
            (refine G.exit ?_; refine kthen_x ?_; refine kthen_x ?_; refine kblock_x ?_; refine kthen_n ?_; refine G.seq ?_; refine G.seq ?_; refine G.region ?_; refine GO.move rfl rfl ?_; refine GO.lenOwn rfl rfl Tk.h ?_; refine GO.gti rfl rfl rfl ?_; refine GO.nil ?_; refine kthen_n ?_)
            refine G.condD rfl (fun h12 => ?_) (fun h12 => ?_)
            · (refine G.seq ?_; refine G.region ?_; refine GO.build0 rfl ?_; refine GO.storeW rfl rfl (Tk.t (Tk.t (Tk.t (Tk.t (Tk.t (Tk.t (Tk.t Tk.h))))))) ⟨rfl, rfl⟩ (by simp [Value.oneCell']) ?_; refine GO.assign rfl rfl ?_; refine GO.nil ?_; refine kthen_n ?_; refine G.ret ?_; refine kthen_r ?_; refine kblock_r ?_; refine kthen_r ?_; refine kthen_r ?_; refine kblock_r ?_; refine kthen_r ?_)
              refine KF2.r2 rfl (RV.cW rfl rfl (Tk.h) rfl) (RV.t rfl) (.inr ⟨hok, o, hR, hS, .inl ⟨⟨_, hpm, by show 12 < cntE (EO o) ss; omega⟩, rfl, rfl⟩⟩) (ImpS.sb ?_)
              ((refine Sb.c (Tk.t (Tk.t (Tk.t (Tk.t (Tk.t Tk.h))))) ?_); (refine Sb.s ?_; refine Sb.s ?_; refine Sb.s ?_; refine Sb.s ?_; refine Sb.s ?_; refine Sb.s ?_; refine Sb.s ?_; exact Sb.r))
            · have hc12' : cntE (EO o) ss ≤ 12 := by omega
              refine G.ownRd (n := (plE (EO o) ss 0).length) (xs := intsV (plE (EO o) ss 0)) Tk.h fun z5 h5 => ?_
              have h5 : IntsR z5 v (plE (EO o) ss 0) := h5
              have hone := h5.one
              (refine G.skip ?_; refine kthen_n ?_; refine G.region ?_; refine GO.move rfl rfl ?_; refine GO.move rfl rfl ?_)
              refine GO.buildSlice1 (n := 1) (v1 := v) rfl rfl (one_size hone) rfl ⟨by omega, by omega⟩ fun bs => ?_
              refine GO.imp (H' := pt bs (row [v] 30) :: _) (fun l w s => by rw [put_one hone] at s; exact s) ?_
              refine GO.appendOwn (m := 1) (news := [v]) rfl rfl rfl (Tk.t (Tk.t (Tk.t Tk.h))) Tk.h rfl (by intro u hu; rw [List.mem_singleton.1 hu]; exact hone) ⟨by decide, rfl⟩ Nat.one_pos (by unfold maxLen; omega) (by omega) fun v4 => ?_
              refine GO.merge (x := z5) (y := z) (Tks.c (Tk.t (Tk.t Tk.h)) (Tks.c (Tk.t (Tk.t (Tk.t Tk.h))) Tks.n)) ?_
              (refine GO.assign rfl rfl ?_; refine GO.nil ?_; refine kblock_n ?_; refine kthen_n ?_; refine G.region ?_; refine GO.addi rfl rfl rfl (by omega) ?_; refine GO.move rfl rfl ?_; refine GO.nil ?_; refine kthen_n ?_)
              refine ⟨k + 1, v4, cells ++ [v], star [z5, z], ⟨by omega, by rw [List.length_append, hcl]; rfl, (hall.sup (Sup.right z5 z)).succ hcl hpk (h5.sup (Sup.left z5 z)), fun j p hj hjp => ?_⟩, by omega, ?_, ?_⟩
              · by_cases e : j = k
                · subst e
                  rw [hpk] at hjp
                  injection hjp with hjp
                  subst hjp; exact hc12'
                · exact hc12 j p (by omega) hjp
              · (refine SubE.c rfl rfl ?_; refine SubE.c rfl rfl ?_; refine SubE.c rfl rfl ?_; refine SubE.c rfl rfl ?_; refine SubE.c rfl rfl ?_; refine SubE.c rfl rfl ?_; refine SubE.c rfl rfl ?_; exact SubE.n)
              · ((refine Sb.c (Tk.t Tk.h) ?_; refine Sb.c Tk.h ?_; refine Sb.c (Tk.t (Tk.t Tk.h)) ?_; refine Sb.c (Tk.t (Tk.t Tk.h)) ?_; refine Sb.c (Tk.t (Tk.t Tk.h)) ?_; refine Sb.c (Tk.t (Tk.t Tk.h)) ?_); (refine Sb.s ?_; refine Sb.s ?_; exact Sb.r))
      · have e : k = C.prods.length := by omega
        subst e
        refine G.impW ImpS.merge2 ?_
        (refine G.exit ?_; refine kthen_x ?_; refine kthen_x ?_; refine kblock_x ?_; refine kthen_n ?_; refine G.seq ?_; refine G.region ?_; refine GO.fieldAddr rfl rfl ?_; refine GO.load1 rfl rfl rfl (Tk.t (Tk.t (Tk.t Tk.h))) rfl ?_)
        refine GO.buildPart1 (built_cnf _) rfl rfl ?_
        refine GO.ownRd (n := C.prods.length) (xs := cells) Tk.h fun qa hqa => ?_
        obtain ⟨aa, ca, rfl, _, hqa⟩ := hqa
        (refine GO.alloc rfl fun b12 => ?_; refine GO.storeW rfl rfl Tk.h ⟨rfl, rfl⟩ (by simp [Value.oneCell']) ?_; refine GO.nil ?_; refine kthen_n ?_; refine G.seq ?_; refine G.seq ?_; refine G.region ?_; refine GO.fieldAddr rfl rfl ?_; refine GO.load1 rfl rfl rfl (Tk.t (Tk.t (Tk.t (Tk.t Tk.h)))) rfl ?_; refine GO.lenS rfl rfl ?_; refine GO.move rfl rfl ?_; refine GO.nil ?_; refine kthen_n ?_; refine G.block ?_)
        refine G.ownNil (T := 42) (sz := 2) ?_
        refine G.impW (stP_start b12 C.nts (WithP (EO o) (C.prods.take 0)) (fun p h => by obtain ⟨b, h, _⟩ := h; rw [List.take_zero] at h; cases h) _) ?_
        refine G.loop (fun k : Nat => [(1, .pointer (some ⟨b1, 0, none⟩)), (2, .pointer (some ⟨b2, 0, none⟩)), (6, .slice aa C.prods.length ca), (12, .pointer (some ⟨b12, 0, none⟩)), (68, .slice a0 C.prods.length cap0), (69, i64 (C.prods.length : Nat)), (70, i64 (k : Nat))])
          (fun k => stP b12 C.nts (WithP (EO o) (C.prods.take k)) (k * 4096) :: qa :: star [z, q] :: pt x1 (row (boolsV o n) 4) :: pt b1 (row [i64 C.nts, .slice a0 C.prods.length cap0] 24) :: pt b2 (row [i64 0, .slice none 0 0] 24) :: F) (fun k => k ≤ C.prods.length) (fun k => C.prods.length - k) 0 (Nat.zero_le _) ?_ ?_ ?_
        · (refine SubE.c rfl rfl ?_; refine SubE.c rfl rfl ?_; refine SubE.c rfl rfl ?_; refine SubE.c rfl rfl ?_; refine SubE.c rfl rfl ?_; refine SubE.c rfl rfl ?_; refine SubE.c rfl rfl ?_; exact SubE.n)
        · rw [Nat.zero_mul]
          ((refine Sb.c Tk.h ?_; refine Sb.c Tk.h ?_; refine Sb.c Tk.h ?_; refine Sb.c Tk.h ?_; refine Sb.c Tk.h ?_; refine Sb.c Tk.h ?_); (exact Sb.r))
        · rintro k hk
          (refine G.seq ?_; refine G.region ?_; refine GO.lti rfl rfl rfl ?_; refine GO.nil ?_; refine kthen_n ?_; refine G.seq ?_)
          refine G.condD rfl (fun hlt => ?_) (fun hge => ?_)
          · obtain ⟨⟨h, ss⟩, hpk⟩ : ∃ p, C.prods[k]? = some p := ⟨_, List.getElem?_eq_getElem (by omega)⟩
            have hpm := List.mem_of_getElem? hpk
            have hbl := hB.2 _ hpm
            have hc := hc12 k _ (by omega) hpk
            obtain ⟨b0, o0, bv, rfl, _, r1, r2, hss⟩ := hp.at hpk
            dsimp only at hbl r1 r2 hss hc
            replace r1 := (Sup.right z q) _ _ r1
            replace r2 := (Sup.right z q) _ _ r2
            obtain ⟨ab, capb, rfl⟩ := hss.form
            obtain ⟨u, hu1, hu2⟩ := hall k _ (by omega) hpk
            dsimp only at hu2
            have hu0 := hu2
            obtain ⟨al, capl, rfl⟩ := hu2.form
            obtain ⟨ba, oa, rfl, hqa1⟩ := hqa (by omega)
            have rq : Rd qa ⟨ba, oa + k * 1, none⟩ (.slice al (plE (EO o) ss 0).length capl) := by rw [Nat.mul_one]; exact hqa1 _ _ hu1
            have hp12 : 2 ^ cntE (EO o) ss ≤ 4096 := Nat.pow_le_pow_right (by omega) hc
            (refine G.skip ?_; refine kthen_n ?_; refine G.seq ?_; refine G.block ?_; refine G.seq ?_; refine G.region ?_; refine GO.move rfl rfl ?_; refine GO.idxS rfl rfl rfl ⟨rfl, by omega⟩ ?_; refine GO.load2 rfl rfl rfl (Tk.t (Tk.t Tk.h)) (by assumption) (by assumption) ?_; refine GO.alloc rfl fun b14 => ?_; refine GO.assign rfl rfl ?_; refine GO.storeW rfl rfl Tk.h ⟨rfl, rfl⟩ (by simp [Value.oneCell']) ?_; refine GO.nil ?_; refine kthen_n ?_; refine G.seq ?_)
            refine G.draw 6 (by kernel_rfl) ?_
            ((apply GQ.step; focus (intro Z; refine GO.fieldAddr rfl rfl ?_; exact KQ.z)); (apply GQ.step; focus (intro Z; refine GO.load1 rfl rfl rfl Tk.h rfl ?_; exact KQ.z)); (apply GQ.step; focus (intro Z; refine GO.move rfl rfl ?_; exact KQ.z)); (apply GQ.step; focus (intro Z; refine GO.move rfl rfl ?_; exact KQ.z)); (apply GQ.step; focus (intro Z; refine GO.idxS rfl rfl rfl ⟨rfl, by omega⟩ ?_; exact KQ.z)); (apply GQ.step; focus (intro Z; refine GO.loadQ rfl rfl rfl (Tk.t (Tk.t Tk.h)) (by assumption) ?_; exact KQ.z)); refine GQ.nil ?_)
            skip
            refine GO.call2 rfl rfl rfl (bodies_spec (.slice ab ss.length capb) (.slice al (plE (EO o) ss 0).length capl) ab al ss.length capb _ capl rfl rfl) Tks.n ?_
            rintro _ _ ⟨bb2, bb3, rfl, rfl⟩
            (refine GO.nil ?_; refine kthen_n ?_; refine G.block ?_)
            rw [show WithP (EO o) (C.prods.take k) = WithI (EO o) (C.prods.take k) h ss 0 from funext fun p => propext (with_zero p).symm]
            refine G.rangeV (F := qa :: pt x1 (row (boolsV o n) 4) :: pt b1 (row [i64 C.nts, .slice (some ⟨b0, o0, none⟩) C.prods.length cap0] 24) :: pt b2 (row [i64 0, .slice none 0 0] 24) :: F) (psl := [82]) (v := bodF bb2 bb3) (n := 2 ^ cntE (EO o) ss) (Val := BodyV (EO o) ss) (Sh := [star [z, q]]) (Gm := [pt bb3 (row [.slice al (plE (EO o) ss 0).length capl] 30), pt bb2 (row [.slice ab ss.length capb] 40)])
              (fun i => [stP b12 C.nts (WithI (EO o) (C.prods.take k) h ss i) (k * 4096 + i), pt b14 (row [i64 h, .slice ab ss.length capb] 42)]) (fun _ _ => [pur False])
              (fun _ h => by cases h) rfl (fun i u Y _ hu => by obtain ⟨v, rfl, _⟩ := hu; rfl) rfl (bodies1_spec (star [z, q]) (EO o) _ _ ss (hss.sup (Sup.right z q)) (hu0.sup (Sup.left z q)) (by omega) hc bb2 bb3) ?_ (fun lp Lr Lb w1 F1 i u Y hi hu => ?_) ?_ ?_
            · rw [Nat.add_zero]
              (refine Tks.c (Tk.t (Tk.t (Tk.t Tk.h))) ?_; refine Tks.c (Tk.t (Tk.t Tk.h)) ?_; refine Tks.c (Tk.t (Tk.t (Tk.t Tk.h))) ?_; exact Tks.n)
            · obtain ⟨vb, rfl, rfl⟩ := hu
              change G _ _ _ _ ((82, vb) :: _) (stP b12 C.nts (WithI (EO o) (C.prods.take k) h ss i) (k * 4096 + i) :: pt b14 (row [i64 h, .slice ab ss.length capb] 42) :: own 63 2 (maskF (EO o) i ss).length vb (symsV (maskF (EO o) i ss)) :: star [z, q] :: F1)
              unfold stP
              refine G.exs fun x => G.flat (G.pur fun hinv => ?_)
              obtain ⟨pv, xs, L, zz⟩ := x
              obtain ⟨⟨hC, hM, hLn⟩, hone⟩ := hinv
              dsimp only at hC hM hLn hone ⊢
              have hml := mask_len (EO o) ss i
              refine G.ownRd (n := (maskF (EO o) i ss).length) (xs := symsV (maskF (EO o) i ss)) (Tk.t (Tk.t (Tk.t (Tk.t Tk.h)))) fun z5 h5 => ?_
              have h5 : SymsR z5 vb (maskF (EO o) i ss) := h5
              obtain ⟨a5, c5, rfl⟩ := h5.form
              (refine G.region ?_; refine GO.assign rfl rfl ?_; refine GO.nil ?_)
              refine kA_n ?_
              (refine G.block ?_; refine G.seq ?_; refine G.region ?_; refine GO.move rfl rfl ?_; refine GO.lenS rfl rfl ?_; refine GO.gti rfl rfl rfl ?_; refine GO.nil ?_; refine kthen_n ?_)
              refine G.condD rfl (fun h0 => ?_) (fun h0 => ?_)
              · have hne : maskF (EO o) i ss ≠ [] := fun e => by rw [e] at h0; simp at h0
                have hxl := hC.len
                (refine G.region ?_; refine GO.fieldAddr rfl rfl ?_; refine GO.load1 rfl rfl rfl (Tk.t (Tk.t Tk.h)) rfl ?_; refine GO.fieldAddr rfl rfl ?_; refine GO.load1 rfl rfl rfl (Tk.t (Tk.t (Tk.t (Tk.t Tk.h)))) rfl ?_; refine GO.move rfl rfl ?_; refine GO.build2 rfl rfl rfl rfl ?_)
                refine GO.buildSlice1 (n := 2) (v1 := .agg #[i64 h, .slice a5 (maskF (EO o) i ss).length c5]) rfl rfl (fun v hv => by rw [List.mem_singleton.1 hv]; rfl) rfl ⟨by omega, by omega⟩ fun b6 => ?_
                refine GO.appendOwn (m := 1) (news := [i64 h, .slice a5 (maskF (EO o) i ss).length c5]) rfl rfl rfl (Tk.t (Tk.t Tk.h)) Tk.h rfl (by simp [Value.oneCell']) ⟨by decide, rfl⟩ Nat.one_pos (by unfold maxLen; omega) (by omega) fun v2 => ?_
                refine GO.ownOne Tk.h fun hone2 => ?_
                rw [show pvs xs ++ [i64 h, .slice a5 (maskF (EO o) i ss).length c5] = pvs (xs ++ [(h, .slice a5 (maskF (EO o) i ss).length c5)]) from (duo_append xs [(h, Value.slice a5 (maskF (EO o) i ss).length c5)]).symm, show xs.length + 1 = (xs ++ [(h, Value.slice a5 (maskF (EO o) i ss).length c5)]).length by simp]
                have hc2 := Cp.snoc (z := star [z5, zz]) (p := (h, maskF (EO o) i ss)) (x := (h, .slice a5 (maskF (EO o) i ss).length c5)) rfl (h5.sup (Sup.left _ _)) (hC.sup (Sup.right z5 zz))
                refine GO.merge (x := z5) (y := zz) (Tks.c (Tk.t (Tk.t Tk.h)) (Tks.c (Tk.t (Tk.t (Tk.t Tk.h))) Tks.n)) ?_
                (refine GO.fieldAddr rfl rfl ?_; refine GO.store1 rfl rfl (by assumption) (Tk.t (Tk.t (Tk.t Tk.h))) (by simp) ?_; refine GO.nil ?_; refine kblock_n ?_)
                refine kB_n (ImpS.exs (v2, xs ++ [(h, .slice a5 (maskF (EO o) i ss).length c5)], L ++ [(h, maskF (EO o) i ss)], star [z5, zz]) (ImpS.flat (ImpS.pur ⟨⟨hc2, fun p => ?_, by show (L ++ [_]).length ≤ _; rw [List.length_append]; simp only [List.length_cons, List.length_nil]; omega⟩, hone2⟩ (ImpS.sb ?_))))
                · dsimp only
                  rw [List.mem_append, List.mem_singleton, hM, with_more hne]
                · ((refine Sb.c (Tk.t (Tk.t Tk.h)) ?_; refine Sb.c Tk.h ?_; refine Sb.c Tk.h ?_; refine Sb.c (Tk.t Tk.h) ?_; refine Sb.c (Tk.t Tk.h) ?_); (refine Sb.s ?_; exact Sb.r))
              · have he0 : maskF (EO o) i ss = [] := List.eq_nil_of_length_eq_zero (by omega)
                (refine G.skip ?_; refine kblock_n ?_)
                refine kB_n (ImpS.exs (pv, xs, L, zz) (ImpS.flat (ImpS.pur ⟨⟨hC, fun p => (hM p).trans (with_skip he0 p).symm, by show L.length ≤ _; omega⟩, hone⟩ (ImpS.sb ?_))))
                ((refine Sb.c (Tk.t Tk.h) ?_; refine Sb.c (Tk.t Tk.h) ?_; refine Sb.c (Tk.t Tk.h) ?_; refine Sb.c (Tk.t Tk.h) ?_; refine Sb.c (Tk.t Tk.h) ?_); (refine Sb.s ?_; exact Sb.r))
            · refine kblock_n ?_
              rw [show WithI (EO o) (C.prods.take k) h ss (2 ^ cntE (EO o) ss) = WithP (EO o) (C.prods.take (k + 1)) from funext fun p => propext (with_next hpk p)]
              refine G.impW (stP_le (m := (k + 1) * 4096) (by omega) _) ?_
              (refine G.region ?_; refine GO.addi rfl rfl rfl (by omega) ?_; refine GO.move rfl rfl ?_; refine GO.nil ?_; refine kthen_n ?_)
              refine ⟨k + 1, by omega, by omega, ?_, ?_⟩
              · (refine SubE.c rfl rfl ?_; refine SubE.c rfl rfl ?_; refine SubE.c rfl rfl ?_; refine SubE.c rfl rfl ?_; refine SubE.c rfl rfl ?_; refine SubE.c rfl rfl ?_; refine SubE.c rfl rfl ?_; exact SubE.n)
              · ((refine Sb.c Tk.h ?_; refine Sb.c (Tk.t (Tk.t (Tk.t (Tk.t Tk.h)))) ?_; refine Sb.c (Tk.t Tk.h) ?_; refine Sb.c (Tk.t (Tk.t (Tk.t Tk.h))) ?_; refine Sb.c (Tk.t (Tk.t (Tk.t Tk.h))) ?_; refine Sb.c (Tk.t (Tk.t (Tk.t Tk.h))) ?_); (refine Sb.s ?_; refine Sb.s ?_; refine Sb.s ?_; exact Sb.r))
            · intro i jc hi
              exact G.pur fun h => h.elim
          · have e : k = C.prods.length := by omega
            subst e
            rw [List.take_length]
            unfold stP
            refine G.exs fun x => G.flat (G.pur fun hinv => ?_)
            obtain ⟨pv, xs, L, zz⟩ := x
            obtain ⟨⟨hC, hM, hLn⟩, hone⟩ := hinv
            dsimp only at hC hM hLn hone ⊢
            have hxl := hC.len
            refine G.ownRd (n := xs.length) (xs := pvs xs) Tk.h fun qp hqp => ?_
            have hP : PrsR (star [qp, zz]) pv L := hC.prs (Sup.right qp zz) (hqp.sup (Sup.left qp zz))
            have hokL := okC_with hok (fun p hp => (hM p).1 hp)
            have hfit : Fits ⟨C.nts, L⟩ := ⟨by show L.length * 32 ≤ _; omega, fun p hp => by
              obtain ⟨b, h1, h2, _⟩ := (hM p).1 hp
              obtain ⟨m, _, h3⟩ := mem_mask _ _ _ h2
              have h4 := mask_len (EO o) b m
              have h5 := hB.2 _ h1
              dsimp only at h5
              rw [← h3] at h4
              omega⟩
            have hsort := sort_spec (star [qp, zz]) (.agg #[i64 C.nts, pv]) ⟨C.nts, L⟩ ⟨pv, rfl, hP⟩ hfit
            refine G.merge (x := qp) (y := zz) (Tks.c Tk.h (Tks.c (Tk.t Tk.h) Tks.n)) ?_
            (refine G.exit ?_; refine kthen_x ?_; refine kthen_x ?_; refine kblock_x ?_; refine kthen_n ?_; refine G.seq ?_; refine G.region ?_; refine GO.loadW rfl rfl rfl (Tk.t Tk.h) rfl ?_)
            refine GO.call1 rfl rfl (hsort) (Tks.c Tk.h Tks.n) ?_
            rintro _ _ (⟨_, pv2, ys, zs2, zs, rfl, hzc, hzu, hzm, rfl⟩ | ⟨hno, _⟩)
            · have hyl := hzc.len
              refine GO.ownOne Tk.h fun hone2 => ?_
              refine GO.ownRd Tk.h fun q6 h6 => ?_
              refine GO.merge (x := q6) (y := zs2) (Tks.c Tk.h (Tks.c Tk.h Tks.n)) ?_
              refine GO.take (q := star [z, q]) (Tk.t (Tk.t (Tk.t (Tk.t Tk.h)))) ?_
              refine GO.flat ?_
              (refine GO.extract rfl rfl rfl ?_; refine GO.extract rfl rfl rfl ?_; refine GO.storeW rfl rfl (Tk.t (Tk.t (Tk.t (Tk.t (Tk.t (Tk.t (Tk.t (Tk.t Tk.h)))))))) ⟨rfl, rfl⟩ (by simp [Value.oneCell']; assumption) ?_; refine GO.assign rfl rfl ?_; refine GO.nil ?_; refine kthen_n ?_; refine G.ret ?_)
              refine KF2.r2 rfl (RV.cW rfl rfl Tk.h rfl) (RV.t rfl) (.inr ⟨hok, o, hR, hS, .inr ⟨fun p hp => ?_, _, zs, star [q6, zs2], rfl, ⟨pv2, rfl, hzc.prs (Sup.right _ _) (h6.sup (Sup.left _ _))⟩, hzu, fun p => (hzm p).trans (hM p), ?_, rfl⟩⟩) (ImpS.sb ?_)
              · obtain ⟨j, hj⟩ := List.getElem?_of_mem hp
                exact hc12 j p (List.getElem?_eq_some_iff.1 hj).1 hj
              · have := sub_len hzm hzu
                dsimp only at this
                omega
              · ((refine Sb.c (Tk.t (Tk.t (Tk.t Tk.h))) ?_; refine Sb.c (Tk.t (Tk.t Tk.h)) ?_); (refine Sb.s ?_; refine Sb.s ?_; refine Sb.s ?_; refine Sb.s ?_; refine Sb.s ?_; refine Sb.s ?_; refine Sb.s ?_; exact Sb.r))
            · rw [hokL] at hno; cases hno
  · (refine GO.move rfl rfl ?_; refine GO.extract rfl rfl rfl ?_; refine GO.extract rfl rfl rfl ?_; refine GO.assign rfl rfl ?_; refine GO.assign rfl rfl ?_; refine GO.nil ?_; refine kthen_n ?_; refine G.seq ?_; refine G.seq ?_; refine G.region ?_; refine GO.move rfl rfl ?_; refine GO.nei rfl rfl rfl ?_; refine GO.nil ?_; refine kthen_n ?_; refine G.condT rfl rfl ?_; refine G.seq ?_; refine G.region ?_; refine GO.build0 rfl ?_; refine GO.move rfl rfl ?_; refine GO.storeW rfl rfl (Tk.t Tk.h) ⟨rfl, rfl⟩ (by simp [Value.oneCell']) ?_; refine GO.assign rfl rfl ?_; refine GO.nil ?_; refine kthen_n ?_; refine G.ret ?_; refine kthen_r ?_)
    refine KF2.r2 rfl (RV.cW rfl rfl Tk.h rfl) (RV.t rfl) (.inl ⟨hok, rfl, rfl⟩) (ImpS.sb ?_)
    ((refine Sb.c (Tk.t Tk.h) ?_); (refine Sb.s ?_; refine Sb.s ?_; exact Sb.r))
end Go.Proofs.Ytcemehocbemfmaa
namespace Go.Proofs.Ytcemehocbemfmaa
open Go
theorem ins_cons (a p : ProdD) (l : List ProdD) : insF (a :: l) p = if prodLt a p then a :: insF l p else if prodLt p a then p :: a :: l else a :: l := rfl
theorem Cp.get2 {z : HP} {ps : List ProdD} {xs : List (Int × Value)} (h : Cp z ps xs) : xs.length = ps.length := h.len
attribute [local irreducible] G GO GR GT Fn FnV pt init exs pur sat own ImpS symsV
set_option maxRecDepth 40000 in
set_option maxHeartbeats 16000000 in
theorem rinsert_spec (q : HP) (lv : Value) (L : List ProdD) (hL : PrsR q lv L) (p : ProdD) (pv : Value) (hp : SymsR q pv p.2) (hb : ∀ a ∈ L, ¬ 1048576 < a.2.length) (hpb : ¬ 1048576 < p.2.length) (hn : ¬ 4398046511104 < L.length + 1) :
    Fn Try.prog 55 #[lv, .agg #[i64 p.1, pv]] [q] (fun r Q => ∃ z, PrsR (star [z, q]) r (insF L p) ∧ Q = [z, q]) := by
  obtain ⟨al, cl, rfl⟩ := hL.form
  obtain ⟨ap, cp, rfl⟩ := hp.form
  refine Fn.mk2 Try.func55 rfl rfl fun w0 F => ?_
  (refine G.seq ?_; refine G.region ?_; refine GO.box rfl rfl rfl fun b3 => ?_; refine GO.assign rfl rfl ?_; refine GO.nil ?_; refine kthen_n ?_; refine G.seq ?_; refine G.region ?_; refine GO.assign rfl rfl ?_; refine GO.nil ?_; refine kthen_n ?_; refine G.seq ?_; refine G.region ?_; refine GO.assign rfl rfl ?_; refine GO.nil ?_; refine kthen_n ?_; refine G.seq ?_; refine G.seq ?_; refine G.region ?_; refine GO.assign rfl rfl ?_; refine GO.nil ?_; refine kthen_n ?_; refine G.block ?_)
  refine G.ownNil (T := 42) (sz := 2) ?_
  refine G.loop5 (fun (i : Nat) (v : Value) (done : Bool) (_ : List (Int × Value)) (_ : List ProdD) => [(0, .slice al L.length cl), (3, .pointer (some ⟨b3, 0, none⟩)), (5, v), (6, .bool done), (7, i64 (i : Nat))]) (fun _ v _ xs _ => own 42 2 xs.length v (pvs xs) :: pt b3 (row [i64 p.1, .slice ap p.2.length cp] 42) :: q :: F)
    (fun i _ done xs out => i ≤ L.length ∧ Cp q out xs ∧ xs.length ≤ i + (if done then 1 else 0) ∧ (if done then insF L p = out ++ L.drop i else out = L.take i ∧ insF L p = L.take i ++ insF (L.drop i) p)) (fun i _ _ _ _ => L.length - i) 0 (.slice none 0 0) false [] [] ⟨Nat.zero_le _, trivial, Nat.le_refl _, by simp⟩ ?_ ?_ ?_
  · (refine SubE.c rfl rfl ?_; refine SubE.c rfl rfl ?_; refine SubE.c rfl rfl ?_; refine SubE.c rfl rfl ?_; refine SubE.c rfl rfl ?_; exact SubE.n)
  · ((refine Sb.c Tk.h ?_; refine Sb.c Tk.h ?_; refine Sb.c Tk.h ?_); (exact Sb.r))
  · rintro i v done xs out ⟨hi, hc, hxl, hst⟩
    (refine G.seq ?_; refine G.seq ?_; refine G.region ?_; refine GO.move rfl rfl ?_; refine GO.move rfl rfl ?_; refine GO.lenS rfl rfl ?_; refine GO.lti rfl rfl rfl ?_; refine GO.nil ?_; refine kthen_n ?_)
    refine G.condD rfl (fun hlt => ?_) (fun hge => ?_)
    · obtain ⟨a, ha⟩ : ∃ a, L[i]? = some a := ⟨_, List.getElem?_eq_getElem (by omega)⟩
      have hda := drop_at ha
      have hta : L.take (i + 1) = L.take i ++ [a] := by rw [List.take_add_one, ha]; rfl
      have hab := hb a (List.mem_of_getElem? ha)
      obtain ⟨b0, o0, av, rfl, _, r1, r2, hsa⟩ := hL.at ha
      obtain ⟨aa, ca, rfl⟩ := hsa.form
      cases done with
      | true =>
        rw [if_pos rfl] at hst hxl
        rw [hda] at hst
        (refine G.skip ?_; refine kthen_n ?_; refine G.seq ?_; refine G.block ?_; refine G.seq ?_; refine G.seq ?_)
        refine G.draw 11 (by kernel_rfl) ?_
        ((apply GQ.step; focus (intro Z; refine GO.move rfl rfl ?_; exact KQ.z)); (apply GQ.step; focus (intro Z; refine GO.not rfl rfl ?_; exact KQ.z)); (apply GQ.step; focus (intro Z; refine GO.move rfl rfl ?_; exact KQ.z)); (apply GQ.step; focus (intro Z; refine GO.gF rfl rfl rfl rfl ?_; exact KQ.z)); (apply GQ.step; focus (intro Z; refine GO.gF rfl rfl rfl rfl ?_; exact KQ.z)); (apply GQ.step; focus (intro Z; refine GO.gF rfl rfl rfl rfl ?_; exact KQ.z)); (apply GQ.step; focus (intro Z; refine GO.gF rfl rfl rfl rfl ?_; exact KQ.z)); (apply GQ.step; focus (intro Z; refine GO.gF rfl rfl rfl rfl ?_; exact KQ.z)); (apply GQ.step; focus (intro Z; refine GO.gF rfl rfl rfl rfl ?_; exact KQ.z)); (apply GQ.step; focus (intro Z; refine GO.gF rfl rfl rfl rfl ?_; exact KQ.z)); (apply GQ.step; focus (intro Z; refine GO.pickF rfl rfl rfl ?_; exact KQ.z)); refine GQ.nil ?_)
        (refine GO.nil ?_; refine kthen_n ?_; refine G.condF rfl rfl ?_; refine G.skip ?_; refine kthen_n ?_; refine G.region ?_; refine GO.move rfl rfl ?_; refine GO.move rfl rfl ?_; refine GO.move rfl rfl ?_; refine GO.idxS rfl rfl rfl ⟨rfl, by omega⟩ ?_; refine GO.load2 rfl rfl rfl (Tk.t (Tk.t Tk.h)) (by assumption) (by assumption) ?_)
        skip
        refine GO.buildSlice1 (n := 2) (v1 := .agg #[i64 a.1, .slice aa a.2.length ca]) rfl rfl (fun v hv => by rw [List.mem_singleton.1 hv]; rfl) rfl ⟨by omega, by omega⟩ fun bs1 => ?_
        refine GO.appendOwn (m := 1) (news := [i64 a.1, .slice aa a.2.length ca]) rfl rfl rfl (Tk.t Tk.h) Tk.h rfl (by simp [Value.oneCell']) ⟨by decide, rfl⟩ Nat.one_pos (by unfold maxLen; omega) (by omega) fun v1 => ?_
        rw [show pvs xs ++ [i64 a.1, .slice aa a.2.length ca] = pvs (xs ++ [(a.1, .slice aa a.2.length ca)]) from (duo_append xs [(a.1, Value.slice aa a.2.length ca)]).symm, show xs.length + 1 = (xs ++ [(a.1, Value.slice aa a.2.length ca)]).length by simp]
        (refine GO.assign rfl rfl ?_; refine GO.nil ?_; refine kblock_n ?_; refine kthen_n ?_; refine G.region ?_; refine GO.move rfl rfl ?_; refine GO.addi rfl rfl rfl (by omega) ?_; refine GO.assign rfl rfl ?_; refine GO.nil ?_; refine kthen_n ?_)
        refine ⟨i + 1, v1, true, (xs ++ [(a.1, Value.slice aa a.2.length ca)]), (out ++ [a]), ⟨by omega, Cp.snoc (p := a) (x := (a.1, .slice aa a.2.length ca)) rfl hsa hc, by simp; omega, by rw [if_pos rfl, hst]; simp⟩, by omega, ?_, ?_⟩
        · (refine SubE.c rfl rfl ?_; refine SubE.c rfl rfl ?_; refine SubE.c rfl rfl ?_; refine SubE.c rfl rfl ?_; refine SubE.c rfl rfl ?_; exact SubE.n)
        · ((refine Sb.c Tk.h ?_; refine Sb.c (Tk.t Tk.h) ?_; refine Sb.c (Tk.t Tk.h) ?_); (refine Sb.s ?_; exact Sb.r))
      | false =>
        rw [if_neg (by simp)] at hst hxl
        rw [hda, ins_cons] at hst
        have hl1 := rless_spec q a p (.slice aa a.2.length ca) (.slice ap p.2.length cp) hsa hp (by omega)
        have hl2 := rless_spec q p a (.slice ap p.2.length cp) (.slice aa a.2.length ca) hp hsa (by omega)
        (refine G.skip ?_; refine kthen_n ?_; refine G.seq ?_; refine G.block ?_; refine G.seq ?_; refine G.seq ?_)
        refine G.draw 11 (by kernel_rfl) ?_
        ((apply GQ.step; focus (intro Z; refine GO.move rfl rfl ?_; exact KQ.z)); (apply GQ.step; focus (intro Z; refine GO.not rfl rfl ?_; exact KQ.z)); (apply GQ.step; focus (intro Z; refine GO.move rfl rfl ?_; exact KQ.z)); (apply GQ.step; focus (intro Z; refine GO.gT rfl rfl rfl ?_; refine GO.move rfl rfl ?_; exact KQ.z)); (apply GQ.step; focus (intro Z; refine GO.gT rfl rfl rfl ?_; refine GO.move rfl rfl ?_; exact KQ.z)); (apply GQ.step; focus (intro Z; refine GO.gT rfl rfl rfl ?_; refine GO.idxS rfl rfl rfl ⟨rfl, by omega⟩ ?_; exact KQ.z)); (apply GQ.step; focus (intro Z; refine GO.gT rfl rfl rfl ?_; refine GO.load2 rfl rfl rfl (Tk.t (Tk.t Tk.h)) (by assumption) (by assumption) ?_; exact KQ.z)); (apply GQ.step; focus (intro Z; refine GO.gT rfl rfl rfl ?_; refine GO.loadW rfl rfl rfl (Tk.t Tk.h) rfl ?_; exact KQ.z)))
        apply GQ.step; focus (intro Z; refine GO.gT rfl rfl rfl ?_; refine GO.call2 rfl rfl rfl (hl1) (Tks.c (Tk.t (Tk.t Tk.h)) Tks.n) ?_; rintro _ _ ⟨rfl, rfl⟩; refine GO.nil (KQ.s ?_); ((refine Sb.c (Tk.t Tk.h) ?_; refine Sb.c (Tk.t Tk.h) ?_; refine Sb.c Tk.h ?_); (exact Sb.r)))
        cases hap : prodLt a p with
        | true =>
          rw [hap, if_pos rfl] at hst
          ((apply GQ.step; focus (intro Z; refine GO.gT rfl rfl rfl ?_; refine GO.not rfl rfl ?_; exact KQ.z)); (apply GQ.step; focus (intro Z; refine GO.pickT rfl rfl rfl ?_; exact KQ.z)); refine GQ.nil ?_)
          (refine GO.nil ?_; refine kthen_n ?_; refine G.condF rfl rfl ?_; refine G.skip ?_; refine kthen_n ?_; refine G.region ?_; refine GO.move rfl rfl ?_; refine GO.move rfl rfl ?_; refine GO.move rfl rfl ?_; refine GO.idxS rfl rfl rfl ⟨rfl, by omega⟩ ?_; refine GO.load2 rfl rfl rfl (Tk.t (Tk.t Tk.h)) (by assumption) (by assumption) ?_)
          skip
          refine GO.buildSlice1 (n := 2) (v1 := .agg #[i64 a.1, .slice aa a.2.length ca]) rfl rfl (fun v hv => by rw [List.mem_singleton.1 hv]; rfl) rfl ⟨by omega, by omega⟩ fun bs1 => ?_
          refine GO.appendOwn (m := 1) (news := [i64 a.1, .slice aa a.2.length ca]) rfl rfl rfl (Tk.t Tk.h) Tk.h rfl (by simp [Value.oneCell']) ⟨by decide, rfl⟩ Nat.one_pos (by unfold maxLen; omega) (by omega) fun v1 => ?_
          rw [show pvs xs ++ [i64 a.1, .slice aa a.2.length ca] = pvs (xs ++ [(a.1, .slice aa a.2.length ca)]) from (duo_append xs [(a.1, Value.slice aa a.2.length ca)]).symm, show xs.length + 1 = (xs ++ [(a.1, Value.slice aa a.2.length ca)]).length by simp]
          (refine GO.assign rfl rfl ?_; refine GO.nil ?_; refine kblock_n ?_; refine kthen_n ?_; refine G.region ?_; refine GO.move rfl rfl ?_; refine GO.addi rfl rfl rfl (by omega) ?_; refine GO.assign rfl rfl ?_; refine GO.nil ?_; refine kthen_n ?_)
          refine ⟨i + 1, v1, false, (xs ++ [(a.1, Value.slice aa a.2.length ca)]), (out ++ [a]), ⟨by omega, Cp.snoc (p := a) (x := (a.1, .slice aa a.2.length ca)) rfl hsa hc, by simp; omega, by rw [if_neg (by simp)]; exact ⟨by rw [hst.1, hta], by rw [hst.2, hta]; simp⟩⟩, by omega, ?_, ?_⟩
          · (refine SubE.c rfl rfl ?_; refine SubE.c rfl rfl ?_; refine SubE.c rfl rfl ?_; refine SubE.c rfl rfl ?_; refine SubE.c rfl rfl ?_; exact SubE.n)
          · ((refine Sb.c Tk.h ?_; refine Sb.c (Tk.t Tk.h) ?_; refine Sb.c (Tk.t Tk.h) ?_); (refine Sb.s ?_; exact Sb.r))
        | false =>
          rw [hap, if_neg (by simp)] at hst
          ((apply GQ.step; focus (intro Z; refine GO.gT rfl rfl rfl ?_; refine GO.not rfl rfl ?_; exact KQ.z)); (apply GQ.step; focus (intro Z; refine GO.pickT rfl rfl rfl ?_; exact KQ.z)); refine GQ.nil ?_)
          (refine GO.nil ?_; refine kthen_n ?_; refine G.condT rfl rfl ?_; refine G.seq ?_; refine G.seq ?_)
          refine G.draw 5 (by kernel_rfl) ?_
          ((apply GQ.step; focus (intro Z; refine GO.loadW rfl rfl rfl (Tk.t Tk.h) rfl ?_; exact KQ.z)); (apply GQ.step; focus (intro Z; refine GO.move rfl rfl ?_; exact KQ.z)); (apply GQ.step; focus (intro Z; refine GO.move rfl rfl ?_; exact KQ.z)); (apply GQ.step; focus (intro Z; refine GO.idxS rfl rfl rfl ⟨rfl, by omega⟩ ?_; exact KQ.z)); (apply GQ.step; focus (intro Z; refine GO.load2 rfl rfl rfl (Tk.t (Tk.t Tk.h)) (by assumption) (by assumption) ?_; exact KQ.z)); refine GQ.nil ?_)
          skip
          refine GO.call2 rfl rfl rfl (hl2) (Tks.c (Tk.t (Tk.t Tk.h)) Tks.n) ?_
          rintro _ _ ⟨rfl, rfl⟩
          cases hpa : prodLt p a with
          | true =>
            rw [hpa, if_pos rfl] at hst
            (refine GO.nil ?_; refine kthen_n ?_; refine G.condT rfl rfl ?_; refine G.region ?_; refine GO.move rfl rfl ?_; refine GO.loadW rfl rfl rfl (Tk.t (Tk.t Tk.h)) rfl ?_)
            refine GO.buildSlice1 (n := 2) (v1 := .agg #[i64 p.1, .slice ap p.2.length cp]) rfl rfl (fun v hv => by rw [List.mem_singleton.1 hv]; rfl) rfl ⟨by omega, by omega⟩ fun bs0 => ?_
            refine GO.appendOwn (m := 1) (news := [i64 p.1, .slice ap p.2.length cp]) rfl rfl rfl (Tk.t (Tk.t Tk.h)) Tk.h rfl (by simp [Value.oneCell']) ⟨by decide, rfl⟩ Nat.one_pos (by unfold maxLen; omega) (by omega) fun v0 => ?_
            rw [show pvs xs ++ [i64 p.1, .slice ap p.2.length cp] = pvs (xs ++ [(p.1, .slice ap p.2.length cp)]) from (duo_append xs [(p.1, Value.slice ap p.2.length cp)]).symm, show xs.length + 1 = (xs ++ [(p.1, Value.slice ap p.2.length cp)]).length by simp]
            have hxp : (xs ++ [(p.1, Value.slice ap p.2.length cp)]).length ≤ i + 1 := by simp; omega
            (refine GO.assign rfl rfl ?_; refine GO.nil ?_; refine kthen_n ?_; refine G.region ?_; refine GO.assign rfl rfl ?_; refine GO.nil ?_; refine kthen_n ?_; refine G.region ?_; refine GO.move rfl rfl ?_; refine GO.move rfl rfl ?_; refine GO.move rfl rfl ?_; refine GO.idxS rfl rfl rfl ⟨rfl, by omega⟩ ?_; refine GO.load2 rfl rfl rfl (Tk.t (Tk.t Tk.h)) (by assumption) (by assumption) ?_)
            refine GO.buildSlice1 (n := 2) (v1 := .agg #[i64 a.1, .slice aa a.2.length ca]) rfl rfl (fun v hv => by rw [List.mem_singleton.1 hv]; rfl) rfl ⟨by omega, by omega⟩ fun bs1 => ?_
            refine GO.appendOwn (m := 1) (news := [i64 a.1, .slice aa a.2.length ca]) rfl rfl rfl (Tk.t Tk.h) Tk.h rfl (by simp [Value.oneCell']) ⟨by decide, rfl⟩ Nat.one_pos (by unfold maxLen; omega) (by omega) fun v1 => ?_
            rw [show pvs (xs ++ [(p.1, Value.slice ap p.2.length cp)]) ++ [i64 a.1, .slice aa a.2.length ca] = pvs ((xs ++ [(p.1, Value.slice ap p.2.length cp)]) ++ [(a.1, .slice aa a.2.length ca)]) from (duo_append (xs ++ [(p.1, Value.slice ap p.2.length cp)]) [(a.1, Value.slice aa a.2.length ca)]).symm, show (xs ++ [(p.1, Value.slice ap p.2.length cp)]).length + 1 = ((xs ++ [(p.1, Value.slice ap p.2.length cp)]) ++ [(a.1, Value.slice aa a.2.length ca)]).length by simp]
            (refine GO.assign rfl rfl ?_; refine GO.nil ?_; refine kblock_n ?_; refine kthen_n ?_; refine G.region ?_; refine GO.move rfl rfl ?_; refine GO.addi rfl rfl rfl (by omega) ?_; refine GO.assign rfl rfl ?_; refine GO.nil ?_; refine kthen_n ?_)
            refine ⟨i + 1, v1, true, ((xs ++ [(p.1, Value.slice ap p.2.length cp)]) ++ [(a.1, Value.slice aa a.2.length ca)]), (out ++ [p] ++ [a]), ⟨by omega, Cp.snoc (p := a) (x := (a.1, .slice aa a.2.length ca)) rfl hsa (Cp.snoc (p := p) (x := (p.1, .slice ap p.2.length cp)) rfl hp hc), by simp; omega, by rw [if_pos rfl, hst.2, hst.1]; simp⟩, by omega, ?_, ?_⟩
            · (refine SubE.c rfl rfl ?_; refine SubE.c rfl rfl ?_; refine SubE.c rfl rfl ?_; refine SubE.c rfl rfl ?_; refine SubE.c rfl rfl ?_; exact SubE.n)
            · ((refine Sb.c Tk.h ?_; refine Sb.c (Tk.t (Tk.t (Tk.t Tk.h))) ?_; refine Sb.c (Tk.t (Tk.t Tk.h)) ?_); (refine Sb.s ?_; refine Sb.s ?_; exact Sb.r))
          | false =>
            rw [hpa, if_neg (by simp)] at hst
            (refine GO.nil ?_; refine kthen_n ?_; refine G.condF rfl rfl ?_; refine G.skip ?_; refine kthen_n ?_; refine G.region ?_; refine GO.assign rfl rfl ?_; refine GO.nil ?_; refine kthen_n ?_; refine G.region ?_; refine GO.move rfl rfl ?_; refine GO.move rfl rfl ?_; refine GO.move rfl rfl ?_; refine GO.idxS rfl rfl rfl ⟨rfl, by omega⟩ ?_; refine GO.load2 rfl rfl rfl Tk.h (by assumption) (by assumption) ?_)
            refine GO.buildSlice1 (n := 2) (v1 := .agg #[i64 a.1, .slice aa a.2.length ca]) rfl rfl (fun v hv => by rw [List.mem_singleton.1 hv]; rfl) rfl ⟨by omega, by omega⟩ fun bs1 => ?_
            refine GO.appendOwn (m := 1) (news := [i64 a.1, .slice aa a.2.length ca]) rfl rfl rfl (Tk.t (Tk.t Tk.h)) Tk.h rfl (by simp [Value.oneCell']) ⟨by decide, rfl⟩ Nat.one_pos (by unfold maxLen; omega) (by omega) fun v1 => ?_
            rw [show pvs xs ++ [i64 a.1, .slice aa a.2.length ca] = pvs (xs ++ [(a.1, .slice aa a.2.length ca)]) from (duo_append xs [(a.1, Value.slice aa a.2.length ca)]).symm, show xs.length + 1 = (xs ++ [(a.1, Value.slice aa a.2.length ca)]).length by simp]
            (refine GO.assign rfl rfl ?_; refine GO.nil ?_; refine kblock_n ?_; refine kthen_n ?_; refine G.region ?_; refine GO.move rfl rfl ?_; refine GO.addi rfl rfl rfl (by omega) ?_; refine GO.assign rfl rfl ?_; refine GO.nil ?_; refine kthen_n ?_)
            refine ⟨i + 1, v1, true, (xs ++ [(a.1, Value.slice aa a.2.length ca)]), (out ++ [a]), ⟨by omega, Cp.snoc (p := a) (x := (a.1, .slice aa a.2.length ca)) rfl hsa hc, by simp; omega, by rw [if_pos rfl, hst.2, hst.1]; simp⟩, by omega, ?_, ?_⟩
            · (refine SubE.c rfl rfl ?_; refine SubE.c rfl rfl ?_; refine SubE.c rfl rfl ?_; refine SubE.c rfl rfl ?_; refine SubE.c rfl rfl ?_; exact SubE.n)
            · ((refine Sb.c Tk.h ?_; refine Sb.c (Tk.t (Tk.t Tk.h)) ?_; refine Sb.c (Tk.t Tk.h) ?_); (refine Sb.s ?_; exact Sb.r))
    · have e : i = L.length := by omega
      subst e
      cases done with
      | true =>
        rw [if_pos rfl, List.drop_length, List.append_nil] at hst
        refine G.ownRd Tk.h fun z hz => ?_
        (refine G.exit ?_; refine kthen_x ?_; refine kthen_x ?_; refine kblock_x ?_; refine kthen_n ?_; refine G.seq ?_; refine G.seq ?_; refine G.region ?_; refine GO.move rfl rfl ?_; refine GO.not rfl rfl ?_; refine GO.nil ?_; refine kthen_n ?_; refine G.condF rfl rfl ?_; refine G.skip ?_; refine kthen_n ?_; refine G.seq ?_; refine G.region ?_; refine GO.move rfl rfl ?_; refine GO.assign rfl rfl ?_; refine GO.nil ?_; refine kthen_n ?_; refine G.ret ?_)
        refine KF2.r1 rfl (RV.t rfl) ⟨z, ?_, rfl⟩ (ImpS.sb ?_)
        · rw [hst]; exact hc.prs (Sup.right z q) (hz.sup (Sup.left z q))
        · ((refine Sb.c Tk.h ?_; refine Sb.c (Tk.t Tk.h) ?_); (refine Sb.s ?_; exact Sb.r))
      | false =>
        rw [if_neg (by simp), List.take_length, List.drop_length] at hst
        rw [if_neg (by simp)] at hxl
        (refine G.exit ?_; refine kthen_x ?_; refine kthen_x ?_; refine kblock_x ?_; refine kthen_n ?_; refine G.seq ?_; refine G.seq ?_; refine G.region ?_; refine GO.move rfl rfl ?_; refine GO.not rfl rfl ?_; refine GO.nil ?_; refine kthen_n ?_; refine G.condT rfl rfl ?_; refine G.region ?_; refine GO.move rfl rfl ?_; refine GO.loadW rfl rfl rfl (Tk.t Tk.h) rfl ?_)
        refine GO.buildSlice1 (n := 2) (v1 := .agg #[i64 p.1, .slice ap p.2.length cp]) rfl rfl (fun v hv => by rw [List.mem_singleton.1 hv]; rfl) rfl ⟨by omega, by omega⟩ fun bs0 => ?_
        refine GO.appendOwn (m := 1) (news := [i64 p.1, .slice ap p.2.length cp]) rfl rfl rfl (Tk.t Tk.h) Tk.h rfl (by simp [Value.oneCell']) ⟨by decide, rfl⟩ Nat.one_pos (by unfold maxLen; omega) (by omega) fun v0 => ?_
        rw [show pvs xs ++ [i64 p.1, .slice ap p.2.length cp] = pvs (xs ++ [(p.1, .slice ap p.2.length cp)]) from (duo_append xs [(p.1, Value.slice ap p.2.length cp)]).symm, show xs.length + 1 = (xs ++ [(p.1, Value.slice ap p.2.length cp)]).length by simp]
        refine GO.ownRd Tk.h fun z hz => ?_
        (refine GO.assign rfl rfl ?_; refine GO.nil ?_; refine kthen_n ?_; refine G.seq ?_; refine G.region ?_; refine GO.move rfl rfl ?_; refine GO.assign rfl rfl ?_; refine GO.nil ?_; refine kthen_n ?_; refine G.ret ?_)
        refine KF2.r1 rfl (RV.t rfl) ⟨z, ?_, rfl⟩ (ImpS.sb ?_)
        · rw [hst.2]
          have h2 := Cp.snoc (p := p) (x := (p.1, .slice ap p.2.length cp)) rfl hp hc
          rw [hst.1] at h2
          exact h2.prs (Sup.right z q) (hz.sup (Sup.left z q))
        · ((refine Sb.c Tk.h ?_; refine Sb.c (Tk.t (Tk.t Tk.h)) ?_); (refine Sb.s ?_; refine Sb.s ?_; exact Sb.r))
end Go.Proofs.Ytcemehocbemfmaa
namespace Go.Proofs.Ytcemehocbemfmaa
open Go
/-- A slice's length is within its capacity. -/
def capB (v : Value) : Prop := ∃ a n cap, v = .slice a n cap ∧ n ≤ cap
theorem SymsR.drop1 {q : HP} {a : Option Addr} {cap : Nat} {s : SymD} {r : List SymD} (h : SymsR q (.slice a (s :: r).length cap) (s :: r)) (hc : (s :: r).length ≤ cap) :
    SymsR q (.slice (if cap = 1 then a else a.map (·.add (1 * 2))) ((s :: r).length - 1) (cap - 1)) r ∧ capB (.slice (if cap = 1 then a else a.map (·.add (1 * 2))) ((s :: r).length - 1) (cap - 1)) := by
  obtain ⟨a', cap', e, hl, hr⟩ := h
  injection e with e1 e2 e3
  subst e1 e3
  rw [List.length_cons] at hc
  refine ⟨⟨_, _, rfl, by rw [symsV_len], fun hn => ?_⟩, _, _, _, rfl, by rw [List.length_cons]; omega⟩
  obtain ⟨b, o, rfl, hr'⟩ := hr (by rw [List.length_cons]; omega)
  rw [if_neg (by omega)]
  refine ⟨b, o + 1 * 2, by rw [Option.map_some, add_plain], fun j u hj => ?_⟩
  rw [Nat.add_assoc]
  refine hr' _ _ ?_
  have e : symsV (s :: r) = [.bool s.1, i64 s.2] ++ symsV r := rfl
  rw [e, List.getElem?_append_right (by simp), show 1 * 2 + j - [Value.bool s.1, i64 s.2].length = j by simp]
  exact hj
theorem left_body {E : Int → Bool} {h : Int} {r kept : List SymD} {L : List ProdD} {n : Nat} (hL : ∀ a ∈ L, ¬ n < a.2.length) (hk : ¬ n < kept.length + r.length) : ∀ a ∈ leftF E h L kept r, ¬ n < a.2.length := fun a ha => by
  rcases (left_mem E h a r kept L).1 ha with h1 | ⟨y, h1, rfl, _⟩
  · exact hL a h1
  · obtain ⟨m, _, rfl⟩ := mem_mask E r y h1
    have := mask_len E r m
    dsimp only
    rw [List.length_append]; omega
/-- What Left does with a body. -/
def RLeftS (o : Nat → Bool) (n be : Nat) (ss : List SymD) : Prop := ∀ (q : HP) (lv kv bv : Value) (L : List ProdD) (kept : List SymD) (h : Int), PrsR q lv L → SymsR q kv kept → SymsR q bv ss → capB bv → (∀ s ∈ ss, symIn n s) →
  ¬ 1048576 < kept.length + ss.length → ¬ 4398046511104 < L.length + 2 ^ cntE (EO o) ss → (∀ a ∈ L, ¬ 1048576 < a.2.length) →
  Fn Try.prog 43 #[lv, i64 h, kv, bv, .slice (some ⟨be, 0, none⟩) n n] [q, pt be (row (boolsV o n) 4)] (fun r Q => ∃ q', Ext q q' ∧ PrsR q' r (leftF (EO o) h L kept ss) ∧ Q = [q', pt be (row (boolsV o n) 4)])
theorem leftF_cons (E : Int → Bool) (h : Int) (L : List ProdD) (kept : List SymD) (s : SymD) (r : List SymD) : leftF E h L kept (s :: r) = leftF E h (if nulS E s then leftF E h L kept r else L) (kept ++ [s]) r := rfl
theorem leftF_nil (E : Int → Bool) (h : Int) (L : List ProdD) (kept : List SymD) : leftF E h L kept [] = if kept = [] then L else insF L (h, kept) := rfl
section
variable {P : Program} {c : Cx} {A : Array Oper} {rest : List Oper} {K : Kont} {L : Env} {H : List HP} {t : TypeId} {p : String} {e : Array Edge} {d : Nat}
/-- s[l:] of whatever slice. -/
theorem GO.sliceG {ty el : TypeId} {sz n cap : Nat} {a : Option Addr} (l : Nat) {kk : IntKind} {i : Int} {x y : Operand} [hu : UL P ty (.slice el)] [hs : SZ P el sz] (hN : Nat.blt d c.N = true) (hx : evl L x = some (.slice a n cap)) (hy : evl L y = some (.int kk i)) (hi : i = (l : Int) ∧ l ≤ n)
    (k : GO P c A rest K ((d, .slice (if cap = l then a else a.map (·.add (l * sz))) (n - l) (cap - l)) :: L) H) : GO P c A (⟨some d, .slice ty x (some y) none none, t, p, e, none⟩ :: rest) K L H :=
  GO.val hN rfl (fun s w Y h _ => by
    obtain ⟨rfl, h1⟩ := hi
    have hle : (l : Int) ≤ n := by omega
    simp only [execOp, h.eval hx, Option.map_none, Option.map_some, h.eval hy]
    simp [Instr.sliceAt, Instr.slice, Sem.run_bind, run_underlying hu.out, Instr.sliceBounds, run_sliceBound w _ _ _ _ (Int.natCast_nonneg l) hle, run_sizeOf_SZ, Result.andThen]) k
end
theorem cnt_cons (E : Int → Bool) (s : SymD) (r : List SymD) : cntE E (s :: r) = (if nulS E s then 1 else 0) + cntE E r := rfl
attribute [local irreducible] G GO GR GT Fn FnV pt init exs pur sat own ImpS symsV
set_option maxRecDepth 40000 in
set_option maxHeartbeats 16000000 in
theorem rleft_nil (o : Nat → Bool) (n be : Nat) : RLeftS o n be [] := by
  intro q lv kv bv L kept h hL hk hb hcb hin hkl hLn hLb
  obtain ⟨al, cl, rfl⟩ := hL.form
  obtain ⟨ak, ck, rfl⟩ := hk.form
  obtain ⟨ab, cb, rfl⟩ := hb.form
  rw [leftF_nil]
  refine Fn.mk2 Try.func43 rfl rfl fun w0 F => ?_
  match kept, hk, hkl with
  | [], hk, _ =>
    rw [if_pos rfl]
    (refine G.seq ?_; refine G.region ?_; refine GO.assign rfl rfl ?_; refine GO.nil ?_; refine kthen_n ?_; refine G.seq ?_; refine G.seq ?_; refine G.region ?_; refine GO.move rfl rfl ?_; refine GO.lenS rfl rfl ?_; refine GO.eqT rfl rfl rfl rfl ?_; refine GO.nil ?_; refine kthen_n ?_; refine G.condT rfl rfl ?_; refine G.seq ?_; refine G.seq ?_; refine G.region ?_; refine GO.move rfl rfl ?_; refine GO.lenS rfl rfl ?_; refine GO.eqT rfl rfl rfl rfl ?_; refine GO.nil ?_; refine kthen_n ?_; refine G.condT rfl rfl ?_; refine G.seq ?_; refine G.region ?_; refine GO.move rfl rfl ?_; refine GO.assign rfl rfl ?_; refine GO.nil ?_; refine kthen_n ?_; refine G.ret ?_; refine kthen_r ?_; refine kthen_r ?_)
    refine KF2.r1 rfl (RV.t rfl) ⟨q, Ext.refl q, hL, rfl⟩ (ImpS.sb ?_)
    ((refine Sb.c Tk.h ?_; refine Sb.c Tk.h ?_); (exact Sb.r))
  | s :: kept, hk, hkl =>
    rw [if_neg (by simp)]
    have d0 : decide ((((s :: kept).length : Nat) : Int) = 0) = false := decide_eq_false (by rw [List.length_cons]; omega)
    generalize hs : s :: kept = ks at hk hkl d0
    have hins := fun (z : HP) (vv : Value) (hv : SymsR z vv ks) => rinsert_spec (star [z, q]) _ L (hL.sup (Sup.right z q)) (h, ks) vv (hv.sup (Sup.left z q)) hLb (by show ¬ 1048576 < ks.length; simp at hkl; omega) (by unfold cntE at hLn; simpa using hLn)
    have hk16 : ks.length * 16 ≤ 140737488355328 := by simp at hkl; omega
    (refine G.seq ?_; refine G.region ?_; refine GO.assign rfl rfl ?_; refine GO.nil ?_; refine kthen_n ?_; refine G.seq ?_; refine G.seq ?_; refine G.region ?_; refine GO.move rfl rfl ?_; refine GO.lenS rfl rfl ?_; refine GO.eqT rfl rfl rfl rfl ?_; refine GO.nil ?_; refine kthen_n ?_; refine G.condT rfl rfl ?_; refine G.seq ?_; refine G.seq ?_; refine G.region ?_; refine GO.move rfl rfl ?_; refine GO.lenS rfl rfl ?_; refine GO.eqi rfl rfl rfl ?_; refine GO.nil ?_; refine kthen_n ?_; refine G.condF rfl (by assumption) ?_; refine G.skip ?_; refine kthen_n ?_; refine G.seq ?_; refine G.region ?_; refine GO.assign rfl rfl ?_; refine GO.nil ?_; refine kthen_n ?_; refine G.seq ?_; refine G.region ?_; refine GO.move rfl rfl ?_; refine GO.move rfl rfl ?_)
    refine GO.ownNil (T := 63) (sz := 2) ?_
    refine GO.appendFrom (m := ks.length) (q := q) rfl rfl rfl Tk.h Tk.h hk (symsV_one _) ⟨by decide, rfl⟩ (by unfold maxLen; omega) (by omega) fun v7 => ?_
    rw [List.nil_append, Nat.zero_add ks.length]
    refine GO.ownRd Tk.h fun z hz => ?_
    have hz : SymsR z v7 ks := hz
    have hins := hins z v7 hz
    obtain ⟨a7, c7, rfl⟩ := hz.form
    refine GO.merge (x := z) (y := q) (Tks.c Tk.h (Tks.c Tk.h Tks.n)) ?_
    (refine GO.assign rfl rfl ?_; refine GO.nil ?_; refine kthen_n ?_; refine G.seq ?_; refine G.region ?_; refine GO.move rfl rfl ?_; refine GO.move rfl rfl ?_; refine GO.move rfl rfl ?_; refine GO.build2 rfl rfl rfl rfl ?_)
    refine GO.call2 rfl rfl rfl (hins) (Tks.c Tk.h Tks.n) ?_
    rintro _ _ ⟨z2, hz2, rfl⟩
    refine GO.merge (x := z2) (y := star [z, q]) (Tks.c Tk.h (Tks.c Tk.h Tks.n)) ?_
    (refine GO.assign rfl rfl ?_; refine GO.nil ?_; refine kthen_n ?_; refine G.ret ?_; refine kthen_r ?_)
    refine KF2.r1 rfl (RV.t rfl) ⟨star [z2, star [z, q]], (Ext.right z q).trans (Ext.right z2 _), hz2, rfl⟩ (ImpS.sb ?_)
    ((refine Sb.c Tk.h ?_; refine Sb.c Tk.h ?_); (exact Sb.r))
set_option maxRecDepth 40000 in
set_option maxHeartbeats 16000000 in
/-- The second half: with the symbol kept. -/
theorem rleft_cons (o : Nat → Bool) (n be : Nat) (s : SymD) (r : List SymD) (ih : RLeftS o n be r) : RLeftS o n be (s :: r) := by
  intro q lv kv bv L kept h hL hk hb hcb hin hkl hLn hLb
  obtain ⟨al, cl, rfl⟩ := hL.form
  obtain ⟨ak, ck, rfl⟩ := hk.form
  obtain ⟨ab0, cb, rfl⟩ := hb.form
  have hcap : (s :: r).length ≤ cb := by
    obtain ⟨_, _, _, e, h1⟩ := hcb
    injection e with _ e2 e3
    omega
  obtain ⟨hdr, hdc⟩ := hb.drop1 hcap
  obtain ⟨ab, ob, rfl, _, r1, r2⟩ := hb.at (k := 0) (s := s) rfl
  have hin1 : ∀ x ∈ r, symIn n x := fun x hx => hin x (List.mem_cons_of_mem _ hx)
  have hs := hin s (List.mem_cons_self ..)
  rw [List.length_cons] at hkl
  have hkl1 : ¬ 1048576 < kept.length + r.length := by omega
  have hk16 : kept.length * 16 ≤ 140737488355328 := by omega
  have hkl2 : ¬ 1048576 < (kept ++ [s]).length + r.length := by rw [List.length_append]; simp only [List.length_cons, List.length_nil]; omega
  have hsn := syms_snoc kept s
  have step2 := fun (q' : HP) (he : Ext q q') (z : HP) (lv' vv : Value) (L' : List ProdD) (hL' : PrsR q' lv' L') (hv : SymsR z vv (kept ++ [s])) h1 h2 => ih (star [z, q']) lv' vv _ L' (kept ++ [s]) h (hL'.sup (Sup.right z q')) (hv.sup (Sup.left z q')) ((hdr.sup he.sup).sup (Sup.right z q')) hdc hin1 hkl2 h1 h2
  rw [leftF_cons]
  obtain ⟨sl, sn⟩ := s
  dsimp only at r1 r2 hsn
  refine Fn.mk2 Try.func43 rfl rfl fun w0 F => ?_
  cases sl with
  | true =>
    have hnu : nulS (EO o) (true, sn) = false := by unfold nulS; rfl
    have hcn : cntE (EO o) ((true, sn) :: r) = cntE (EO o) r := by rw [cnt_cons, hnu]; simp
    rw [hcn] at hLn
    rw [hnu, if_neg (by simp)]
    have step2 := step2 q (Ext.refl q)
    (refine G.seq ?_; refine G.region ?_; refine GO.assign rfl rfl ?_; refine GO.nil ?_; refine kthen_n ?_; refine G.seq ?_; refine G.seq ?_; refine G.region ?_; refine GO.move rfl rfl ?_; refine GO.lenS rfl rfl ?_; refine GO.eqi rfl rfl rfl ?_; refine GO.nil ?_; refine kthen_n ?_; refine G.condF rfl rfl ?_; refine G.skip ?_; refine kthen_n ?_; refine G.seq ?_; refine G.region ?_; refine GO.move rfl rfl ?_; refine GO.idxS (j := 0) rfl rfl rfl ⟨rfl, by simp⟩ ?_; refine GO.load2 rfl rfl rfl Tk.h (by assumption) (by assumption) ?_; refine GO.alloc rfl fun b12 => ?_; refine GO.storeW rfl rfl Tk.h ⟨rfl, rfl⟩ (by simp [Value.oneCell']) ?_; refine GO.nil ?_; refine kthen_n ?_; refine G.seq ?_; refine G.seq ?_; refine G.region ?_; refine GO.fieldAddr rfl rfl ?_; refine GO.load1 rfl rfl rfl Tk.h rfl ?_; refine GO.not rfl rfl ?_; refine GO.move rfl rfl ?_; refine GO.gF rfl rfl rfl rfl ?_; refine GO.gF rfl rfl rfl rfl ?_; refine GO.gF rfl rfl rfl rfl ?_; refine GO.gF rfl rfl rfl rfl ?_; refine GO.gF rfl rfl rfl rfl ?_; refine GO.pickF rfl rfl rfl ?_; refine GO.nil ?_; refine kthen_n ?_; refine G.condF rfl rfl ?_; refine G.skip ?_; refine kthen_n ?_; refine G.seq ?_; refine G.region ?_; refine GO.assign rfl rfl ?_; refine GO.nil ?_; refine kthen_n ?_; refine G.seq ?_; refine G.region ?_; refine GO.move rfl rfl ?_; refine GO.move rfl rfl ?_)
    refine GO.ownNil (T := 63) (sz := 2) ?_
    refine GO.appendFrom (m := kept.length) (q := q) rfl rfl rfl Tk.h (Tk.t Tk.h) hk (symsV_one _) ⟨by decide, rfl⟩ (by unfold maxLen; omega) (by omega) fun v7 => ?_
    rw [List.nil_append, Nat.zero_add kept.length]
    (refine GO.assign rfl rfl ?_; refine GO.nil ?_; refine kthen_n ?_; refine G.seq ?_; refine G.region ?_; refine GO.move rfl rfl ?_; refine GO.loadW rfl rfl rfl (Tk.t Tk.h) rfl ?_)
    refine GO.buildSlice1 (n := 2) (v1 := .agg #[.bool true, i64 sn]) rfl rfl (fun v hv => by rw [List.mem_singleton.1 hv]; rfl) rfl ⟨by omega, by omega⟩ fun bs => ?_
    refine GO.appendOwn (m := 1) (news := [.bool true, i64 sn]) rfl rfl rfl (Tk.t Tk.h) Tk.h rfl (by simp [Value.oneCell']) ⟨by decide, rfl⟩ Nat.one_pos (by unfold maxLen; omega) (by omega) fun v8 => ?_
    rw [← hsn, show kept.length + 1 = (kept ++ [(true, sn)]).length by rw [List.length_append]; rfl]
    refine GO.ownRd Tk.h fun z hz => ?_
    have hz : SymsR z v8 (kept ++ [(true, sn)]) := hz
    have step2 := step2 z _ v8 L hL hz hLn hLb
    obtain ⟨a8, c8, rfl⟩ := hz.form
    refine GO.merge (x := z) (y := q) (Tks.c Tk.h (Tks.c (Tk.t (Tk.t Tk.h)) Tks.n)) ?_
    (refine GO.assign rfl rfl ?_; refine GO.nil ?_; refine kthen_n ?_; refine G.seq ?_; refine G.region ?_; refine GO.move rfl rfl ?_; refine GO.move rfl rfl ?_; refine GO.move rfl rfl ?_; refine GO.move rfl rfl ?_)
    refine GO.sliceG 1 rfl rfl rfl ⟨rfl, by rw [List.length_cons]; omega⟩ ?_
    (refine GO.move rfl rfl ?_)
    refine GO.call5 rfl rfl rfl rfl rfl rfl (step2) (Tks.c Tk.h (Tks.c (Tk.t (Tk.t Tk.h)) Tks.n)) ?_
    rintro lv2 _ ⟨q2, he2, hL2, rfl⟩
    (refine GO.assign rfl rfl ?_; refine GO.nil ?_; refine kthen_n ?_; refine G.ret ?_)
    refine KF2.r1 rfl (RV.t rfl) ⟨q2, (Ext.right z q).trans he2, hL2, rfl⟩ (ImpS.sb ?_)
    ((refine Sb.c Tk.h ?_; refine Sb.c Tk.h ?_); (refine Sb.s ?_; refine Sb.s ?_; exact Sb.r))
  | false =>
    have hs := hs rfl
    dsimp only at hs
    obtain ⟨m, rfl⟩ := Int.eq_ofNat_of_zero_le hs.1
    have hmn : m < n := by omega
    have hnu : nulS (EO o) (false, (m : Int)) = o m := by unfold nulS EO; rfl
    rw [hnu]
    cases ho : o m with
    | false =>
      have hcn : cntE (EO o) ((false, (m : Int)) :: r) = cntE (EO o) r := by rw [cnt_cons, hnu, ho]; simp
      rw [hcn] at hLn
      rw [if_neg (by simp)]
      have step2 := step2 q (Ext.refl q)
      (refine G.seq ?_; refine G.region ?_; refine GO.assign rfl rfl ?_; refine GO.nil ?_; refine kthen_n ?_; refine G.seq ?_; refine G.seq ?_; refine G.region ?_; refine GO.move rfl rfl ?_; refine GO.lenS rfl rfl ?_; refine GO.eqi rfl rfl rfl ?_; refine GO.nil ?_; refine kthen_n ?_; refine G.condF rfl rfl ?_; refine G.skip ?_; refine kthen_n ?_; refine G.seq ?_; refine G.region ?_; refine GO.move rfl rfl ?_; refine GO.idxS (j := 0) rfl rfl rfl ⟨rfl, by simp⟩ ?_; refine GO.load2 rfl rfl rfl Tk.h (by assumption) (by assumption) ?_; refine GO.alloc rfl fun b12 => ?_; refine GO.storeW rfl rfl Tk.h ⟨rfl, rfl⟩ (by simp [Value.oneCell']) ?_; refine GO.nil ?_; refine kthen_n ?_; refine G.seq ?_; refine G.seq ?_; refine G.region ?_; refine GO.fieldAddr rfl rfl ?_; refine GO.load1 rfl rfl rfl Tk.h rfl ?_; refine GO.not rfl rfl ?_; refine GO.move rfl rfl ?_; refine GO.gT rfl rfl rfl ?_; refine GO.move rfl rfl ?_; refine GO.gT rfl rfl rfl ?_; refine GO.fieldAddr rfl rfl ?_; refine GO.gT rfl rfl rfl ?_; refine GO.load1 rfl rfl rfl Tk.h rfl ?_; refine GO.gT rfl rfl rfl ?_; refine GO.idxS rfl rfl rfl ⟨rfl, by omega⟩ ?_; refine GO.gT rfl rfl rfl ?_; refine GO.load1 rfl rfl rfl (Tk.t (Tk.t Tk.h)) (rowV_get1 (by assumption)) ?_; refine GO.pickT rfl rfl rfl ?_; refine GO.nil ?_; refine kthen_n ?_; refine G.condF rfl (by assumption) ?_; refine G.skip ?_; refine kthen_n ?_; refine G.seq ?_; refine G.region ?_; refine GO.assign rfl rfl ?_; refine GO.nil ?_; refine kthen_n ?_; refine G.seq ?_; refine G.region ?_; refine GO.move rfl rfl ?_; refine GO.move rfl rfl ?_)
      refine GO.ownNil (T := 63) (sz := 2) ?_
      refine GO.appendFrom (m := kept.length) (q := q) rfl rfl rfl Tk.h (Tk.t Tk.h) hk (symsV_one _) ⟨by decide, rfl⟩ (by unfold maxLen; omega) (by omega) fun v7 => ?_
      rw [List.nil_append, Nat.zero_add kept.length]
      (refine GO.assign rfl rfl ?_; refine GO.nil ?_; refine kthen_n ?_; refine G.seq ?_; refine G.region ?_; refine GO.move rfl rfl ?_; refine GO.loadW rfl rfl rfl (Tk.t Tk.h) rfl ?_)
      refine GO.buildSlice1 (n := 2) (v1 := .agg #[.bool false, i64 (m : Int)]) rfl rfl (fun v hv => by rw [List.mem_singleton.1 hv]; rfl) rfl ⟨by omega, by omega⟩ fun bs => ?_
      refine GO.appendOwn (m := 1) (news := [.bool false, i64 (m : Int)]) rfl rfl rfl (Tk.t Tk.h) Tk.h rfl (by simp [Value.oneCell']) ⟨by decide, rfl⟩ Nat.one_pos (by unfold maxLen; omega) (by omega) fun v8 => ?_
      rw [← hsn, show kept.length + 1 = (kept ++ [(false, (m : Int))]).length by rw [List.length_append]; rfl]
      refine GO.ownRd Tk.h fun z hz => ?_
      have hz : SymsR z v8 (kept ++ [(false, (m : Int))]) := hz
      have step2 := step2 z _ v8 L hL hz hLn hLb
      obtain ⟨a8, c8, rfl⟩ := hz.form
      refine GO.merge (x := z) (y := q) (Tks.c Tk.h (Tks.c (Tk.t (Tk.t Tk.h)) Tks.n)) ?_
      (refine GO.assign rfl rfl ?_; refine GO.nil ?_; refine kthen_n ?_; refine G.seq ?_; refine G.region ?_; refine GO.move rfl rfl ?_; refine GO.move rfl rfl ?_; refine GO.move rfl rfl ?_; refine GO.move rfl rfl ?_)
      refine GO.sliceG 1 rfl rfl rfl ⟨rfl, by rw [List.length_cons]; omega⟩ ?_
      (refine GO.move rfl rfl ?_)
      refine GO.call5 rfl rfl rfl rfl rfl rfl (step2) (Tks.c Tk.h (Tks.c (Tk.t (Tk.t Tk.h)) Tks.n)) ?_
      rintro lv2 _ ⟨q2, he2, hL2, rfl⟩
      (refine GO.assign rfl rfl ?_; refine GO.nil ?_; refine kthen_n ?_; refine G.ret ?_)
      refine KF2.r1 rfl (RV.t rfl) ⟨q2, (Ext.right z q).trans he2, hL2, rfl⟩ (ImpS.sb ?_)
      ((refine Sb.c Tk.h ?_; refine Sb.c Tk.h ?_); (refine Sb.s ?_; refine Sb.s ?_; exact Sb.r))
    | true =>
      have hcn : cntE (EO o) ((false, (m : Int)) :: r) = 1 + cntE (EO o) r := by rw [cnt_cons, hnu, ho]; simp
      rw [hcn, Nat.pow_add, Nat.pow_one] at hLn
      rw [if_pos rfl]
      have step1 := ih q _ _ _ L kept h hL hk hdr hdc hin1 hkl1 (by omega) hLb
      have hl1 := left_len (EO o) h r kept L
      have hb1 := left_body (E := EO o) (h := h) hLb hkl1
      (refine G.seq ?_; refine G.region ?_; refine GO.assign rfl rfl ?_; refine GO.nil ?_; refine kthen_n ?_; refine G.seq ?_; refine G.seq ?_; refine G.region ?_; refine GO.move rfl rfl ?_; refine GO.lenS rfl rfl ?_; refine GO.eqi rfl rfl rfl ?_; refine GO.nil ?_; refine kthen_n ?_; refine G.condF rfl rfl ?_; refine G.skip ?_; refine kthen_n ?_; refine G.seq ?_; refine G.region ?_; refine GO.move rfl rfl ?_; refine GO.idxS (j := 0) rfl rfl rfl ⟨rfl, by simp⟩ ?_; refine GO.load2 rfl rfl rfl Tk.h (by assumption) (by assumption) ?_; refine GO.alloc rfl fun b12 => ?_; refine GO.storeW rfl rfl Tk.h ⟨rfl, rfl⟩ (by simp [Value.oneCell']) ?_; refine GO.nil ?_; refine kthen_n ?_; refine G.seq ?_; refine G.seq ?_; refine G.region ?_; refine GO.fieldAddr rfl rfl ?_; refine GO.load1 rfl rfl rfl Tk.h rfl ?_; refine GO.not rfl rfl ?_; refine GO.move rfl rfl ?_; refine GO.gT rfl rfl rfl ?_; refine GO.move rfl rfl ?_; refine GO.gT rfl rfl rfl ?_; refine GO.fieldAddr rfl rfl ?_; refine GO.gT rfl rfl rfl ?_; refine GO.load1 rfl rfl rfl Tk.h rfl ?_; refine GO.gT rfl rfl rfl ?_; refine GO.idxS rfl rfl rfl ⟨rfl, by omega⟩ ?_; refine GO.gT rfl rfl rfl ?_; refine GO.load1 rfl rfl rfl (Tk.t (Tk.t Tk.h)) (rowV_get1 (by assumption)) ?_; refine GO.pickT rfl rfl rfl ?_; refine GO.nil ?_; refine kthen_n ?_; refine G.condT rfl (by assumption) ?_; refine G.region ?_; refine GO.move rfl rfl ?_; refine GO.move rfl rfl ?_; refine GO.move rfl rfl ?_; refine GO.move rfl rfl ?_)
      refine GO.sliceG 1 rfl rfl rfl ⟨rfl, by rw [List.length_cons]; omega⟩ ?_
      (refine GO.move rfl rfl ?_)
      refine GO.call5 rfl rfl rfl rfl rfl rfl (step1) (Tks.c (Tk.t Tk.h) (Tks.c (Tk.t Tk.h) Tks.n)) ?_
      rintro lv1 _ ⟨q1, he1, hL1, rfl⟩
      have step2 := step2 q1 he1
      have hk1 := hk.sup he1.sup
      have r3 := he1.sup _ _ r1
      have r4 := he1.sup _ _ r2
      generalize leftF (EO o) h L kept r = L1 at hL1 hl1 hb1 ⊢
      obtain ⟨al1, cl1, rfl⟩ := hL1.form
      (refine GO.assign rfl rfl ?_; refine GO.nil ?_; refine kthen_n ?_; refine G.seq ?_; refine G.region ?_; refine GO.assign rfl rfl ?_; refine GO.nil ?_; refine kthen_n ?_; refine G.seq ?_; refine G.region ?_; refine GO.move rfl rfl ?_; refine GO.move rfl rfl ?_)
      refine GO.ownNil (T := 63) (sz := 2) ?_
      refine GO.appendFrom (m := kept.length) (q := q1) rfl rfl rfl Tk.h Tk.h hk1 (symsV_one _) ⟨by decide, rfl⟩ (by unfold maxLen; omega) (by omega) fun v7 => ?_
      rw [List.nil_append, Nat.zero_add kept.length]
      (refine GO.assign rfl rfl ?_; refine GO.nil ?_; refine kthen_n ?_; refine G.seq ?_; refine G.region ?_; refine GO.move rfl rfl ?_; refine GO.loadW rfl rfl rfl (Tk.t (Tk.t (Tk.t Tk.h))) rfl ?_)
      refine GO.buildSlice1 (n := 2) (v1 := .agg #[.bool false, i64 (m : Int)]) rfl rfl (fun v hv => by rw [List.mem_singleton.1 hv]; rfl) rfl ⟨by omega, by omega⟩ fun bs => ?_
      refine GO.appendOwn (m := 1) (news := [.bool false, i64 (m : Int)]) rfl rfl rfl (Tk.t Tk.h) Tk.h rfl (by simp [Value.oneCell']) ⟨by decide, rfl⟩ Nat.one_pos (by unfold maxLen; omega) (by omega) fun v8 => ?_
      rw [← hsn, show kept.length + 1 = (kept ++ [(false, (m : Int))]).length by rw [List.length_append]; rfl]
      refine GO.ownRd Tk.h fun z hz => ?_
      have hz : SymsR z v8 (kept ++ [(false, (m : Int))]) := hz
      have step2 := step2 z _ v8 L1 hL1 hz (by omega) hb1
      obtain ⟨a8, c8, rfl⟩ := hz.form
      refine GO.merge (x := z) (y := q1) (Tks.c Tk.h (Tks.c (Tk.t Tk.h) Tks.n)) ?_
      (refine GO.assign rfl rfl ?_; refine GO.nil ?_; refine kthen_n ?_; refine G.seq ?_; refine G.region ?_; refine GO.move rfl rfl ?_; refine GO.move rfl rfl ?_; refine GO.move rfl rfl ?_; refine GO.move rfl rfl ?_)
      refine GO.sliceG 1 rfl rfl rfl ⟨rfl, by rw [List.length_cons]; omega⟩ ?_
      (refine GO.move rfl rfl ?_)
      refine GO.call5 rfl rfl rfl rfl rfl rfl (step2) (Tks.c Tk.h (Tks.c (Tk.t Tk.h) Tks.n)) ?_
      rintro lv2 _ ⟨q2, he2, hL2, rfl⟩
      (refine GO.assign rfl rfl ?_; refine GO.nil ?_; refine kthen_n ?_; refine G.ret ?_)
      refine KF2.r1 rfl (RV.t rfl) ⟨q2, (he1.trans (Ext.right z q1)).trans he2, hL2, rfl⟩ (ImpS.sb ?_)
      ((refine Sb.c Tk.h ?_; refine Sb.c Tk.h ?_); (refine Sb.s ?_; refine Sb.s ?_; exact Sb.r))
theorem rleft_spec (o : Nat → Bool) (n be : Nat) : ∀ ss, RLeftS o n be ss
  | [] => rleft_nil o n be
  | s :: r => rleft_cons o n be s r (rleft_spec o n be r)
end Go.Proofs.Ytcemehocbemfmaa
namespace Go.Proofs.Ytcemehocbemfmaa
open Go
/-- Productions that can be read, their bodies' lengths within their capacities. -/
def PrsC (q : HP) (v : Value) (ps : List ProdD) : Prop :=
  ∃ cells, Sl q v ps.length 2 cells ∧ ∀ k p, ps[k]? = some p → ∃ bv, cells[k * 2]? = some (i64 p.1) ∧ cells[k * 2 + 1]? = some bv ∧ SymsR q bv p.2 ∧ capB bv
def CnfC (q : HP) (v : Value) (C : CnfD) : Prop := ∃ pv, v = .agg [i64 C.nts, pv].toArray ∧ PrsC q pv C.prods
theorem PrsC.prs {q : HP} {v : Value} {ps : List ProdD} (h : PrsC q v ps) : PrsR q v ps := let ⟨cells, h1, h2⟩ := h; ⟨cells, h1, fun k p hk => let ⟨bv, a, b, c, _⟩ := h2 k p hk; ⟨bv, a, b, c⟩⟩
theorem CnfC.cnf {q : HP} {v : Value} {C : CnfD} (h : CnfC q v C) : CnfR q v C := let ⟨pv, a, b⟩ := h; ⟨pv, a, b.prs⟩
theorem PrsC.form {q : HP} {v : Value} {ps : List ProdD} (h : PrsC q v ps) : ∃ a cap, v = .slice a ps.length cap := h.prs.form
theorem PrsC.at {q : HP} {a : Option Addr} {n cap k : Nat} {ps : List ProdD} {p : ProdD} (h : PrsC q (.slice a n cap) ps) (hk : ps[k]? = some p) :
    ∃ b o bv, a = some ⟨b, o, none⟩ ∧ n = ps.length ∧ Rd q ⟨b, o + k * 2, none⟩ (i64 p.1) ∧ Rd q ⟨b, o + k * 2 + 1, none⟩ bv ∧ SymsR q bv p.2 ∧ capB bv := by
  obtain ⟨cells, ⟨a', cap', e, hl, hr⟩, hc⟩ := h
  injection e with e1 e2 e3
  subst e1 e2
  have hlt := (List.getElem?_eq_some_iff.1 hk).1
  obtain ⟨b, o, rfl, hr'⟩ := hr (by omega)
  obtain ⟨bv, h1, h2, h3⟩ := hc k p hk
  exact ⟨b, o, bv, rfl, rfl, hr' _ _ h1, hr' _ _ h2, h3⟩
def RWithoutR (C : CnfD) (o : Nat → Bool) (q : HP) (r : Value) (Q : List HP) : Prop :=
  ((∃ p ∈ C.prods, 12 < cntE (EO o) p.2) ∧ r = .tuple #[.agg #[i64 0, .slice none 0 0], i64 230] ∧ Q = [q]) ∨
  ((∀ p ∈ C.prods, cntE (EO o) p.2 ≤ 12) ∧ ∃ v q', Ext q q' ∧ r = .tuple #[v, i64 0] ∧ CnfR q' v ⟨C.nts, withF (EO o) C.prods⟩ ∧ Q = [q'])
theorem syms_nil (q : HP) : SymsR q (.slice none 0 0) [] := ⟨none, 0, rfl, rfl, fun h => absurd h (by simp)⟩
theorem cnt_zero (E : Int → Bool) (ss : List SymD) : cntE E (ss.take 0) = 0 := rfl
attribute [local irreducible] G GO GR GT Fn FnV pt init exs pur sat own ImpS symsV
set_option maxRecDepth 40000 in
set_option maxHeartbeats 32000000 in
theorem rwithout_spec (q : HP) (v : Value) (C : CnfD) (n : Nat) (hv : CnfC q v C) (hz : Fits C) (hn : C.nts = n) (hn1 : n ≤ 1024) (hin : ∀ p ∈ C.prods, prodIn n p) (hB : ¬ 1048576 < C.prods.length ∧ ∀ p ∈ C.prods, ¬ 1048576 < p.2.length) :
    Fn Try.prog 27 #[v] [q] (RWithoutR C (fun i => decide (leastS C.prods n (n + 1) (fun _ => -1) i = 0)) q) := by
  have hem := rempty_spec q v C n hv.cnf hz hn hn1 hin
  obtain ⟨pv, rfl, hp⟩ := hv
  generalize (fun i => decide (leastS C.prods n (n + 1) (fun _ => -1) i = 0)) = o at hem ⊢
  obtain ⟨a0, cap0, rfl⟩ := hp.form
  rw [hn] at hem
  refine Fn.mk2 Try.func27 rfl rfl fun w0 F => ?_
  rw [hn]
  (refine G.seq ?_; refine G.region ?_; refine GO.box rfl rfl rfl fun b1 => ?_; refine GO.alloc rfl fun b2 => ?_; refine GO.assign rfl rfl ?_; refine GO.nil ?_; refine kthen_n ?_; refine G.seq ?_; refine G.region ?_; refine GO.loadW rfl rfl rfl (Tk.t Tk.h) rfl ?_)
  refine GO.call1 rfl rfl (hem) (Tks.c (Tk.t (Tk.t Tk.h)) Tks.n) ?_
  rintro _ _ ⟨be, rfl, rfl⟩
  (refine GO.assign rfl rfl ?_; refine GO.nil ?_; refine kthen_n ?_; refine G.seq ?_; refine G.seq ?_; refine G.region ?_; refine GO.assign rfl rfl ?_; refine GO.nil ?_; refine kthen_n ?_; refine G.block ?_)
  refine G.loop (fun i : Nat => [(1, .pointer (some ⟨b1, 0, none⟩)), (2, .pointer (some ⟨b2, 0, none⟩)), (4, .slice (some ⟨be, 0, none⟩) n n), (5, i64 (i : Nat))]) (fun _ => q :: pt be (row (boolsV o n) 4) :: pt b1 (row [i64 (n : Nat), .slice a0 C.prods.length cap0] 24) :: pt b2 (row [i64 0, .slice none 0 0] 24) :: F)
    (fun i => i ≤ C.prods.length ∧ ∀ j p, j < i → C.prods[j]? = some p → cntE (EO o) p.2 ≤ 12) (fun i => C.prods.length - i) 0 ⟨Nat.zero_le _, fun j p h => absurd h (Nat.not_lt_zero _)⟩ ?_ ?_ ?_
  · (refine SubE.c rfl rfl ?_; refine SubE.c rfl rfl ?_; refine SubE.c rfl rfl ?_; refine SubE.c rfl rfl ?_; exact SubE.n)
  · ((refine Sb.c (Tk.t Tk.h) ?_; refine Sb.c Tk.h ?_; refine Sb.c (Tk.t Tk.h) ?_; refine Sb.c Tk.h ?_); (exact Sb.r))
  · rintro i ⟨hi, hall⟩
    (refine G.seq ?_; refine G.seq ?_; refine G.region ?_; refine GO.move rfl rfl ?_; refine GO.fieldAddr rfl rfl ?_; refine GO.load1 rfl rfl rfl (Tk.t (Tk.t Tk.h)) rfl ?_; refine GO.lenS rfl rfl ?_; refine GO.lti rfl rfl rfl ?_; refine GO.nil ?_; refine kthen_n ?_)
    refine G.condD rfl (fun hlt => ?_) (fun hge => ?_)
    · obtain ⟨⟨h, ss⟩, hpk⟩ : ∃ p, C.prods[i]? = some p := ⟨_, List.getElem?_eq_getElem (by omega)⟩
      have hpm := List.mem_of_getElem? hpk
      have hbl := hB.2 _ hpm
      have hsin := (hin _ hpm).2
      obtain ⟨b0, o0, bv, rfl, _, r1, r2, hss, hcb⟩ := hp.at hpk
      dsimp only at hbl hsin r1 r2 hss
      obtain ⟨ab, capb, rfl⟩ := hss.form
      (refine G.skip ?_; refine kthen_n ?_; refine G.seq ?_; refine G.block ?_; refine G.seq ?_; refine G.region ?_; refine GO.assign rfl rfl ?_; refine GO.nil ?_; refine kthen_n ?_; refine G.seq ?_; refine G.seq ?_; refine G.region ?_; refine GO.assign rfl rfl ?_; refine GO.nil ?_; refine kthen_n ?_; refine G.block ?_)
      refine G.loop2 (fun (j m : Nat) => [(1, .pointer (some ⟨b1, 0, none⟩)), (2, .pointer (some ⟨b2, 0, none⟩)), (4, .slice (some ⟨be, 0, none⟩) n n), (5, i64 (i : Nat)), (6, i64 (m : Nat)), (7, i64 (j : Nat))]) (fun _ _ => q :: pt be (row (boolsV o n) 4) :: pt b1 (row [i64 (n : Nat), .slice (some ⟨b0, o0, none⟩) C.prods.length cap0] 24) :: pt b2 (row [i64 0, .slice none 0 0] 24) :: F)
        (fun j m => j ≤ ss.length ∧ m = cntE (EO o) (ss.take j)) (fun j _ => ss.length - j) 0 0 ⟨Nat.zero_le _, rfl⟩ ?_ ?_ ?_
      · (refine SubE.c rfl rfl ?_; refine SubE.c rfl rfl ?_; refine SubE.c rfl rfl ?_; refine SubE.c rfl rfl ?_; refine SubE.c rfl rfl ?_; refine SubE.c rfl rfl ?_; exact SubE.n)
      · ((refine Sb.c Tk.h ?_; refine Sb.c Tk.h ?_; refine Sb.c Tk.h ?_; refine Sb.c Tk.h ?_); (exact Sb.r))
      · rintro j m ⟨hj, rfl⟩
        (refine G.seq ?_; refine G.seq ?_; refine G.region ?_; refine GO.move rfl rfl ?_; refine GO.fieldAddr rfl rfl ?_; refine GO.load1 rfl rfl rfl (Tk.t (Tk.t Tk.h)) rfl ?_; refine GO.move rfl rfl ?_; refine GO.idxS rfl rfl rfl ⟨rfl, by omega⟩ ?_; refine GO.fieldAddr rfl rfl ?_; refine GO.loadQ rfl rfl rfl Tk.h (by assumption) ?_; refine GO.lenS rfl rfl ?_; refine GO.lti rfl rfl rfl ?_; refine GO.nil ?_; refine kthen_n ?_)
        refine G.condD rfl (fun hlt2 => ?_) (fun hge2 => ?_)
        · obtain ⟨s, hs⟩ : ∃ s, ss[j]? = some s := ⟨_, List.getElem?_eq_getElem (by omega)⟩
          have htk : ss.take (j + 1) = ss.take j ++ [s] := by rw [List.take_add_one, hs]; rfl
          have hsn := cnt_snoc (EO o) s (ss.take j)
          rw [← htk] at hsn
          have hcl := cnt_le (EO o) (ss.take j)
          rw [List.length_take] at hcl
          have hsi := hsin s (List.mem_of_getElem? hs)
          obtain ⟨bb, ob, rfl, _, r3, r4⟩ := hss.at hs
          obtain ⟨sl, sn⟩ := s
          dsimp only at r3 r4
          cases sl with
          | true =>
            rw [if_neg (by unfold nulS; simp)] at hsn
            (refine G.skip ?_; refine kthen_n ?_; refine G.seq ?_; refine G.block ?_; refine G.seq ?_; refine G.region ?_; refine GO.fieldAddr rfl rfl ?_; refine GO.load1 rfl rfl rfl (Tk.t (Tk.t Tk.h)) rfl ?_; refine GO.move rfl rfl ?_; refine GO.idxS rfl rfl rfl ⟨rfl, by omega⟩ ?_; refine GO.fieldAddr rfl rfl ?_; refine GO.loadQ rfl rfl rfl Tk.h (by assumption) ?_; refine GO.move rfl rfl ?_; refine GO.idxS rfl rfl rfl ⟨rfl, by omega⟩ ?_; refine GO.load2 rfl rfl rfl Tk.h (by assumption) (by assumption) ?_; refine GO.alloc rfl fun b8 => ?_; refine GO.storeW rfl rfl Tk.h ⟨rfl, rfl⟩ (by simp [Value.oneCell']) ?_; refine GO.nil ?_; refine kthen_n ?_; refine G.seq ?_; refine G.region ?_; refine GO.fieldAddr rfl rfl ?_; refine GO.load1 rfl rfl rfl Tk.h rfl ?_; refine GO.not rfl rfl ?_; refine GO.move rfl rfl ?_; refine GO.gF rfl rfl rfl rfl ?_; refine GO.gF rfl rfl rfl rfl ?_; refine GO.gF rfl rfl rfl rfl ?_; refine GO.gF rfl rfl rfl rfl ?_; refine GO.gF rfl rfl rfl rfl ?_; refine GO.pickF rfl rfl rfl ?_; refine GO.nil ?_; refine kthen_n ?_; refine G.condF rfl rfl ?_; refine G.skip ?_; refine kblock_n ?_; refine kthen_n ?_; refine G.region ?_; refine GO.move rfl rfl ?_; refine GO.addi rfl rfl rfl (by omega) ?_; refine GO.assign rfl rfl ?_; refine GO.nil ?_; refine kthen_n ?_)
            refine ⟨j + 1, _, ⟨by omega, rfl⟩, by omega, ?_, ?_⟩
            · rw [hsn]
              (refine SubE.c rfl rfl ?_; refine SubE.c rfl rfl ?_; refine SubE.c rfl rfl ?_; refine SubE.c rfl rfl ?_; refine SubE.c rfl rfl ?_; refine SubE.c rfl rfl ?_; exact SubE.n)
            · ((refine Sb.c (Tk.t Tk.h) ?_; refine Sb.c (Tk.t Tk.h) ?_; refine Sb.c (Tk.t Tk.h) ?_; refine Sb.c (Tk.t Tk.h) ?_); (refine Sb.s ?_; exact Sb.r))
          | false =>
            have hsi := hsi rfl
            dsimp only at hsi
            obtain ⟨m, rfl⟩ := Int.eq_ofNat_of_zero_le hsi.1
            have hmn : m < n := by omega
            have hnu : nulS (EO o) (false, (m : Int)) = o m := by unfold nulS EO; rfl
            rw [hnu] at hsn
            cases ho : o m with
            | true =>
              rw [ho, if_pos rfl] at hsn
              (refine G.skip ?_; refine kthen_n ?_; refine G.seq ?_; refine G.block ?_; refine G.seq ?_; refine G.region ?_; refine GO.fieldAddr rfl rfl ?_; refine GO.load1 rfl rfl rfl (Tk.t (Tk.t Tk.h)) rfl ?_; refine GO.move rfl rfl ?_; refine GO.idxS rfl rfl rfl ⟨rfl, by omega⟩ ?_; refine GO.fieldAddr rfl rfl ?_; refine GO.loadQ rfl rfl rfl Tk.h (by assumption) ?_; refine GO.move rfl rfl ?_; refine GO.idxS rfl rfl rfl ⟨rfl, by omega⟩ ?_; refine GO.load2 rfl rfl rfl Tk.h (by assumption) (by assumption) ?_; refine GO.alloc rfl fun b8 => ?_; refine GO.storeW rfl rfl Tk.h ⟨rfl, rfl⟩ (by simp [Value.oneCell']) ?_; refine GO.nil ?_; refine kthen_n ?_; refine G.seq ?_; refine G.region ?_; refine GO.fieldAddr rfl rfl ?_; refine GO.load1 rfl rfl rfl Tk.h rfl ?_; refine GO.not rfl rfl ?_; refine GO.move rfl rfl ?_; refine GO.gT rfl rfl rfl ?_; refine GO.move rfl rfl ?_; refine GO.gT rfl rfl rfl ?_; refine GO.fieldAddr rfl rfl ?_; refine GO.gT rfl rfl rfl ?_; refine GO.load1 rfl rfl rfl Tk.h rfl ?_; refine GO.gT rfl rfl rfl ?_; refine GO.idxS rfl rfl rfl ⟨rfl, by omega⟩ ?_; refine GO.gT rfl rfl rfl ?_; refine GO.load1 rfl rfl rfl (Tk.t (Tk.t Tk.h)) (rowV_get1 (by assumption)) ?_; refine GO.pickT rfl rfl rfl ?_; refine GO.nil ?_; refine kthen_n ?_; refine G.condT rfl (by assumption) ?_; refine G.region ?_; refine GO.move rfl rfl ?_; refine GO.addi rfl rfl rfl (by omega) ?_; refine GO.assign rfl rfl ?_; refine GO.nil ?_; refine kblock_n ?_; refine kthen_n ?_; refine G.region ?_; refine GO.move rfl rfl ?_; refine GO.addi rfl rfl rfl (by omega) ?_; refine GO.assign rfl rfl ?_; refine GO.nil ?_; refine kthen_n ?_)
              refine ⟨j + 1, _, ⟨by omega, rfl⟩, by omega, ?_, ?_⟩
              · rw [hsn]
                (refine SubE.c rfl rfl ?_; refine SubE.c rfl rfl ?_; refine SubE.c rfl rfl ?_; refine SubE.c rfl rfl ?_; refine SubE.c rfl rfl ?_; refine SubE.c rfl rfl ?_; exact SubE.n)
              · ((refine Sb.c (Tk.t Tk.h) ?_; refine Sb.c (Tk.t Tk.h) ?_; refine Sb.c (Tk.t Tk.h) ?_; refine Sb.c (Tk.t Tk.h) ?_); (refine Sb.s ?_; exact Sb.r))
            | false =>
              rw [ho, if_neg (by simp)] at hsn
              (refine G.skip ?_; refine kthen_n ?_; refine G.seq ?_; refine G.block ?_; refine G.seq ?_; refine G.region ?_; refine GO.fieldAddr rfl rfl ?_; refine GO.load1 rfl rfl rfl (Tk.t (Tk.t Tk.h)) rfl ?_; refine GO.move rfl rfl ?_; refine GO.idxS rfl rfl rfl ⟨rfl, by omega⟩ ?_; refine GO.fieldAddr rfl rfl ?_; refine GO.loadQ rfl rfl rfl Tk.h (by assumption) ?_; refine GO.move rfl rfl ?_; refine GO.idxS rfl rfl rfl ⟨rfl, by omega⟩ ?_; refine GO.load2 rfl rfl rfl Tk.h (by assumption) (by assumption) ?_; refine GO.alloc rfl fun b8 => ?_; refine GO.storeW rfl rfl Tk.h ⟨rfl, rfl⟩ (by simp [Value.oneCell']) ?_; refine GO.nil ?_; refine kthen_n ?_; refine G.seq ?_; refine G.region ?_; refine GO.fieldAddr rfl rfl ?_; refine GO.load1 rfl rfl rfl Tk.h rfl ?_; refine GO.not rfl rfl ?_; refine GO.move rfl rfl ?_; refine GO.gT rfl rfl rfl ?_; refine GO.move rfl rfl ?_; refine GO.gT rfl rfl rfl ?_; refine GO.fieldAddr rfl rfl ?_; refine GO.gT rfl rfl rfl ?_; refine GO.load1 rfl rfl rfl Tk.h rfl ?_; refine GO.gT rfl rfl rfl ?_; refine GO.idxS rfl rfl rfl ⟨rfl, by omega⟩ ?_; refine GO.gT rfl rfl rfl ?_; refine GO.load1 rfl rfl rfl (Tk.t (Tk.t Tk.h)) (rowV_get1 (by assumption)) ?_; refine GO.pickT rfl rfl rfl ?_; refine GO.nil ?_; refine kthen_n ?_; refine G.condF rfl (by assumption) ?_; refine G.skip ?_; refine kblock_n ?_; refine kthen_n ?_; refine G.region ?_; refine GO.move rfl rfl ?_; refine GO.addi rfl rfl rfl (by omega) ?_; refine GO.assign rfl rfl ?_; refine GO.nil ?_; refine kthen_n ?_)
              refine ⟨j + 1, _, ⟨by omega, rfl⟩, by omega, ?_, ?_⟩
              · rw [hsn]
                (refine SubE.c rfl rfl ?_; refine SubE.c rfl rfl ?_; refine SubE.c rfl rfl ?_; refine SubE.c rfl rfl ?_; refine SubE.c rfl rfl ?_; refine SubE.c rfl rfl ?_; exact SubE.n)
              · ((refine Sb.c (Tk.t Tk.h) ?_; refine Sb.c (Tk.t Tk.h) ?_; refine Sb.c (Tk.t Tk.h) ?_; refine Sb.c (Tk.t Tk.h) ?_); (refine Sb.s ?_; exact Sb.r))
        · have e : j = ss.length := by omega
          subst e
          rw [List.take_length]
          (refine G.exit ?_; refine kthen_x ?_; refine kthen_x ?_; refine kblock_x ?_; refine kthen_n ?_; refine G.seq ?_; refine G.region ?_; refine GO.move rfl rfl ?_; refine GO.gti rfl rfl rfl ?_; refine GO.nil ?_; refine kthen_n ?_)
          refine G.condD rfl (fun h12 => ?_) (fun h12 => ?_)
          · (refine G.seq ?_; refine G.region ?_; refine GO.build0 rfl ?_; refine GO.storeW rfl rfl (Tk.t (Tk.t (Tk.t Tk.h))) ⟨rfl, rfl⟩ (by simp [Value.oneCell']) ?_; refine GO.assign rfl rfl ?_; refine GO.nil ?_; refine kthen_n ?_; refine G.ret ?_; refine kblock_r ?_; refine kthen_r ?_; refine kthen_r ?_; refine kblock_r ?_; refine kthen_r ?_)
            refine KF2.r2 rfl (RV.cW rfl rfl (Tk.h) rfl) (RV.t rfl) (.inl ⟨⟨_, hpm, by show 12 < cntE (EO o) ss; omega⟩, rfl, rfl⟩) (ImpS.sb ?_)
            ((refine Sb.c (Tk.t Tk.h) ?_); (refine Sb.s ?_; refine Sb.s ?_; refine Sb.s ?_; exact Sb.r))
          · (refine G.skip ?_; refine kblock_n ?_; refine kthen_n ?_; refine G.region ?_; refine GO.move rfl rfl ?_; refine GO.addi rfl rfl rfl (by omega) ?_; refine GO.assign rfl rfl ?_; refine GO.nil ?_; refine kthen_n ?_)
            refine ⟨i + 1, ⟨by omega, fun j p hj hjp => ?_⟩, by omega, ?_, ?_⟩
            · by_cases e : j = i
              · subst e
                rw [hpk] at hjp
                injection hjp with hjp
                subst hjp
                show cntE (EO o) ss ≤ 12
                omega
              · exact hall j p (by omega) hjp
            · (refine SubE.c rfl rfl ?_; refine SubE.c rfl rfl ?_; refine SubE.c rfl rfl ?_; refine SubE.c rfl rfl ?_; exact SubE.n)
            · ((refine Sb.c Tk.h ?_; refine Sb.c Tk.h ?_; refine Sb.c Tk.h ?_; refine Sb.c Tk.h ?_); (exact Sb.r))
    · have e : i = C.prods.length := by omega
      subst e
      have h12 : ∀ p ∈ C.prods, cntE (EO o) p.2 ≤ 12 := fun p hp => by
        obtain ⟨j, hj⟩ := List.getElem?_of_mem hp
        exact hall j p (List.getElem?_eq_some_iff.1 hj).1 hj
      (refine G.exit ?_; refine kthen_x ?_; refine kthen_x ?_; refine kblock_x ?_; refine kthen_n ?_; refine G.seq ?_; refine G.region ?_; refine GO.fieldAddr rfl rfl ?_; refine GO.load1 rfl rfl rfl (Tk.t (Tk.t Tk.h)) rfl ?_)
      refine GO.buildPart1 (built_cnf _) rfl rfl ?_
      (refine GO.alloc rfl fun b9 => ?_; refine GO.storeW rfl rfl Tk.h ⟨rfl, rfl⟩ (by simp [Value.oneCell']) ?_; refine GO.nil ?_; refine kthen_n ?_; refine G.seq ?_; refine G.seq ?_; refine G.region ?_; refine GO.assign rfl rfl ?_; refine GO.nil ?_; refine kthen_n ?_; refine G.block ?_)
      refine G.loop3 (fun (k : Nat) (_ : Value) (_ : HP) => [(1, .pointer (some ⟨b1, 0, none⟩)), (2, .pointer (some ⟨b2, 0, none⟩)), (4, .slice (some ⟨be, 0, none⟩) n n), (9, .pointer (some ⟨b9, 0, none⟩)), (10, i64 (k : Nat))]) (fun _ lv q' => pt b9 (row [i64 (n : Nat), lv] 24) :: q' :: pt be (row (boolsV o n) 4) :: pt b1 (row [i64 (n : Nat), .slice a0 C.prods.length cap0] 24) :: pt b2 (row [i64 0, .slice none 0 0] 24) :: F)
        (fun k lv q' => k ≤ C.prods.length ∧ Ext q q' ∧ PrsR q' lv (withF (EO o) (C.prods.take k)) ∧ (withF (EO o) (C.prods.take k)).length ≤ k * 4096 ∧ ∀ a ∈ withF (EO o) (C.prods.take k), ¬ 1048576 < a.2.length) (fun k _ _ => C.prods.length - k) 0 (.slice none 0 0) q ⟨Nat.zero_le _, Ext.refl q, ⟨[], ⟨none, 0, rfl, rfl, fun h => absurd h (by simp [withF])⟩, fun k p hk => by simp [withF] at hk⟩, Nat.le_refl _, fun a ha => by simp [withF] at ha⟩ ?_ ?_ ?_
      · (refine SubE.c rfl rfl ?_; refine SubE.c rfl rfl ?_; refine SubE.c rfl rfl ?_; refine SubE.c rfl rfl ?_; refine SubE.c rfl rfl ?_; exact SubE.n)
      · ((refine Sb.c Tk.h ?_; refine Sb.c Tk.h ?_; refine Sb.c Tk.h ?_; refine Sb.c Tk.h ?_; refine Sb.c Tk.h ?_); (exact Sb.r))
      · rintro k lv q' ⟨hk, hext, hL, hLn, hLb⟩
        obtain ⟨al, cl, rfl⟩ := hL.form
        (refine G.seq ?_; refine G.seq ?_; refine G.region ?_; refine GO.move rfl rfl ?_; refine GO.fieldAddr rfl rfl ?_; refine GO.load1 rfl rfl rfl (Tk.t (Tk.t (Tk.t Tk.h))) rfl ?_; refine GO.lenS rfl rfl ?_; refine GO.lti rfl rfl rfl ?_; refine GO.nil ?_; refine kthen_n ?_)
        refine G.condD rfl (fun hlt => ?_) (fun hge => ?_)
        · obtain ⟨⟨h, ss⟩, hpk⟩ : ∃ p, C.prods[k]? = some p := ⟨_, List.getElem?_eq_getElem (by omega)⟩
          have hpm := List.mem_of_getElem? hpk
          have hbl := hB.2 _ hpm
          have hsin := (hin _ hpm).2
          have hc12 := h12 _ hpm
          obtain ⟨b0, o0, bv, rfl, _, r1, r2, hss, hcb⟩ := hp.at hpk
          dsimp only at hbl hsin r1 r2 hss hc12
          replace r1 := hext.sup _ _ r1
          replace r2 := hext.sup _ _ r2
          replace hss := hss.sup hext.sup
          have hfo : withF (EO o) (C.prods.take (k + 1)) = leftF (EO o) h (withF (EO o) (C.prods.take k)) [] ss := foldl_take hpk
          have hp12 : 2 ^ cntE (EO o) ss ≤ 4096 := Nat.pow_le_pow_right (by omega) hc12
          have hcall := rleft_spec o n be ss q' _ (.slice none 0 0) bv _ [] h hL (syms_nil q') hss hcb hsin (by simpa using hbl) (by omega) hLb
          have hll := left_len (EO o) h ss [] (withF (EO o) (C.prods.take k))
          have hlb := left_body (E := EO o) (h := h) (kept := []) hLb (show ¬ 1048576 < ([] : List SymD).length + ss.length by simpa using hbl)
          rw [← hfo] at hcall hll hlb
          obtain ⟨ab, capb, rfl⟩ := hss.form
          (refine G.skip ?_; refine kthen_n ?_; refine G.seq ?_; refine G.block ?_)
          refine G.draw 15 (by kernel_rfl) ?_
          ((apply GQ.step; focus (intro Z; refine GO.fieldAddr rfl rfl ?_; exact KQ.z)); (apply GQ.step; focus (intro Z; refine GO.load1 rfl rfl rfl Tk.h rfl ?_; exact KQ.z)); (apply GQ.step; focus (intro Z; refine GO.fieldAddr rfl rfl ?_; exact KQ.z)); (apply GQ.step; focus (intro Z; refine GO.load1 rfl rfl rfl (Tk.t (Tk.t (Tk.t Tk.h))) rfl ?_; exact KQ.z)); (apply GQ.step; focus (intro Z; refine GO.move rfl rfl ?_; exact KQ.z)); (apply GQ.step; focus (intro Z; refine GO.idxS rfl rfl rfl ⟨rfl, by omega⟩ ?_; exact KQ.z)); (apply GQ.step; focus (intro Z; refine GO.fieldAddr rfl rfl ?_; exact KQ.z)); (apply GQ.step; focus (intro Z; refine GO.loadQ rfl rfl rfl (Tk.t Tk.h) (by assumption) ?_; exact KQ.z)); (apply GQ.step; focus (intro Z; refine GO.fieldAddr rfl rfl ?_; exact KQ.z)); (apply GQ.step; focus (intro Z; refine GO.load1 rfl rfl rfl (Tk.t (Tk.t (Tk.t Tk.h))) rfl ?_; exact KQ.z)); (apply GQ.step; focus (intro Z; refine GO.move rfl rfl ?_; exact KQ.z)); (apply GQ.step; focus (intro Z; refine GO.idxS rfl rfl rfl ⟨rfl, by omega⟩ ?_; exact KQ.z)); (apply GQ.step; focus (intro Z; refine GO.fieldAddr rfl rfl ?_; exact KQ.z)); (apply GQ.step; focus (intro Z; refine GO.loadQ rfl rfl rfl (Tk.t Tk.h) (by assumption) ?_; exact KQ.z)); (apply GQ.step; focus (intro Z; refine GO.move rfl rfl ?_; exact KQ.z)); refine GQ.nil ?_)
          skip
          refine GO.call5 rfl rfl rfl rfl rfl rfl (hcall) (Tks.c (Tk.t Tk.h) (Tks.c (Tk.t Tk.h) Tks.n)) ?_
          rintro lv2 _ ⟨q2, he2, hL2, rfl⟩
          obtain ⟨al2, cl2, rfl⟩ := hL2.form
          (refine GO.fieldAddr rfl rfl ?_; refine GO.store1 rfl rfl rfl (Tk.t (Tk.t Tk.h)) (by simp) ?_; refine GO.nil ?_; refine kblock_n ?_; refine kthen_n ?_; refine G.region ?_; refine GO.move rfl rfl ?_; refine GO.addi rfl rfl rfl (by omega) ?_; refine GO.assign rfl rfl ?_; refine GO.nil ?_; refine kthen_n ?_)
          refine ⟨k + 1, _, q2, ⟨by omega, hext.trans he2, hL2, by omega, hlb⟩, by omega, ?_, ?_⟩
          · (refine SubE.c rfl rfl ?_; refine SubE.c rfl rfl ?_; refine SubE.c rfl rfl ?_; refine SubE.c rfl rfl ?_; refine SubE.c rfl rfl ?_; exact SubE.n)
          · ((refine Sb.c Tk.h ?_; refine Sb.c Tk.h ?_; refine Sb.c Tk.h ?_; refine Sb.c Tk.h ?_; refine Sb.c Tk.h ?_); (exact Sb.r))
        · have e : k = C.prods.length := by omega
          rw [e, List.take_length] at hL
          rw [e, List.take_length]
          (refine G.exit ?_; refine kthen_x ?_; refine kthen_x ?_; refine kblock_x ?_; refine kthen_n ?_; refine G.seq ?_; refine G.region ?_; refine GO.loadW rfl rfl rfl Tk.h rfl ?_; refine GO.storeW rfl rfl (Tk.t (Tk.t (Tk.t (Tk.t Tk.h)))) ⟨rfl, rfl⟩ (by simp [Value.oneCell']) ?_; refine GO.assign rfl rfl ?_; refine GO.nil ?_; refine kthen_n ?_; refine G.ret ?_)
          refine KF2.r2 rfl (RV.cW rfl rfl (Tk.h) rfl) (RV.t rfl) (.inr ⟨h12, _, q', hext, rfl, ⟨_, by rw [hn], hL⟩, rfl⟩) (ImpS.sb ?_)
          ((refine Sb.c (Tk.t (Tk.t Tk.h)) ?_); (refine Sb.s ?_; refine Sb.s ?_; refine Sb.s ?_; refine Sb.s ?_; exact Sb.r))
end Go.Proofs.Ytcemehocbemfmaa
namespace Go.Proofs.Ytcemehocbemfmaa
open Go
theorem nul_congr {o o' : Nat → Bool} {n : Nat} (h : ∀ i, i < n → o i = o' i) {s : SymD} (hs : symIn n s) : nulS (EO o) s = nulS (EO o') s := by
  obtain ⟨l, m⟩ := s
  unfold nulS EO
  cases l with
  | true => rfl
  | false =>
    have := hs rfl
    dsimp only at this
    rw [h m.toNat (by omega)]
theorem subs_congr {E E' : Int → Bool} : ∀ {ss : List SymD}, (∀ s ∈ ss, nulS E s = nulS E' s) → subs E ss = subs E' ss ∧ cntE E ss = cntE E' ss
  | [], _ => ⟨rfl, rfl⟩
  | s :: r, h => by
    obtain ⟨h1, h2⟩ := subs_congr (ss := r) fun x hx => h x (List.mem_cons_of_mem _ hx)
    have h3 := h s (List.mem_cons_self ..)
    constructor
    · unfold subs; rw [h1, h3]
    · rw [cnt_cons, cnt_cons, h2, h3]
theorem with_congr {o o' : Nat → Bool} {n : Nat} {ps : List ProdD} (hin : ∀ p ∈ ps, prodIn n p) (h : ∀ i, i < n → o i = o' i) : (∀ p, WithP (EO o) ps p ↔ WithP (EO o') ps p) ∧ ∀ p ∈ ps, cntE (EO o) p.2 = cntE (EO o') p.2 := by
  have key := fun p (hp : p ∈ ps) => subs_congr (ss := p.2) fun s hs => nul_congr h ((hin p hp).2 s hs)
  refine ⟨fun p => ?_, fun p hp => (key p hp).2⟩
  unfold WithP
  constructor
  · rintro ⟨b, h1, h2, h3⟩
    exact ⟨b, h1, by rw [← (key _ h1).1]; exact h2, h3⟩
  · rintro ⟨b, h1, h2, h3⟩
    exact ⟨b, h1, by rw [(key _ h1).1]; exact h2, h3⟩
/-- What both answer is the same. -/
theorem without_end {ps : List ProdD} {n : Nat} (hin : ∀ p ∈ ps, prodIn n p) {o : Nat → Bool} (hR : Reach (cloStep false) ps (fun _ => false) o) (hS : ∀ p ∈ ps, (cloStep false o p).2 = false) :
    (∀ p ∈ ps, cntE (EO o) p.2 = cntE (EO fun i => decide (leastS ps n (n + 1) (fun _ => -1) i = 0)) p.2) ∧ ∀ zs, Ups zs → (∀ p, p ∈ zs ↔ WithP (EO o) ps p) → zs = withF (EO fun i => decide (leastS ps n (n + 1) (fun _ => -1) i = 0)) ps := by
  have hoo : ∀ i, i < n → o i = decide (leastS ps n (n + 1) (fun _ => -1) i = 0) := fun i hi => by rw [empty_end hin hR hS i hi, leastS_end hin i hi]
  obtain ⟨h1, h2⟩ := with_congr hin hoo
  refine ⟨h2, fun zs hu hm => Ups.eq hu (withF_ups _ ps [] List.Pairwise.nil) fun p => ?_⟩
  rw [hm, h1]
  have := withF_mem (EO fun i => decide (leastS ps n (n + 1) (fun _ => -1) i = 0)) p ps []
  unfold withF
  rw [this]
  simp
theorem cnf_none (q : HP) : CnfR q (.agg #[i64 0, .slice none 0 0]) ⟨0, []⟩ := ⟨_, rfl, [], ⟨none, 0, rfl, rfl, fun h => absurd h (by simp)⟩, fun k p hk => by simp at hk⟩
theorem fits_none : Fits ⟨0, []⟩ := ⟨by simp, fun p hp => by simp at hp⟩
theorem with_fits {C : CnfD} {E : Int → Bool} {zs : List ProdD} (hB : ¬ 1048576 < C.prods.length ∧ ∀ p ∈ C.prods, ¬ 1048576 < p.2.length) (hl : zs.length ≤ C.prods.length * 4096) (hm : ∀ p ∈ zs, WithP E C.prods p) : Fits ⟨C.nts, zs⟩ :=
  ⟨by show zs.length * 32 ≤ _; omega, fun p hp => by
    obtain ⟨b, h1, h2, _⟩ := hm p hp
    obtain ⟨m, _, h3⟩ := mem_mask _ _ _ h2
    have h4 := mask_len E b m
    have h5 := hB.2 _ h1
    dsimp only at h5
    rw [← h3] at h4
    omega⟩
attribute [local irreducible] G GO GR GT Fn FnV pt init exs pur sat own ImpS symsV
set_option maxRecDepth 40000 in
set_option maxHeartbeats 16000000 in
theorem wout_law (q : HP) (v : Value) (C : CnfD) (hv : CnfC q v C) (hz : Fits C) (hB : ¬ 1048576 < C.prods.length ∧ ∀ p ∈ C.prods, ¬ 1048576 < p.2.length) :
    Fn Try.prog 7 #[v] [q] (fun r Q => r = .bool true ∧ Q = [q]) := by
  have hcopy := copy_spec q v C hv.cnf hz
  have hck := rcheck_spec q v C hv.cnf hz
  have heng := fun (z : HP) (c : Value) (hc : CnfR z c C) => without_spec z c C hc hz ⟨by omega, fun p hp => by have := hB.2 p hp; omega⟩
  have hv0 := hv
  obtain ⟨pv, rfl, hp⟩ := hv
  obtain ⟨a0, cap0, rfl⟩ := hp.form
  refine Fn.mk2 Try.func7 rfl rfl fun w0 F => ?_
  cases hok : okC C with
  | false =>
    rw [hok, if_neg (by simp)] at hck
    (refine G.seq ?_; refine G.region ?_; refine GO.box rfl rfl rfl fun b1 => ?_; refine GO.assign rfl rfl ?_; refine GO.nil ?_; refine kthen_n ?_; refine G.seq ?_; refine G.region ?_; refine GO.loadW rfl rfl rfl Tk.h rfl ?_)
    refine GO.call1 rfl rfl (hcopy) (Tks.c (Tk.t Tk.h) Tks.n) ?_
    rintro c _ ⟨z, hz1, rfl⟩
    skip
    refine GO.call1 rfl rfl (heng z c hz1) (Tks.c Tk.h Tks.n) ?_
    rintro _ _ (⟨_, rfl, rfl⟩ | ⟨h, _⟩)
    · (refine GO.move rfl rfl ?_; refine GO.extract rfl rfl rfl ?_; refine GO.extract rfl rfl rfl ?_; refine GO.alloc rfl fun b3 => ?_; refine GO.storeW rfl rfl Tk.h ⟨rfl, rfl⟩ (by simp [Value.oneCell']) ?_; refine GO.assign rfl rfl ?_; refine GO.nil ?_; refine kthen_n ?_; refine G.seq ?_; refine G.seq ?_; refine G.region ?_)
      refine GO.call0 rfl (head_spec) Tks.n ?_
      rintro _ _ ⟨rfl, rfl⟩
      (refine GO.not rfl rfl ?_; refine GO.nil ?_; refine kthen_n ?_; refine G.condF rfl rfl ?_; refine G.skip ?_; refine kthen_n ?_; refine G.seq ?_; refine G.seq ?_; refine G.region ?_; refine GO.loadW rfl rfl rfl (Tk.t (Tk.t (Tk.t Tk.h))) rfl ?_)
      refine GO.call1 rfl rfl (hck) (Tks.c (Tk.t (Tk.t Tk.h)) Tks.n) ?_
      rintro _ _ ⟨rfl, rfl⟩
      (refine GO.nei rfl rfl rfl ?_; refine GO.nil ?_; refine kthen_n ?_; refine G.condT rfl rfl ?_; refine G.seq ?_; refine G.region ?_; refine GO.move rfl rfl ?_; refine GO.eqT rfl rfl rfl rfl ?_; refine GO.assign rfl rfl ?_; refine GO.nil ?_; refine kthen_n ?_; refine G.ret ?_; refine kthen_r ?_)
      refine KF2.r1 rfl (RV.t rfl) ⟨rfl, rfl⟩ (ImpS.sb ?_)
      ((refine Sb.c Tk.h ?_); (refine Sb.s ?_; refine Sb.s ?_; refine Sb.s ?_; exact Sb.r))
    · rw [hok] at h; cases h
  | true =>
    rw [hok, if_pos rfl] at hck
    obtain ⟨⟨hn1, hn2⟩, hin⟩ := okC_in hok
    obtain ⟨n, hn⟩ := Int.eq_ofNat_of_zero_le (show 0 ≤ C.nts by omega)
    rw [hn] at hin
    have href := rwithout_spec q _ C n hv0 hz hn (by omega) hin hB
    (refine G.seq ?_; refine G.region ?_; refine GO.box rfl rfl rfl fun b1 => ?_; refine GO.assign rfl rfl ?_; refine GO.nil ?_; refine kthen_n ?_; refine G.seq ?_; refine G.region ?_; refine GO.loadW rfl rfl rfl Tk.h rfl ?_)
    refine GO.call1 rfl rfl (hcopy) (Tks.c (Tk.t Tk.h) Tks.n) ?_
    rintro c _ ⟨z, hz1, rfl⟩
    skip
    refine GO.call1 rfl rfl (heng z c hz1) (Tks.c Tk.h Tks.n) ?_
    rintro _ _ (⟨h, _⟩ | ⟨_, o, hR, hS, hw⟩)
    · rw [hok] at h; cases h
    · obtain ⟨hcn, hzs⟩ := without_end hin hR hS
      rcases hw with ⟨⟨p0, hp0, hp12⟩, rfl, rfl⟩ | ⟨hle, v2, zs, z2, rfl, hv2, hu, hm, hzl, rfl⟩
      · (refine GO.move rfl rfl ?_; refine GO.extract rfl rfl rfl ?_; refine GO.extract rfl rfl rfl ?_; refine GO.alloc rfl fun b3 => ?_; refine GO.storeW rfl rfl Tk.h ⟨rfl, rfl⟩ (by simp [Value.oneCell']) ?_; refine GO.assign rfl rfl ?_; refine GO.nil ?_; refine kthen_n ?_; refine G.seq ?_; refine G.seq ?_; refine G.region ?_)
        refine GO.call0 rfl (head_spec) Tks.n ?_
        rintro _ _ ⟨rfl, rfl⟩
        (refine GO.not rfl rfl ?_; refine GO.nil ?_; refine kthen_n ?_; refine G.condF rfl rfl ?_; refine G.skip ?_; refine kthen_n ?_; refine G.seq ?_; refine G.seq ?_; refine G.region ?_; refine GO.loadW rfl rfl rfl (Tk.t (Tk.t (Tk.t Tk.h))) rfl ?_)
        refine GO.call1 rfl rfl (hck) (Tks.c (Tk.t (Tk.t Tk.h)) Tks.n) ?_
        rintro _ _ ⟨rfl, rfl⟩
        (refine GO.neF rfl rfl rfl rfl ?_; refine GO.nil ?_; refine kthen_n ?_; refine G.condF rfl rfl ?_; refine G.skip ?_; refine kthen_n ?_; refine G.seq ?_; refine G.region ?_; refine GO.loadW rfl rfl rfl (Tk.t (Tk.t (Tk.t Tk.h))) rfl ?_)
        refine GO.call1 rfl rfl (href) (Tks.c Tk.h Tks.n) ?_
        rintro _ _ (⟨_, rfl, rfl⟩ | ⟨hle, _⟩)
        · (refine GO.move rfl rfl ?_; refine GO.extract rfl rfl rfl ?_; refine GO.extract rfl rfl rfl ?_; refine GO.alloc rfl fun b5 => ?_; refine GO.storeW rfl rfl Tk.h ⟨rfl, rfl⟩ (by simp [Value.oneCell']) ?_; refine GO.assign rfl rfl ?_; refine GO.nil ?_; refine kthen_n ?_; refine G.seq ?_; refine G.region ?_; refine GO.move rfl rfl ?_; refine GO.move rfl rfl ?_; refine GO.eqT rfl rfl rfl rfl ?_; refine GO.move rfl rfl ?_; refine GO.gT rfl rfl rfl ?_; refine GO.loadW rfl rfl rfl (Tk.t (Tk.t Tk.h)) rfl ?_; refine GO.gT rfl rfl rfl ?_; refine GO.loadW rfl rfl rfl Tk.h rfl ?_; refine GO.gT rfl rfl rfl ?_)
          refine GO.call2 rfl rfl rfl (same_spec z q _ _ ⟨0, []⟩ (cnf_none z) (cnf_none q) fits_none) (Tks.c (Tk.t (Tk.t (Tk.t Tk.h))) (Tks.c (Tk.t Tk.h) Tks.n)) ?_
          rintro _ _ ⟨rfl, rfl⟩
          (refine GO.pickT rfl rfl rfl ?_; refine GO.assign rfl rfl ?_; refine GO.nil ?_; refine kthen_n ?_; refine G.ret ?_)
          refine KF2.r1 rfl (RV.t rfl) ⟨rfl, rfl⟩ (ImpS.sb ?_)
          ((refine Sb.c (Tk.t Tk.h) ?_); (refine Sb.s ?_; refine Sb.s ?_; refine Sb.s ?_; refine Sb.s ?_; exact Sb.r))
        · have := hle p0 hp0
          rw [← hcn p0 hp0] at this
          omega
      · have hfit := with_fits hB hzl (fun p hp => (hm p).1 hp)
        obtain rfl := hzs zs hu hm
        obtain ⟨pv2, rfl, hp2⟩ := hv2
        have hp2' := hp2
        obtain ⟨a2, cap2, rfl⟩ := hp2.form
        (refine GO.move rfl rfl ?_; refine GO.extract rfl rfl rfl ?_; refine GO.extract rfl rfl rfl ?_; refine GO.alloc rfl fun b3 => ?_; refine GO.storeW rfl rfl Tk.h ⟨rfl, rfl⟩ (by simp [Value.oneCell']) ?_; refine GO.assign rfl rfl ?_; refine GO.nil ?_; refine kthen_n ?_; refine G.seq ?_; refine G.seq ?_; refine G.region ?_)
        refine GO.call0 rfl (head_spec) Tks.n ?_
        rintro _ _ ⟨rfl, rfl⟩
        (refine GO.not rfl rfl ?_; refine GO.nil ?_; refine kthen_n ?_; refine G.condF rfl rfl ?_; refine G.skip ?_; refine kthen_n ?_; refine G.seq ?_; refine G.seq ?_; refine G.region ?_; refine GO.loadW rfl rfl rfl (Tk.t (Tk.t (Tk.t (Tk.t Tk.h)))) rfl ?_)
        refine GO.call1 rfl rfl (hck) (Tks.c (Tk.t (Tk.t (Tk.t Tk.h))) Tks.n) ?_
        rintro _ _ ⟨rfl, rfl⟩
        (refine GO.neF rfl rfl rfl rfl ?_; refine GO.nil ?_; refine kthen_n ?_; refine G.condF rfl rfl ?_; refine G.skip ?_; refine kthen_n ?_; refine G.seq ?_; refine G.region ?_; refine GO.loadW rfl rfl rfl (Tk.t (Tk.t (Tk.t (Tk.t Tk.h)))) rfl ?_)
        refine GO.call1 rfl rfl (href) (Tks.c Tk.h Tks.n) ?_
        rintro _ _ (⟨⟨p0, hp0, hp12⟩, _⟩ | ⟨_, v3, q', hext, rfl, hv3, rfl⟩)
        · have := hle p0 hp0
          rw [hcn p0 hp0] at this
          omega
        · have hsame := fun v2 h2 => same_spec z2 q' v2 v3 _ h2 hv3 hfit
          obtain ⟨pv3, rfl, hp3⟩ := hv3
          have hsame := hsame _ ⟨_, rfl, hp2'⟩
          obtain ⟨a3, cap3, rfl⟩ := hp3.form
          (refine GO.move rfl rfl ?_; refine GO.extract rfl rfl rfl ?_; refine GO.extract rfl rfl rfl ?_; refine GO.alloc rfl fun b5 => ?_; refine GO.storeW rfl rfl Tk.h ⟨rfl, rfl⟩ (by simp [Value.oneCell']) ?_; refine GO.assign rfl rfl ?_; refine GO.nil ?_; refine kthen_n ?_; refine G.seq ?_; refine G.region ?_; refine GO.move rfl rfl ?_; refine GO.move rfl rfl ?_; refine GO.eqT rfl rfl rfl rfl ?_; refine GO.move rfl rfl ?_; refine GO.gT rfl rfl rfl ?_; refine GO.loadW rfl rfl rfl (Tk.t (Tk.t Tk.h)) rfl ?_; refine GO.gT rfl rfl rfl ?_; refine GO.loadW rfl rfl rfl Tk.h rfl ?_; refine GO.gT rfl rfl rfl ?_)
          refine GO.call2 rfl rfl rfl (hsame) (Tks.c (Tk.t (Tk.t (Tk.t Tk.h))) (Tks.c (Tk.t Tk.h) Tks.n)) ?_
          rintro _ _ ⟨rfl, rfl⟩
          (refine GO.pickT rfl rfl rfl ?_; refine GO.assign rfl rfl ?_; refine GO.nil ?_; refine kthen_n ?_; refine G.ret ?_)
          refine KF2.r1 rfl (RV.t rfl) ⟨rfl, rfl⟩ (ImpS.trans (ImpS.sb (M := q' :: F) (by ((refine Sb.c (Tk.t Tk.h) ?_); (refine Sb.s ?_; refine Sb.s ?_; refine Sb.s ?_; refine Sb.s ?_; refine Sb.s ?_; exact Sb.r)))) (ImpS.ext hext ImpS.refl))
end Go.Proofs.Ytcemehocbemfmaa
namespace Go.Proofs.Ytcemehocbemfmaa
open Go
/-- A body has a word of so many labels. -/
inductive LenB (C : CnfD) : List SymD → Nat → Prop
  | nil : LenB C [] 0
  | lab {n : Int} {r : List SymD} {k : Nat} (h : LenB C r k) : LenB C ((true, n) :: r) (k + 1)
  | nt {A : Int} {b r : List SymD} {j k : Nat} (hp : (A, b) ∈ C.prods) (h1 : LenB C b j) (h2 : LenB C r k) : LenB C ((false, A) :: r) (j + k)
/-- What a nonterminal's number is. -/
def SoundS (C : CnfD) (s : Nat → Int) : Prop := ∀ A : Nat, s A ≠ -1 → ∃ b k, ((A : Int), b) ∈ C.prods ∧ LenB C b k ∧ s A = ((min 65 k : Nat) : Int)
theorem lenF_sound {C : CnfD} {s : Nat → Int} {n : Int} (hs : SoundS C s) : ∀ {ss : List SymD} {m : Nat} {x : Int}, (∀ y ∈ ss, symIn n y) → m ≤ 65 → lenF s ss (m : Nat) = some x → ∃ k, LenB C ss k ∧ x = ((min 65 (m + k) : Nat) : Int)
  | [], m, x, _, hm, h => by
    unfold lenF at h
    injection h with h
    exact ⟨0, .nil, by omega⟩
  | (true, l) :: r, m, x, hin, hm, h => by
    unfold lenF at h
    rw [show (min 65 (((m : Nat) : Int) + 1)) = ((min 65 (m + 1) : Nat) : Int) by omega] at h
    obtain ⟨k, h1, h2⟩ := lenF_sound hs (fun y hy => hin y (List.mem_cons_of_mem _ hy)) (by omega) h
    exact ⟨k + 1, .lab h1, by omega⟩
  | (false, A) :: r, m, x, hin, hm, h => by
    unfold lenF at h
    split at h
    · cases h
    · rename_i hne
      have hA := hin (false, A) (List.mem_cons_self ..) rfl
      dsimp only at hA
      obtain ⟨a, rfl⟩ := Int.eq_ofNat_of_zero_le hA.1
      obtain ⟨b, j, h1, h2, h3⟩ := hs a hne
      rw [show (((a : Nat) : Int)).toNat = a from rfl, h3, show (min 65 (((m : Nat) : Int) + ((min 65 j : Nat) : Int))) = ((min 65 (m + min 65 j) : Nat) : Int) by omega] at h
      obtain ⟨k, h4, h5⟩ := lenF_sound hs (fun y hy => hin y (List.mem_cons_of_mem _ hy)) (by omega) h
      exact ⟨j + k, .nt h1 h2 h4, by omega⟩
theorem sho_sound {C : CnfD} (hok : okC C = true) {s : Nat → Int} (hR : Reach shoStep C.prods (fun _ => -1) s) : SoundS C s := by
  obtain ⟨_, hin⟩ := okC_in hok
  refine Reach.inv (J := SoundS C) (fun t p ht hp => ?_) hR fun A h => absurd rfl h
  have hpi := hin p hp
  intro A hA
  unfold shoStep at hA ⊢
  cases hl : lenF t p.2 0 with
  | none => rw [hl] at hA; exact ht A hA
  | some m =>
    rw [hl] at hA
    dsimp only at hA ⊢
    split at hA
    · rename_i hc; rw [if_pos hc]; exact ht A hA
    · rename_i hc
      rw [if_neg hc]
      dsimp only at hA ⊢
      by_cases e : A = p.1.toNat
      · subst e
        rw [upd_at]
        obtain ⟨k, h1, h2⟩ := lenF_sound (m := 0) ht hpi.2 (by omega) hl
        refine ⟨p.2, k, ?_, h1, by omega⟩
        rw [Int.toNat_of_nonneg hpi.1.1]; exact hp
      · rw [upd_ne _ _ e] at hA ⊢
        exact ht A hA
theorem sho_st {s : Nat → Int} {p : ProdD} {m : Int} (h : lenF s p.2 0 = some m) (hst : (shoStep s p).2 = false) : s p.1.toNat ≠ -1 ∧ s p.1.toNat ≤ m := by
  unfold shoStep at hst
  rw [h] at hst
  dsimp only at hst
  split at hst
  · assumption
  · cases hst
theorem sho_shorts {C : CnfD} (hok : okC C = true) {s : Nat → Int} (hR : Reach shoStep C.prods (fun _ => -1) s) : Shorts s C.nts.toNat := by
  obtain ⟨⟨hn1, hn2⟩, hin⟩ := okC_in hok
  have h0 : Shorts (fun _ => -1) C.nts.toNat := fun i _ => by show (-1 : Int) ≤ -1 ∧ (-1 : Int) ≤ 65; decide
  exact Reach.inv (J := fun s => Shorts s C.nts.toNat) (fun t p h1 hp => shoStep_in h1 (by rw [Int.toNat_of_nonneg (by omega)]; exact hin p hp)) hR h0
theorem lenF_le {C : CnfD} (hok : okC C = true) {s : Nat → Int} (hS : Shorts s C.nts.toNat) (hst : ∀ p ∈ C.prods, (shoStep s p).2 = false) {b : List SymD} {k : Nat} (h : LenB C b k) : (∀ y ∈ b, symIn C.nts y) → ∀ m : Int, 0 ≤ m → m ≤ 65 → ∃ x, lenF s b m = some x ∧ x ≤ min 65 (m + k) := by
  obtain ⟨⟨hn1, hn2⟩, hin⟩ := okC_in hok
  induction h with
  | nil => intro _ m h0 h1; exact ⟨m, rfl, by omega⟩
  | lab h ih =>
    intro hb m h0 h1
    obtain ⟨x, h2, h3⟩ := ih (fun y hy => hb y (List.mem_cons_of_mem _ hy)) (min 65 (m + 1)) (by omega) (by omega)
    exact ⟨x, h2, by omega⟩
  | @nt A b r j k hp h1 h2 ih1 ih2 =>
    intro hb m h0 hm
    have hpi := hin _ hp
    obtain ⟨y, h3, h4⟩ := ih1 hpi.2 0 (by omega) (by omega)
    have h5 := sho_st (p := (A, b)) h3 (hst _ hp)
    dsimp only at h5 hpi
    have h6 := hS A.toNat (by have := hpi.1; omega)
    obtain ⟨x, h7, h8⟩ := ih2 (fun y hy => hb y (List.mem_cons_of_mem _ hy)) (min 65 (m + s A.toNat)) (by omega) (by omega)
    refine ⟨x, ?_, by omega⟩
    unfold lenF
    rw [if_neg h5.1]
    exact h7
theorem sho_le {C : CnfD} (hok : okC C = true) {s : Nat → Int} (hR : Reach shoStep C.prods (fun _ => -1) s) (hst : ∀ p ∈ C.prods, (shoStep s p).2 = false) {A k : Nat} {b : List SymD} (hp : ((A : Int), b) ∈ C.prods) (h : LenB C b k) : s A ≠ -1 ∧ s A ≤ ((min 65 k : Nat) : Int) := by
  obtain ⟨_, hin⟩ := okC_in hok
  obtain ⟨x, h1, h2⟩ := lenF_le hok (sho_shorts hok hR) hst h (hin _ hp).2 0 (by omega) (by omega)
  have h3 := sho_st (p := (_, _)) h1 (hst _ hp)
  dsimp only at h3
  rw [show (((A : Nat) : Int)).toNat = A from rfl] at h3
  exact ⟨h3.1, by omega⟩
/-! ### Behind Without -/
theorem LenB.zero {C : CnfD} {k : Nat} (h : LenB C [] k) : k = 0 := by cases h; rfl
/-- D is C without the empty word; E: which have it. -/
structure WithR (C D : CnfD) (E : Int → Bool) : Prop where
  pr : ∀ p, p ∈ D.prods ↔ WithP E C.prods p
  em : ∀ A b, (A, b) ∈ C.prods → LenB C b 0 → E A = true
  me : ∀ A, (∃ p ∈ C.prods, (false, A) ∈ p.2) → E A = true → ∃ b, (A, b) ∈ C.prods ∧ LenB C b 0
theorem subs_len {C : CnfD} {E : Int → Bool} : ∀ {b y : List SymD} {j : Nat}, (∀ A, (false, A) ∈ b → E A = true → ∃ b, (A, b) ∈ C.prods ∧ LenB C b 0) → y ∈ subs E b → LenB C y j → LenB C b j
  | [], y, j, _, hy, h => by
    unfold subs at hy
    rw [List.mem_singleton.1 hy] at h; exact h
  | s :: b, y, j, hm, hy, h => by
    unfold subs at hy
    rcases List.mem_append.1 hy with hy1 | hy
    · by_cases hn : nulS E s = true
      · rw [if_pos hn] at hy1
        clear hy
        obtain ⟨l, A⟩ := s
        unfold nulS at hn
        simp only [Bool.and_eq_true, Bool.not_eq_true'] at hn
        obtain ⟨rfl, hE⟩ := hn
        obtain ⟨b0, h1, h2⟩ := hm A (List.mem_cons_self ..) hE
        have := LenB.nt h1 h2 (subs_len (fun A hA => hm A (List.mem_cons_of_mem _ hA)) hy1 h)
        rwa [Nat.zero_add] at this
      · rw [if_neg hn] at hy1; cases hy1
    · obtain ⟨z, hz, rfl⟩ := List.mem_map.1 hy
      cases h with
      | lab h => exact .lab (subs_len (fun A hA => hm A (List.mem_cons_of_mem _ hA)) hz h)
      | nt h1 h2 h3 => exact .nt h1 h2 (subs_len (fun A hA => hm A (List.mem_cons_of_mem _ hA)) hz h3)
theorem WithR.back {C D : CnfD} {E : Int → Bool} (h : WithR C D E) {x : List SymD} {j : Nat} (hl : LenB D x j) : LenB C x j := by
  induction hl with
  | nil => exact .nil
  | lab _ ih => exact .lab ih
  | nt hp _ _ ih1 ih2 =>
    obtain ⟨b, h1, h2, _⟩ := (h.pr _).1 hp
    exact .nt h1 (subs_len (fun A hA => h.me A ⟨_, h1, hA⟩) h2 ih1) ih2
theorem WithR.on {C D : CnfD} {E : Int → Bool} (h : WithR C D E) {x : List SymD} {j : Nat} (hl : LenB C x j) : ∃ y ∈ subs E x, LenB D y j := by
  induction hl with
  | nil => exact ⟨[], by simp [subs], .nil⟩
  | lab _ ih =>
    obtain ⟨y, h1, h2⟩ := ih
    exact ⟨_ :: y, by unfold subs; exact List.mem_append_right _ (List.mem_map_of_mem h1), .lab h2⟩
  | @nt A b r j k hp h1 h2 ih1 ih2 =>
    obtain ⟨y2, g1, g2⟩ := ih2
    by_cases e : j = 0
    · subst e
      refine ⟨y2, ?_, by rw [Nat.zero_add]; exact g2⟩
      unfold subs
      have : nulS E (false, A) = true := by unfold nulS; simp [h.em A b hp h1]
      rw [if_pos this]
      exact List.mem_append_left _ g1
    · obtain ⟨y1, g3, g4⟩ := ih1
      have hne : y1 ≠ [] := fun e2 => by subst e2; exact e g4.zero
      refine ⟨(false, A) :: y2, ?_, .nt ((h.pr (A, y1)).2 ⟨b, hp, g3, hne⟩) g4 g2⟩
      unfold subs
      exact List.mem_append_right _ (List.mem_map_of_mem g1)
theorem WithR.pos {C D : CnfD} {E : Int → Bool} (h : WithR C D E) {x : List SymD} {j : Nat} (hl : LenB D x j) : x ≠ [] → 0 < j := by
  induction hl with
  | nil => intro h; exact absurd rfl h
  | lab _ _ => intro _; omega
  | nt hp _ _ ih1 _ =>
    intro _
    obtain ⟨_, _, _, h3⟩ := (h.pr _).1 hp
    have := ih1 h3
    omega
/-- What Without leaves of the least lengths. -/
theorem with_sho {C D : CnfD} {E : Int → Bool} (hC : okC C = true) (hD : okC D = true) (h : WithR C D E) {s t : Nat → Int} (hR : Reach shoStep C.prods (fun _ => -1) s) (hst : ∀ p ∈ C.prods, (shoStep s p).2 = false) (hR2 : Reach shoStep D.prods (fun _ => -1) t) (hst2 : ∀ p ∈ D.prods, (shoStep t p).2 = false) (A : Nat) (hs1 : -1 ≤ s A) (ht1 : -1 ≤ t A) :
    t A ≠ 0 ∧ (0 < s A → t A = s A) ∧ (s A < 0 → t A < 0) := by
  have hsd := sho_sound hC hR
  have htd := sho_sound hD hR2
  have back : t A ≠ -1 → s A ≠ -1 ∧ s A ≤ t A ∧ 0 < t A := fun ht => by
    obtain ⟨b, k, h1, h2, h3⟩ := htd A ht
    obtain ⟨b0, g1, g2, g3⟩ := (h.pr _).1 h1
    have hk := h.pos h2 g3
    have := sho_le hC hR hst g1 (subs_len (fun B hB => h.me B ⟨_, g1, hB⟩) g2 (h.back h2))
    exact ⟨this.1, by omega, by omega⟩
  refine ⟨fun h0 => ?_, fun hp => ?_, fun hn => ?_⟩
  · have := back (by omega); omega
  · obtain ⟨b, k, h1, h2, h3⟩ := hsd A (by omega)
    obtain ⟨y, g1, g2⟩ := h.on h2
    have hk : 0 < k := by omega
    have hne : y ≠ [] := fun e => by subst e; have := g2.zero; omega
    have := sho_le hD hR2 hst2 ((h.pr ((A : Int), y)).2 ⟨b, h1, g1, hne⟩) g2
    have := back this.1
    omega
  · by_cases e : t A = -1
    · omega
    · have := back e; omega
end Go.Proofs.Ytcemehocbemfmaa
namespace Go.Proofs.Ytcemehocbemfmaa
open Go
theorem with_rel {C : CnfD} (hok : okC C = true) {o : Nat → Bool} {s : Nat → Int} (hR : Reach (cloStep false) C.prods (fun _ => false) o) (hS : ∀ p ∈ C.prods, (cloStep false o p).2 = false) (hR2 : Reach shoStep C.prods (fun _ => -1) s) (hS2 : ∀ p ∈ C.prods, (shoStep s p).2 = false) {zs : List ProdD} (hm : ∀ p, p ∈ zs ↔ WithP (EO o) C.prods p) : WithR C ⟨C.nts, zs⟩ (EO o) := by
  obtain ⟨⟨hn1, hn2⟩, hin⟩ := okC_in hok
  obtain ⟨n, hn⟩ := Int.eq_ofNat_of_zero_le (show 0 ≤ C.nts by omega)
  have hin' := hin
  rw [hn] at hin
  have hos : ∀ i, i < n → o i = decide (s i = 0) := fun i hi => by rw [empty_end hin hR hS i hi, shortest_end hin hR2 hS2 i hi]
  have hsh := sho_shorts hok hR2
  refine ⟨hm, fun A b hp hl => ?_, fun A hA hE => ?_⟩
  · have hA := (hin _ hp).1
    dsimp only at hA
    obtain ⟨a, rfl⟩ := Int.eq_ofNat_of_zero_le hA.1
    have h1 := sho_le hok hR2 hS2 hp hl
    have h2 := hsh a (by omega)
    show o ((a : Nat) : Int).toNat = true
    rw [show ((a : Nat) : Int).toNat = a from rfl, hos a (by omega)]
    exact decide_eq_true (by omega)
  · obtain ⟨p, hp, hA2⟩ := hA
    have h1 := (hin _ hp).2 _ hA2 rfl
    dsimp only at h1
    obtain ⟨a, rfl⟩ := Int.eq_ofNat_of_zero_le h1.1
    have hE : o ((a : Nat) : Int).toNat = true := hE
    rw [show ((a : Nat) : Int).toNat = a from rfl, hos a (by omega)] at hE
    have hE := of_decide_eq_true hE
    obtain ⟨b, k, g1, g2, g3⟩ := sho_sound hok hR2 a (by omega)
    have : k = 0 := by omega
    subst this
    exact ⟨b, g1, g2⟩
theorem leaves_end {C : CnfD} (hok : okC C = true) {o : Nat → Bool} {s : Nat → Int} (hR : Reach (cloStep false) C.prods (fun _ => false) o) (hS : ∀ p ∈ C.prods, (cloStep false o p).2 = false) (hR2 : Reach shoStep C.prods (fun _ => -1) s) (hS2 : ∀ p ∈ C.prods, (shoStep s p).2 = false) {zs : List ProdD} (hm : ∀ p, p ∈ zs ↔ WithP (EO o) C.prods p)
    {o2 : Nat → Bool} {t : Nat → Int} (hR3 : Reach (cloStep false) zs (fun _ => false) o2) (hS3 : ∀ p ∈ zs, (cloStep false o2 p).2 = false) (hR4 : Reach shoStep zs (fun _ => -1) t) (hS4 : ∀ p ∈ zs, (shoStep t p).2 = false) (i : Nat) (hi : i < C.nts.toNat) :
    o2 i = false ∧ (0 < s i → t i = s i) ∧ (s i < 0 → t i < 0) := by
  have hD := okC_with hok fun p hp => (hm p).1 hp
  obtain ⟨⟨hn1, hn2⟩, hin⟩ := okC_in hD
  dsimp only at hn1 hn2 hin
  obtain ⟨n, hn⟩ := Int.eq_ofNat_of_zero_le (show 0 ≤ C.nts by omega)
  rw [hn] at hin
  have h1 := sho_shorts hok hR2 i hi
  have h2 := sho_shorts hD hR4 i hi
  obtain ⟨g1, g2, g3⟩ := with_sho hok hD (with_rel hok hR hS hR2 hS2 hm) hR2 hS2 hR4 hS4 i h1.1 h2.1
  refine ⟨?_, g2, g3⟩
  rw [empty_end hin hR3 hS3 i (by omega), ← shortest_end hin hR4 hS4 i (by omega)]
  exact decide_eq_false g1
attribute [local irreducible] G GO GR GT Fn FnV pt init exs pur sat own ImpS symsV
set_option maxRecDepth 40000 in
set_option maxHeartbeats 16000000 in
theorem leaves_law (q : HP) (v : Value) (C : CnfD) (hv : CnfR q v C) (hz : Fits C) (hB : ¬ 1048576 < C.prods.length ∧ ∀ p ∈ C.prods, ¬ 1048576 < p.2.length) :
    Fn Try.prog 8 #[v] [q] (fun r Q => r = .bool true ∧ Q = [q]) := by
  have hcopy := copy_spec q v C hv hz
  have heng := fun (z : HP) (c : Value) (hc : CnfR z c C) => without_spec z c C hc hz ⟨by omega, fun p hp => by have := hB.2 p hp; omega⟩
  have hsho := shortest_spec q v C hv hz
  obtain ⟨pv, rfl, hp⟩ := hv
  obtain ⟨a0, cap0, rfl⟩ := hp.form
  refine Fn.mk2 Try.func8 rfl rfl fun w0 F => ?_
  (refine G.seq ?_; refine G.region ?_; refine GO.box rfl rfl rfl fun b1 => ?_; refine GO.assign rfl rfl ?_; refine GO.nil ?_; refine kthen_n ?_; refine G.seq ?_; refine G.region ?_; refine GO.loadW rfl rfl rfl Tk.h rfl ?_)
  refine GO.call1 rfl rfl (hcopy) (Tks.c (Tk.t Tk.h) Tks.n) ?_
  rintro c _ ⟨z, hz1, rfl⟩
  skip
  refine GO.call1 rfl rfl (heng z c hz1) (Tks.c Tk.h Tks.n) ?_
  rintro _ _ (⟨_, rfl, rfl⟩ | ⟨hok, o, hR, hS, ⟨⟨p0, hp0, hp12⟩, rfl, rfl⟩ | ⟨hle, v2, zs, z2, rfl, hv2, hu, hm, hzl, rfl⟩⟩)
  · (refine GO.move rfl rfl ?_; refine GO.extract rfl rfl rfl ?_; refine GO.extract rfl rfl rfl ?_; refine GO.alloc rfl fun b3 => ?_; refine GO.storeW rfl rfl Tk.h ⟨rfl, rfl⟩ (by simp [Value.oneCell']) ?_; refine GO.assign rfl rfl ?_; refine GO.nil ?_; refine kthen_n ?_; refine G.seq ?_; refine G.seq ?_; refine G.region ?_)
    refine GO.call0 rfl (head_spec) Tks.n ?_
    rintro _ _ ⟨rfl, rfl⟩
    (refine GO.not rfl rfl ?_; refine GO.nil ?_; refine kthen_n ?_; refine G.condF rfl rfl ?_; refine G.skip ?_; refine kthen_n ?_; refine G.seq ?_; refine G.seq ?_; refine G.region ?_; refine GO.move rfl rfl ?_; refine GO.nei rfl rfl rfl ?_; refine GO.nil ?_; refine kthen_n ?_; refine G.condT rfl rfl ?_; refine G.seq ?_; refine G.region ?_; refine GO.move rfl rfl ?_; refine GO.eqT rfl rfl rfl rfl ?_; refine GO.move rfl rfl ?_; refine GO.gF rfl rfl rfl rfl ?_; refine GO.gF rfl rfl rfl rfl ?_; refine GO.pickT rfl rfl rfl ?_; refine GO.assign rfl rfl ?_; refine GO.nil ?_; refine kthen_n ?_; refine G.ret ?_; refine kthen_r ?_)
    refine KF2.r1 rfl (RV.t rfl) ⟨rfl, rfl⟩ (ImpS.sb ?_)
    ((refine Sb.c (Tk.t (Tk.t Tk.h)) ?_); (refine Sb.s ?_; refine Sb.s ?_; refine Sb.s ?_; exact Sb.r))
  · (refine GO.move rfl rfl ?_; refine GO.extract rfl rfl rfl ?_; refine GO.extract rfl rfl rfl ?_; refine GO.alloc rfl fun b3 => ?_; refine GO.storeW rfl rfl Tk.h ⟨rfl, rfl⟩ (by simp [Value.oneCell']) ?_; refine GO.assign rfl rfl ?_; refine GO.nil ?_; refine kthen_n ?_; refine G.seq ?_; refine G.seq ?_; refine G.region ?_)
    refine GO.call0 rfl (head_spec) Tks.n ?_
    rintro _ _ ⟨rfl, rfl⟩
    (refine GO.not rfl rfl ?_; refine GO.nil ?_; refine kthen_n ?_; refine G.condF rfl rfl ?_; refine G.skip ?_; refine kthen_n ?_; refine G.seq ?_; refine G.seq ?_; refine G.region ?_; refine GO.move rfl rfl ?_; refine GO.nei rfl rfl rfl ?_; refine GO.nil ?_; refine kthen_n ?_; refine G.condT rfl rfl ?_; refine G.seq ?_; refine G.region ?_; refine GO.move rfl rfl ?_; refine GO.eqi rfl rfl rfl ?_; refine GO.move rfl rfl ?_; refine GO.gT rfl rfl rfl ?_; refine GO.move rfl rfl ?_; refine GO.gT rfl rfl rfl ?_; refine GO.eqT rfl rfl rfl rfl ?_; refine GO.pickF rfl rfl rfl ?_; refine GO.assign rfl rfl ?_; refine GO.nil ?_; refine kthen_n ?_; refine G.ret ?_; refine kthen_r ?_)
    refine KF2.r1 rfl (RV.t rfl) ⟨rfl, rfl⟩ (ImpS.sb ?_)
    ((refine Sb.c (Tk.t (Tk.t Tk.h)) ?_); (refine Sb.s ?_; refine Sb.s ?_; refine Sb.s ?_; exact Sb.r))
  · have hfit := with_fits hB hzl (fun p hp => (hm p).1 hp)
    have hokD := okC_with hok fun p hp => (hm p).1 hp
    have hem2 := empty_spec z2 v2 ⟨C.nts, zs⟩ hv2 hfit
    have hsh2 := shortest_spec z2 v2 ⟨C.nts, zs⟩ hv2 hfit
    obtain ⟨pv2, rfl, hp2⟩ := hv2
    obtain ⟨a2, cap2, rfl⟩ := hp2.form
    obtain ⟨⟨hn1, hn2⟩, _⟩ := okC_in hok
    obtain ⟨n, hn⟩ := Int.eq_ofNat_of_zero_le (show 0 ≤ C.nts by omega)
    have hnn : C.nts.toNat = n := by omega
    (refine GO.move rfl rfl ?_; refine GO.extract rfl rfl rfl ?_; refine GO.extract rfl rfl rfl ?_; refine GO.alloc rfl fun b3 => ?_; refine GO.storeW rfl rfl Tk.h ⟨rfl, rfl⟩ (by simp [Value.oneCell']) ?_; refine GO.assign rfl rfl ?_; refine GO.nil ?_; refine kthen_n ?_; refine G.seq ?_; refine G.seq ?_; refine G.region ?_)
    refine GO.call0 rfl (head_spec) Tks.n ?_
    rintro _ _ ⟨rfl, rfl⟩
    (refine GO.not rfl rfl ?_; refine GO.nil ?_; refine kthen_n ?_; refine G.condF rfl rfl ?_; refine G.skip ?_; refine kthen_n ?_; refine G.seq ?_; refine G.seq ?_; refine G.region ?_; refine GO.move rfl rfl ?_; refine GO.neF rfl rfl rfl rfl ?_; refine GO.nil ?_; refine kthen_n ?_; refine G.condF rfl rfl ?_; refine G.skip ?_; refine kthen_n ?_; refine G.seq ?_; refine G.region ?_; refine GO.loadW rfl rfl rfl Tk.h rfl ?_)
    refine GO.call1 rfl rfl (hem2) (Tks.c (Tk.t Tk.h) Tks.n) ?_
    rintro _ _ (⟨_, x2, o2, rfl, hR3, hS3, rfl⟩ | ⟨h, _⟩)
    · dsimp only at hR3 hS3 ⊢
      have d1 : decide (((C.nts.toNat : Nat) : Int) ≠ C.nts) = false := decide_eq_false (by omega)
      have d2 : decide (C.nts ≠ C.nts) = false := decide_eq_false (by omega)
      (refine GO.move rfl rfl ?_; refine GO.extract rfl rfl rfl ?_; refine GO.extract rfl rfl rfl ?_; refine GO.assign rfl rfl ?_; refine GO.assign rfl rfl ?_; refine GO.nil ?_; refine kthen_n ?_; refine G.seq ?_; refine G.seq ?_; refine G.region ?_; refine GO.move rfl rfl ?_; refine GO.neF rfl rfl rfl rfl ?_; refine GO.move rfl rfl ?_; refine GO.gT rfl rfl rfl ?_; refine GO.move rfl rfl ?_; refine GO.gT rfl rfl rfl ?_; refine GO.lenS rfl rfl ?_; refine GO.gT rfl rfl rfl ?_; refine GO.fieldAddr rfl rfl ?_; refine GO.gT rfl rfl rfl ?_; refine GO.load1 rfl rfl rfl (Tk.t (Tk.t (Tk.t (Tk.t (Tk.t Tk.h))))) rfl ?_; refine GO.gT rfl rfl rfl ?_; refine GO.nei rfl rfl rfl ?_; refine GO.pickF rfl rfl rfl ?_; refine GO.move rfl rfl ?_; refine GO.gT rfl rfl (by assumption) ?_; refine GO.fieldAddr rfl rfl ?_; refine GO.gT rfl rfl (by assumption) ?_; refine GO.load1 rfl rfl rfl (Tk.t (Tk.t Tk.h)) rfl ?_; refine GO.gT rfl rfl (by assumption) ?_; refine GO.fieldAddr rfl rfl ?_; refine GO.gT rfl rfl (by assumption) ?_; refine GO.load1 rfl rfl rfl (Tk.t (Tk.t (Tk.t (Tk.t (Tk.t Tk.h))))) rfl ?_; refine GO.gT rfl rfl (by assumption) ?_; refine GO.neF rfl rfl rfl rfl ?_; refine GO.pickFa rfl rfl (by assumption) rfl ?_; refine GO.nil ?_; refine kthen_n ?_; refine G.condF rfl rfl ?_; refine G.skip ?_; refine kthen_n ?_; refine G.seq ?_; refine G.region ?_; refine GO.loadW rfl rfl rfl (Tk.t (Tk.t (Tk.t (Tk.t (Tk.t Tk.h))))) rfl ?_)
      refine GO.call1 rfl rfl (hsho) (Tks.c (Tk.t (Tk.t (Tk.t (Tk.t Tk.h)))) Tks.n) ?_
      rintro _ _ (⟨_, x3, s, rfl, hR2, hS2, rfl⟩ | ⟨h, _⟩)
      · (refine GO.move rfl rfl ?_; refine GO.extract rfl rfl rfl ?_; refine GO.extract rfl rfl rfl ?_; refine GO.assign rfl rfl ?_; refine GO.assign rfl rfl ?_; refine GO.nil ?_; refine kthen_n ?_; refine G.seq ?_; refine G.region ?_; refine GO.loadW rfl rfl rfl (Tk.t (Tk.t (Tk.t (Tk.t Tk.h)))) rfl ?_)
        refine GO.call1 rfl rfl (hsh2) (Tks.c (Tk.t (Tk.t (Tk.t Tk.h))) Tks.n) ?_
        rintro _ _ (⟨_, x4, t, rfl, hR4, hS4, rfl⟩ | ⟨h, _⟩)
        · dsimp only at hR4 hS4 ⊢
          have hend := leaves_end hok hR hS hR2 hS2 hm hR3 hS3 hR4 hS4
          rw [hnn] at hend ⊢
          (refine GO.move rfl rfl ?_; refine GO.extract rfl rfl rfl ?_; refine GO.extract rfl rfl rfl ?_; refine GO.assign rfl rfl ?_; refine GO.assign rfl rfl ?_; refine GO.nil ?_; refine kthen_n ?_; refine G.seq ?_; refine G.seq ?_; refine G.region ?_; refine GO.assign rfl rfl ?_; refine GO.nil ?_; refine kthen_n ?_; refine G.block ?_)
          refine G.loop (fun k : Nat => [(1, .pointer (some ⟨b1, 0, none⟩)), (5, .slice (some ⟨x2, 0, none⟩) n n), (7, .slice (some ⟨x3, 0, none⟩) n n), (9, .slice (some ⟨x4, 0, none⟩) n n), (11, i64 (k : Nat))])
            (fun _ => q :: pt x2 (row (boolsV o2 n) 4) :: pt x3 (row (numsV s n) 3) :: pt x4 (row (numsV t n) 3) :: pt b1 (row [i64 C.nts, .slice a0 C.prods.length cap0] 24) :: F) (fun k => k ≤ n) (fun k => n - k) 0 (Nat.zero_le _) ?_ ?_ ?_
          · (refine SubE.c rfl rfl ?_; refine SubE.c rfl rfl ?_; refine SubE.c rfl rfl ?_; refine SubE.c rfl rfl ?_; refine SubE.c rfl rfl ?_; exact SubE.n)
          · ((refine Sb.c (Tk.t (Tk.t (Tk.t Tk.h))) ?_; refine Sb.c (Tk.t (Tk.t (Tk.t Tk.h))) ?_; refine Sb.c (Tk.t (Tk.t Tk.h)) ?_; refine Sb.c Tk.h ?_; refine Sb.c (Tk.t (Tk.t (Tk.t Tk.h))) ?_); (refine Sb.s ?_; refine Sb.s ?_; refine Sb.s ?_; exact Sb.r))
          · rintro k hk
            (refine G.seq ?_; refine G.seq ?_; refine G.region ?_; refine GO.move rfl rfl ?_; refine GO.fieldAddr rfl rfl ?_; refine GO.load1 rfl rfl rfl (Tk.t (Tk.t (Tk.t (Tk.t Tk.h)))) rfl ?_; refine GO.lti rfl rfl rfl ?_; refine GO.nil ?_; refine kthen_n ?_)
            refine G.condD rfl (fun hlt => ?_) (fun hge => ?_)
            · have hkn : k < n := by omega
              obtain ⟨e1, e2, e3⟩ := hend k hkn
              cases d3 : decide ((0 : Int) < s k) with
              | true =>
                have z3 := of_decide_eq_true d3
                have d4 : decide (t k ≠ s k) = false := decide_eq_false (fun h => h (e2 z3))
                have d5 : decide (s k < 0) = false := decide_eq_false (by omega)
                (refine G.skip ?_; refine kthen_n ?_; refine G.seq ?_; refine G.block ?_; refine G.seq ?_)
                refine G.draw 36 (by kernel_rfl) ?_
                ((apply GQ.step; focus (intro Z; refine GO.move rfl rfl ?_; exact KQ.z)); (apply GQ.step; focus (intro Z; refine GO.move rfl rfl ?_; exact KQ.z)); (apply GQ.step; focus (intro Z; refine GO.idxS rfl rfl rfl ⟨rfl, by omega⟩ ?_; exact KQ.z)); (apply GQ.step; focus (intro Z; refine GO.load1 rfl rfl rfl (Tk.t Tk.h) (rowV_get1 (by assumption)) ?_; exact KQ.z)); (apply GQ.step; focus (intro Z; refine GO.move rfl rfl ?_; exact KQ.z)); (apply GQ.step; focus (intro Z; refine GO.gT rfl rfl (by assumption) ?_; refine GO.move rfl rfl ?_; exact KQ.z)); (apply GQ.step; focus (intro Z; refine GO.gT rfl rfl (by assumption) ?_; refine GO.move rfl rfl ?_; exact KQ.z)); (apply GQ.step; focus (intro Z; refine GO.gT rfl rfl (by assumption) ?_; refine GO.idxS rfl rfl rfl ⟨rfl, by omega⟩ ?_; exact KQ.z)); (apply GQ.step; focus (intro Z; refine GO.gT rfl rfl (by assumption) ?_; refine GO.load1 rfl rfl rfl (Tk.t (Tk.t Tk.h)) (rowV_get1 (by assumption)) ?_; exact KQ.z)); (apply GQ.step; focus (intro Z; refine GO.gT rfl rfl (by assumption) ?_; refine GO.gti rfl rfl rfl ?_; exact KQ.z)); (apply GQ.step; focus (intro Z; refine GO.gT rfl rfl (by assumption) ?_; refine GO.move rfl rfl ?_; exact KQ.z)); (apply GQ.step; focus (intro Z; refine GO.gT rfl rfl (by assumption) ?_; refine GO.move rfl rfl ?_; exact KQ.z)); (apply GQ.step; focus (intro Z; refine GO.gT rfl rfl (by assumption) ?_; refine GO.move rfl rfl ?_; exact KQ.z)); (apply GQ.step; focus (intro Z; refine GO.gT rfl rfl (by assumption) ?_; refine GO.idxS rfl rfl rfl ⟨rfl, by omega⟩ ?_; exact KQ.z)); (apply GQ.step; focus (intro Z; refine GO.gT rfl rfl (by assumption) ?_; refine GO.load1 rfl rfl rfl (Tk.t (Tk.t (Tk.t Tk.h))) (rowV_get1 (by assumption)) ?_; exact KQ.z)); (apply GQ.step; focus (intro Z; refine GO.gT rfl rfl (by assumption) ?_; refine GO.move rfl rfl ?_; exact KQ.z)); (apply GQ.step; focus (intro Z; refine GO.gT rfl rfl (by assumption) ?_; refine GO.move rfl rfl ?_; exact KQ.z)); (apply GQ.step; focus (intro Z; refine GO.gT rfl rfl (by assumption) ?_; refine GO.idxS rfl rfl rfl ⟨rfl, by omega⟩ ?_; exact KQ.z)); (apply GQ.step; focus (intro Z; refine GO.gT rfl rfl (by assumption) ?_; refine GO.load1 rfl rfl rfl (Tk.t (Tk.t Tk.h)) (rowV_get1 (by assumption)) ?_; exact KQ.z)); (apply GQ.step; focus (intro Z; refine GO.gT rfl rfl (by assumption) ?_; refine GO.nei rfl rfl rfl ?_; exact KQ.z)); (apply GQ.step; focus (intro Z; refine GO.gT rfl rfl (by assumption) ?_; refine GO.pickTa rfl rfl (by assumption) rfl ?_; exact KQ.z)); (apply GQ.step; focus (intro Z; refine GO.pickFa rfl rfl (by assumption) rfl ?_; exact KQ.z)); (apply GQ.step; focus (intro Z; refine GO.move rfl rfl ?_; exact KQ.z)); (apply GQ.step; focus (intro Z; refine GO.gT rfl rfl (by assumption) ?_; refine GO.move rfl rfl ?_; exact KQ.z)); (apply GQ.step; focus (intro Z; refine GO.gT rfl rfl (by assumption) ?_; refine GO.move rfl rfl ?_; exact KQ.z)); (apply GQ.step; focus (intro Z; refine GO.gT rfl rfl (by assumption) ?_; refine GO.idxS rfl rfl rfl ⟨rfl, by omega⟩ ?_; exact KQ.z)); (apply GQ.step; focus (intro Z; refine GO.gT rfl rfl (by assumption) ?_; refine GO.load1 rfl rfl rfl (Tk.t (Tk.t Tk.h)) (rowV_get1 (by assumption)) ?_; exact KQ.z)); (apply GQ.step; focus (intro Z; refine GO.gT rfl rfl (by assumption) ?_; refine GO.lti rfl rfl rfl ?_; exact KQ.z)); (apply GQ.step; focus (intro Z; refine GO.gT rfl rfl (by assumption) ?_; refine GO.move rfl rfl ?_; exact KQ.z)); (apply GQ.step; focus (intro Z; refine GO.gF rfl rfl rfl (by assumption) ?_; exact KQ.z)); (apply GQ.step; focus (intro Z; refine GO.gF rfl rfl rfl (by assumption) ?_; exact KQ.z)); (apply GQ.step; focus (intro Z; refine GO.gF rfl rfl rfl (by assumption) ?_; exact KQ.z)); (apply GQ.step; focus (intro Z; refine GO.gF rfl rfl rfl (by assumption) ?_; exact KQ.z)); (apply GQ.step; focus (intro Z; refine GO.gF rfl rfl rfl (by assumption) ?_; exact KQ.z)); (apply GQ.step; focus (intro Z; refine GO.gT rfl rfl (by assumption) ?_; refine GO.pickFa rfl rfl (by assumption) rfl ?_; exact KQ.z)); (apply GQ.step; focus (intro Z; refine GO.pickFa rfl rfl (by assumption) rfl ?_; exact KQ.z)); refine GQ.nil ?_)
                (refine GO.nil ?_; refine kthen_n ?_; refine G.condF rfl rfl ?_; refine G.skip ?_; refine kblock_n ?_; refine kthen_n ?_; refine G.region ?_; refine GO.move rfl rfl ?_; refine GO.addi rfl rfl rfl (by omega) ?_; refine GO.assign rfl rfl ?_; refine GO.nil ?_; refine kthen_n ?_)
                refine ⟨k + 1, by omega, by omega, ?_, ?_⟩
                · (refine SubE.c rfl rfl ?_; refine SubE.c rfl rfl ?_; refine SubE.c rfl rfl ?_; refine SubE.c rfl rfl ?_; refine SubE.c rfl rfl ?_; exact SubE.n)
                · ((refine Sb.c Tk.h ?_; refine Sb.c Tk.h ?_; refine Sb.c Tk.h ?_; refine Sb.c Tk.h ?_; refine Sb.c Tk.h ?_); (exact Sb.r))
              | false =>
                have z3 := of_decide_eq_false d3
                cases d5 : decide (s k < 0) with
                | true =>
                  have z5 := of_decide_eq_true d5
                  have d6 : decide ((0 : Int) ≤ t k) = false := decide_eq_false (by have := e3 z5; omega)
                  (refine G.skip ?_; refine kthen_n ?_; refine G.seq ?_; refine G.block ?_; refine G.seq ?_)
                  refine G.draw 36 (by kernel_rfl) ?_
                  ((apply GQ.step; focus (intro Z; refine GO.move rfl rfl ?_; exact KQ.z)); (apply GQ.step; focus (intro Z; refine GO.move rfl rfl ?_; exact KQ.z)); (apply GQ.step; focus (intro Z; refine GO.idxS rfl rfl rfl ⟨rfl, by omega⟩ ?_; exact KQ.z)); (apply GQ.step; focus (intro Z; refine GO.load1 rfl rfl rfl (Tk.t Tk.h) (rowV_get1 (by assumption)) ?_; exact KQ.z)); (apply GQ.step; focus (intro Z; refine GO.move rfl rfl ?_; exact KQ.z)); (apply GQ.step; focus (intro Z; refine GO.gT rfl rfl (by assumption) ?_; refine GO.move rfl rfl ?_; exact KQ.z)); (apply GQ.step; focus (intro Z; refine GO.gT rfl rfl (by assumption) ?_; refine GO.move rfl rfl ?_; exact KQ.z)); (apply GQ.step; focus (intro Z; refine GO.gT rfl rfl (by assumption) ?_; refine GO.idxS rfl rfl rfl ⟨rfl, by omega⟩ ?_; exact KQ.z)); (apply GQ.step; focus (intro Z; refine GO.gT rfl rfl (by assumption) ?_; refine GO.load1 rfl rfl rfl (Tk.t (Tk.t Tk.h)) (rowV_get1 (by assumption)) ?_; exact KQ.z)); (apply GQ.step; focus (intro Z; refine GO.gT rfl rfl (by assumption) ?_; refine GO.gti rfl rfl rfl ?_; exact KQ.z)); (apply GQ.step; focus (intro Z; refine GO.gT rfl rfl (by assumption) ?_; refine GO.move rfl rfl ?_; exact KQ.z)); (apply GQ.step; focus (intro Z; refine GO.gF rfl rfl rfl (by assumption) ?_; exact KQ.z)); (apply GQ.step; focus (intro Z; refine GO.gF rfl rfl rfl (by assumption) ?_; exact KQ.z)); (apply GQ.step; focus (intro Z; refine GO.gF rfl rfl rfl (by assumption) ?_; exact KQ.z)); (apply GQ.step; focus (intro Z; refine GO.gF rfl rfl rfl (by assumption) ?_; exact KQ.z)); (apply GQ.step; focus (intro Z; refine GO.gF rfl rfl rfl (by assumption) ?_; exact KQ.z)); (apply GQ.step; focus (intro Z; refine GO.gF rfl rfl rfl (by assumption) ?_; exact KQ.z)); (apply GQ.step; focus (intro Z; refine GO.gF rfl rfl rfl (by assumption) ?_; exact KQ.z)); (apply GQ.step; focus (intro Z; refine GO.gF rfl rfl rfl (by assumption) ?_; exact KQ.z)); (apply GQ.step; focus (intro Z; refine GO.gF rfl rfl rfl (by assumption) ?_; exact KQ.z)); (apply GQ.step; focus (intro Z; refine GO.gT rfl rfl (by assumption) ?_; refine GO.pickFa rfl rfl (by assumption) rfl ?_; exact KQ.z)); (apply GQ.step; focus (intro Z; refine GO.pickFa rfl rfl (by assumption) rfl ?_; exact KQ.z)); (apply GQ.step; focus (intro Z; refine GO.move rfl rfl ?_; exact KQ.z)); (apply GQ.step; focus (intro Z; refine GO.gT rfl rfl rfl ?_; refine GO.move rfl rfl ?_; exact KQ.z)); (apply GQ.step; focus (intro Z; refine GO.gT rfl rfl rfl ?_; refine GO.move rfl rfl ?_; exact KQ.z)); (apply GQ.step; focus (intro Z; refine GO.gT rfl rfl rfl ?_; refine GO.idxS rfl rfl rfl ⟨rfl, by omega⟩ ?_; exact KQ.z)); (apply GQ.step; focus (intro Z; refine GO.gT rfl rfl rfl ?_; refine GO.load1 rfl rfl rfl (Tk.t (Tk.t Tk.h)) (rowV_get1 (by assumption)) ?_; exact KQ.z)); (apply GQ.step; focus (intro Z; refine GO.gT rfl rfl rfl ?_; refine GO.lti rfl rfl rfl ?_; exact KQ.z)); (apply GQ.step; focus (intro Z; refine GO.gT rfl rfl rfl ?_; refine GO.move rfl rfl ?_; exact KQ.z)); (apply GQ.step; focus (intro Z; refine GO.gT rfl rfl (by assumption) ?_; refine GO.move rfl rfl ?_; exact KQ.z)); (apply GQ.step; focus (intro Z; refine GO.gT rfl rfl (by assumption) ?_; refine GO.move rfl rfl ?_; exact KQ.z)); (apply GQ.step; focus (intro Z; refine GO.gT rfl rfl (by assumption) ?_; refine GO.idxS rfl rfl rfl ⟨rfl, by omega⟩ ?_; exact KQ.z)); (apply GQ.step; focus (intro Z; refine GO.gT rfl rfl (by assumption) ?_; refine GO.load1 rfl rfl rfl (Tk.t (Tk.t (Tk.t Tk.h))) (rowV_get1 (by assumption)) ?_; exact KQ.z)); (apply GQ.step; focus (intro Z; refine GO.gT rfl rfl (by assumption) ?_; refine GO.gei rfl rfl rfl ?_; exact KQ.z)); (apply GQ.step; focus (intro Z; refine GO.gT rfl rfl rfl ?_; refine GO.pickTa rfl rfl (by assumption) rfl ?_; exact KQ.z)); (apply GQ.step; focus (intro Z; refine GO.pickF rfl rfl rfl ?_; exact KQ.z)); refine GQ.nil ?_)
                  (refine GO.nil ?_; refine kthen_n ?_; refine G.condF rfl (by assumption) ?_; refine G.skip ?_; refine kblock_n ?_; refine kthen_n ?_; refine G.region ?_; refine GO.move rfl rfl ?_; refine GO.addi rfl rfl rfl (by omega) ?_; refine GO.assign rfl rfl ?_; refine GO.nil ?_; refine kthen_n ?_)
                  refine ⟨k + 1, by omega, by omega, ?_, ?_⟩
                  · (refine SubE.c rfl rfl ?_; refine SubE.c rfl rfl ?_; refine SubE.c rfl rfl ?_; refine SubE.c rfl rfl ?_; refine SubE.c rfl rfl ?_; exact SubE.n)
                  · ((refine Sb.c Tk.h ?_; refine Sb.c Tk.h ?_; refine Sb.c Tk.h ?_; refine Sb.c Tk.h ?_; refine Sb.c Tk.h ?_); (exact Sb.r))
                | false =>
                  (refine G.skip ?_; refine kthen_n ?_; refine G.seq ?_; refine G.block ?_; refine G.seq ?_)
                  refine G.draw 36 (by kernel_rfl) ?_
                  ((apply GQ.step; focus (intro Z; refine GO.move rfl rfl ?_; exact KQ.z)); (apply GQ.step; focus (intro Z; refine GO.move rfl rfl ?_; exact KQ.z)); (apply GQ.step; focus (intro Z; refine GO.idxS rfl rfl rfl ⟨rfl, by omega⟩ ?_; exact KQ.z)); (apply GQ.step; focus (intro Z; refine GO.load1 rfl rfl rfl (Tk.t Tk.h) (rowV_get1 (by assumption)) ?_; exact KQ.z)); (apply GQ.step; focus (intro Z; refine GO.move rfl rfl ?_; exact KQ.z)); (apply GQ.step; focus (intro Z; refine GO.gT rfl rfl (by assumption) ?_; refine GO.move rfl rfl ?_; exact KQ.z)); (apply GQ.step; focus (intro Z; refine GO.gT rfl rfl (by assumption) ?_; refine GO.move rfl rfl ?_; exact KQ.z)); (apply GQ.step; focus (intro Z; refine GO.gT rfl rfl (by assumption) ?_; refine GO.idxS rfl rfl rfl ⟨rfl, by omega⟩ ?_; exact KQ.z)); (apply GQ.step; focus (intro Z; refine GO.gT rfl rfl (by assumption) ?_; refine GO.load1 rfl rfl rfl (Tk.t (Tk.t Tk.h)) (rowV_get1 (by assumption)) ?_; exact KQ.z)); (apply GQ.step; focus (intro Z; refine GO.gT rfl rfl (by assumption) ?_; refine GO.gti rfl rfl rfl ?_; exact KQ.z)); (apply GQ.step; focus (intro Z; refine GO.gT rfl rfl (by assumption) ?_; refine GO.move rfl rfl ?_; exact KQ.z)); (apply GQ.step; focus (intro Z; refine GO.gF rfl rfl rfl (by assumption) ?_; exact KQ.z)); (apply GQ.step; focus (intro Z; refine GO.gF rfl rfl rfl (by assumption) ?_; exact KQ.z)); (apply GQ.step; focus (intro Z; refine GO.gF rfl rfl rfl (by assumption) ?_; exact KQ.z)); (apply GQ.step; focus (intro Z; refine GO.gF rfl rfl rfl (by assumption) ?_; exact KQ.z)); (apply GQ.step; focus (intro Z; refine GO.gF rfl rfl rfl (by assumption) ?_; exact KQ.z)); (apply GQ.step; focus (intro Z; refine GO.gF rfl rfl rfl (by assumption) ?_; exact KQ.z)); (apply GQ.step; focus (intro Z; refine GO.gF rfl rfl rfl (by assumption) ?_; exact KQ.z)); (apply GQ.step; focus (intro Z; refine GO.gF rfl rfl rfl (by assumption) ?_; exact KQ.z)); (apply GQ.step; focus (intro Z; refine GO.gF rfl rfl rfl (by assumption) ?_; exact KQ.z)); (apply GQ.step; focus (intro Z; refine GO.gT rfl rfl (by assumption) ?_; refine GO.pickFa rfl rfl (by assumption) rfl ?_; exact KQ.z)); (apply GQ.step; focus (intro Z; refine GO.pickFa rfl rfl (by assumption) rfl ?_; exact KQ.z)); (apply GQ.step; focus (intro Z; refine GO.move rfl rfl ?_; exact KQ.z)); (apply GQ.step; focus (intro Z; refine GO.gT rfl rfl rfl ?_; refine GO.move rfl rfl ?_; exact KQ.z)); (apply GQ.step; focus (intro Z; refine GO.gT rfl rfl rfl ?_; refine GO.move rfl rfl ?_; exact KQ.z)); (apply GQ.step; focus (intro Z; refine GO.gT rfl rfl rfl ?_; refine GO.idxS rfl rfl rfl ⟨rfl, by omega⟩ ?_; exact KQ.z)); (apply GQ.step; focus (intro Z; refine GO.gT rfl rfl rfl ?_; refine GO.load1 rfl rfl rfl (Tk.t (Tk.t Tk.h)) (rowV_get1 (by assumption)) ?_; exact KQ.z)); (apply GQ.step; focus (intro Z; refine GO.gT rfl rfl rfl ?_; refine GO.lti rfl rfl rfl ?_; exact KQ.z)); (apply GQ.step; focus (intro Z; refine GO.gT rfl rfl rfl ?_; refine GO.move rfl rfl ?_; exact KQ.z)); (apply GQ.step; focus (intro Z; refine GO.gF rfl rfl rfl (by assumption) ?_; exact KQ.z)); (apply GQ.step; focus (intro Z; refine GO.gF rfl rfl rfl (by assumption) ?_; exact KQ.z)); (apply GQ.step; focus (intro Z; refine GO.gF rfl rfl rfl (by assumption) ?_; exact KQ.z)); (apply GQ.step; focus (intro Z; refine GO.gF rfl rfl rfl (by assumption) ?_; exact KQ.z)); (apply GQ.step; focus (intro Z; refine GO.gF rfl rfl rfl (by assumption) ?_; exact KQ.z)); (apply GQ.step; focus (intro Z; refine GO.gT rfl rfl rfl ?_; refine GO.pickFa rfl rfl (by assumption) rfl ?_; exact KQ.z)); (apply GQ.step; focus (intro Z; refine GO.pickF rfl rfl rfl ?_; exact KQ.z)); refine GQ.nil ?_)
                  (refine GO.nil ?_; refine kthen_n ?_; refine G.condF rfl rfl ?_; refine G.skip ?_; refine kblock_n ?_; refine kthen_n ?_; refine G.region ?_; refine GO.move rfl rfl ?_; refine GO.addi rfl rfl rfl (by omega) ?_; refine GO.assign rfl rfl ?_; refine GO.nil ?_; refine kthen_n ?_)
                  refine ⟨k + 1, by omega, by omega, ?_, ?_⟩
                  · (refine SubE.c rfl rfl ?_; refine SubE.c rfl rfl ?_; refine SubE.c rfl rfl ?_; refine SubE.c rfl rfl ?_; refine SubE.c rfl rfl ?_; exact SubE.n)
                  · ((refine Sb.c Tk.h ?_; refine Sb.c Tk.h ?_; refine Sb.c Tk.h ?_; refine Sb.c Tk.h ?_; refine Sb.c Tk.h ?_); (exact Sb.r))
            · (refine G.exit ?_; refine kthen_x ?_; refine kthen_x ?_; refine kblock_x ?_; refine kthen_n ?_; refine G.seq ?_; refine G.region ?_; refine GO.assign rfl rfl ?_; refine GO.nil ?_; refine kthen_n ?_; refine G.ret ?_)
              refine KF2.r1 rfl (RV.t rfl) ⟨rfl, rfl⟩ (ImpS.sb ?_)
              ((refine Sb.c Tk.h ?_); (refine Sb.s ?_; refine Sb.s ?_; refine Sb.s ?_; refine Sb.s ?_; exact Sb.r))
        · rw [hokD] at h; cases h
      · rw [hok] at h; cases h
    · rw [hokD] at h; cases h
end Go.Proofs.Ytcemehocbemfmaa
namespace Go.Proofs.Ytcemehocbemfmaa
open Go Go.ChangeShapes Go.WideShapes Go.ChangeAt Go.RowKit Go.Deep

theorem ownGo : ownKnob Try.prog.godebug = none := by kernel_rfl
theorem laidOut : laidOutB Try.prog = true := by kernel_rfl
/-- A contract over all of the memory that was there, as the row wants it. -/
theorem Fn.calls {P : Program} {f : FuncId} {args : Array Value} {w : World} (h : Fn P f args [init w] (fun v Q => v = .bool true ∧ Q = [init w])) :
    Calls P f args w fun e w' => e = .returned (.bool true) ∧ Below w.heap.size w w' := by
  refine (callsIn_wide (n := 0)).1 ((h [] w (sat_init w)).mono ?_)
  rintro e w' ⟨v, Q, rfl, hs, ⟨rfl, rfl⟩, hq⟩
  exact ⟨rfl, init_below hs hq⟩
theorem two_of {α : Type} {l : List α} (h : l.length = 2) : ∃ x y, l = [x, y] := by
  cases l with
  | nil => cases h
  | cons x l => cases l with
    | nil => cases h
    | cons y l => cases l with
      | nil => exact ⟨x, y, rfl⟩
      | cons z l => simp at h
def two {α : Type} (enc : α → Value × Value) (xs : List α) : List Value := xs.flatMap fun x => [(enc x).1, (enc x).2]
theorem two_len {α : Type} (enc : α → Value × Value) (xs : List α) : (two enc xs).length = xs.length * 2 := by
  induction xs with
  | nil => rfl
  | cons s ss ih => simp only [two, List.flatMap_cons, List.length_append, List.length_cons, List.length_nil] at ih ⊢; omega
theorem two_get {α : Type} (enc : α → Value × Value) : ∀ {ss : List α} {k : Nat} {s : α}, ss[k]? = some s → (two enc ss)[k * 2]? = some (enc s).1 ∧ (two enc ss)[k * 2 + 1]? = some (enc s).2
  | [], _, _, h => by simp at h
  | t :: ss, 0, s, h => by simp at h; subst h; simp [two]
  | t :: ss, k + 1, s, h => by
    have := two_get enc (ss := ss) (k := k) (by simpa using h)
    have e : two enc (t :: ss) = (enc t).1 :: (enc t).2 :: two enc ss := rfl
    rw [e, show (k + 1) * 2 = k * 2 + 2 by omega]
    simpa using this
theorem sl_of {α : Type} (enc : α → Value × Value) (R : Nat → α → Prop) {w : World} {a : Addr} {len cap : Nat}
    (h : ∀ i, i < len → ∃ x, w.cell? (a.add (i * 2)) = some (enc x).1 ∧ w.cell? (a.add (i * 2 + 1)) = some (enc x).2 ∧ R i x) :
    ∃ xs : List α, xs.length = len ∧ Sl (init w) (.slice (some a) len cap) len 2 (two enc xs) ∧ ∀ i x, xs[i]? = some x → R i x := by
  by_cases hl : len = 0
  · subst hl
    exact ⟨[], rfl, ⟨some a, cap, rfl, rfl, fun h => by omega⟩, fun i x hx => by simp at hx⟩
  · obtain ⟨x0, hx0⟩ := h 0 (by omega)
    obtain ⟨f, hf⟩ := Classical.axiomOfChoice (r := fun (i : Nat) (x : α) => i < len → w.cell? (a.add (i * 2)) = some (enc x).1 ∧ w.cell? (a.add (i * 2 + 1)) = some (enc x).2 ∧ R i x) (fun i => by
      by_cases hi : i < len
      · obtain ⟨x, hx⟩ := h i hi
        exact ⟨x, fun _ => hx⟩
      · exact ⟨x0, fun h => absurd h hi⟩)
    have hlen : ((List.range len).map f).length = len := by simp
    refine ⟨(List.range len).map f, hlen, ⟨some a, cap, rfl, by rw [two_len, hlen], fun _ => ?_⟩, fun i x hx => ?_⟩
    · obtain ⟨b, o, sp⟩ := a
      have hsp : sp = none := by
        have := hx0.1
        simpa [Addr.add] using World.cell?_spot this
      subst hsp
      refine ⟨b, o, rfl, fun j u hj => ?_⟩
      have hjl : j < len * 2 := by
        have := (List.getElem?_eq_some_iff.1 hj).1
        rw [two_len, hlen] at this; exact this
      have hk : ((List.range len).map f)[j / 2]? = some (f (j / 2)) := by
        rw [List.getElem?_map, List.getElem?_range (by omega)]; rfl
      obtain ⟨h1, h2⟩ := two_get enc hk
      obtain ⟨c1, c2, _⟩ := hf (j / 2) (by omega)
      apply Rd.init
      rcases Nat.mod_two_eq_zero_or_one j with hm | hm
      · have e : j / 2 * 2 = j := by omega
        rw [e] at h1 c1
        rw [h1] at hj
        rw [add_plain] at c1
        rw [c1]; exact hj
      · have e : j / 2 * 2 + 1 = j := by omega
        rw [e] at h2 c2
        rw [h2] at hj
        rw [add_plain] at c2
        rw [c2]; exact hj
    · have hi : i < len := by
        have := (List.getElem?_eq_some_iff.1 hx).1
        rw [hlen] at this; exact this
      rw [List.getElem?_map, List.getElem?_range hi] at hx
      simp only [Option.map_some, Option.some.injEq] at hx
      subst hx
      exact (hf i hi).2.2
theorem bulk_one {H : Type} (d : DataW H) : 1 ≤ Rows.uptoBulk d := by
  cases d with
  | lit l => cases l <;> simp [Rows.uptoBulk]
  | _ => simp [Rows.uptoBulk]
theorem bulk_all {H : Type} (l : List (DataW H)) : l.length ≤ Rows.uptoBulkAll l := by
  induction l with
  | nil => simp [Rows.uptoBulkAll]
  | cons x r ih => have := bulk_one x; simp only [Rows.uptoBulkAll, List.length_cons]; omega
theorem bulk_part {H : Type} {d : DataW H} {l : List (DataW H)} (h : d ∈ l) : Rows.uptoBulk d ≤ Rows.uptoBulkAll l := by
  induction l with
  | nil => cases h
  | cons x r ih =>
    simp only [Rows.uptoBulkAll]
    rcases List.mem_cons.1 h with rfl | e
    · omega
    · have := ih e; omega
/-- A sum, item by item, against the bulk of what was read. -/
theorem bulk_sum {H α : Type} {f : α → Nat} : ∀ {xs : List α} {l : List (DataW H)}, xs.length = l.length → (∀ (i : Nat) (x : α) (d : DataW H), xs[i]? = some x → l[i]? = some d → f x ≤ Rows.uptoBulk d) → (xs.map f).sum ≤ Rows.uptoBulkAll l
  | [], [], _, _ => by simp [Rows.uptoBulkAll]
  | x :: xs, d :: l, h, k => by
    have h1 := k 0 x d rfl rfl
    have h2 := bulk_sum (f := f) (xs := xs) (l := l) (by simpa using h) (fun i x d h1 h2 => k (i + 1) x d (by simpa using h1) (by simpa using h2))
    simp only [List.map_cons, List.sum_cons, Rows.uptoBulkAll]
    omega
  | [], _ :: _, h, _ => by simp at h
  | _ :: _, [], h, _ => by simp at h
theorem weightsAll_mem {H : Type} {P : Program} {e : TypeId} : ∀ {ds : List (DataW H)} {d : DataW H}, d ∈ ds → ∀ n ∈ d.weights P e, n ∈ DataW.weightsAll P e ds
  | [], _, h, _, _ => by simp at h
  | d0 :: r, d, h, n, hn => by
    simp only [DataW.weightsAll, List.mem_append]
    rcases List.mem_cons.1 h with rfl | h
    · exact .inl hn
    · exact .inr (weightsAll_mem h n hn)
section
variable {H : Type} {enc : TypeId × Value → H} {w : World} {base : Nat} {spare : Nat → Bool} {held : Bool}
theorem open_syms {fuel : Nat} {v : Value} {x : DataW H × List MemPlace} (h : DataW.trod enc Try.prog w base spare held fuel 40 [v] = some x) (hz : ∀ n ∈ x.1.weights Try.prog 40, n ≤ reachBytes) :
    ∃ ss : List SymD, SymsR (init w) v ss ∧ ss.length * 16 ≤ 140737488355328 ∧ ss.length + 1 ≤ Rows.uptoBulk x.1 := by
  have hb : Try.prog.bytesOf 63 = 16 := by kernel_rfl
  have hr := reachBytes_lt
  rcases open_slice_fields Try.underlying40 Try.underlying63 (by kernel_rfl) (by kernel_rfl) h with ⟨hc, _⟩ | ⟨a, len, cap, m, D, Pl, hc, _, hl, hm, hmm, hx, hi⟩
  · simp only [List.cons.injEq, and_true] at hc
    subst hc
    exact ⟨[], ⟨none, 0, rfl, rfl, fun h => by simp at h⟩, by simp, bulk_one _⟩
  · simp only [List.cons.injEq, and_true] at hc
    subst hc
    have hlm : len ≤ m := by rw [hmm]; split <;> omega
    obtain ⟨ss, hlen, hs, _⟩ := sl_of (cap := cap) (fun s : SymD => (.bool s.1, i64 s.2)) (fun _ _ => True) (w := w) (a := a) (len := len) (fun i hil => by
      obtain ⟨ys, n, _, _, _, hf⟩ := hi i (by omega)
      obtain ⟨u0, y0, a0, _, t0⟩ := hf 0 _ rfl
      obtain ⟨u1, y1, a1, _, t1⟩ := hf 1 _ rfl
      obtain ⟨b, hb', _⟩ := DataW.trod_bool Try.underlying4 t0
      obtain ⟨k, hk, _⟩ := DataW.trod_int Try.underlying3 t1
      simp only [List.cons.injEq, and_true] at hb' hk
      subst hb' hk
      exact ⟨(b, k), a0, a1, trivial⟩)
    subst hx
    refine ⟨ss, by rw [← hlen] at hs ⊢; exact hs, ?_, by have := bulk_all ((List.range len).map D); simp only [Rows.uptoBulk]; simp at this; omega⟩
    have := hz (((List.range len).map D).length + ((List.range (m - len)).map fun j => D (len + j)).length |> (· * Try.prog.bytesOf 63)) (by simp [DataW.weights, Try.underlying40])
    rw [hb] at this
    simp at this
    omega
theorem open_prods {fuel : Nat} {v : Value} {x : DataW H × List MemPlace} (h : DataW.trod enc Try.prog w base spare held fuel 22 [v] = some x) (hz : ∀ n ∈ x.1.weights Try.prog 22, n ≤ reachBytes) :
    ∃ ps : List ProdD, PrsR (init w) v ps ∧ ps.length * 32 ≤ 140737488355328 ∧ (∀ p ∈ ps, p.2.length * 16 ≤ 140737488355328) ∧ (ps.map fun p => p.2.length + 1).sum ≤ Rows.uptoBulk x.1 := by
  have hb : Try.prog.bytesOf 42 = 32 := by kernel_rfl
  have hr := reachBytes_lt
  rcases open_slice_fields Try.underlying22 Try.underlying42 (by kernel_rfl) (by kernel_rfl) h with ⟨hc, _⟩ | ⟨a, len, cap, m, D, Pl, hc, _, hl, hm, hmm, hx, hi⟩
  · simp only [List.cons.injEq, and_true] at hc
    subst hc
    exact ⟨[], ⟨[], ⟨none, 0, rfl, rfl, fun h => by simp at h⟩, fun k p hk => by simp at hk⟩, by simp, fun p hp => by simp at hp, by simp⟩
  · simp only [List.cons.injEq, and_true] at hc
    subst hc
    have hlm : len ≤ m := by rw [hmm]; split <;> omega
    subst hx
    obtain ⟨xs, hlen, hs, hxs⟩ := sl_of (cap := cap) (fun y : ProdD × Value => (i64 y.1.1, y.2)) (fun i y => SymsR (init w) y.2 y.1.2 ∧ y.1.2.length * 16 ≤ 140737488355328 ∧ y.1.2.length + 1 ≤ Rows.uptoBulk (D i)) (w := w) (a := a) (len := len) (fun i hil => by
      obtain ⟨ys, n, hD, _, hyl, hf⟩ := hi i (by omega)
      obtain ⟨u0, y0, a0, _, t0⟩ := hf 0 _ rfl
      obtain ⟨u1, y1, a1, g1, t1⟩ := hf 1 _ rfl
      obtain ⟨k, hk, _⟩ := DataW.trod_int Try.underlying3 t0
      simp only [List.cons.injEq, and_true] at hk
      subst hk
      obtain ⟨ss, hss, hsz, hbk⟩ := open_syms t1 (fun n hn => hz n (by
        have h1 : n ∈ (D i).weights Try.prog 42 := by
          rw [hD]
          simp only [DataW.weights, Try.underlying42]
          exact DataW.weights_mem_each (j := 1) rfl (by rw [List.getElem?_map, g1]; rfl) n hn
        have h2 : n ∈ DataW.weightsAll Try.prog 42 ((List.range len).map D) := weightsAll_mem (List.mem_map.2 ⟨i, by simpa using hil, rfl⟩) n h1
        simp only [DataW.weights, Try.underlying22]
        exact List.mem_cons_of_mem _ (List.mem_append.2 (.inl h2))))
      exact ⟨((k, ss), u1), a0, a1, hss, hsz, by
        rw [hD]
        simp only [Rows.uptoBulk]
        have := bulk_part (l := ys.map (·.1)) (d := y1.1) (List.mem_map.2 ⟨y1, List.mem_of_getElem? g1, rfl⟩)
        omega⟩)
    refine ⟨xs.map (·.1), ⟨two (fun y : ProdD × Value => (i64 y.1.1, y.2)) xs, by rw [List.length_map, hlen]; exact hs, fun k p hk => ?_⟩, ?_, fun p hp => ?_, ?_⟩
    · rw [List.getElem?_map] at hk
      obtain ⟨y, hy, rfl⟩ := Option.map_eq_some_iff.1 hk
      obtain ⟨h1, h2⟩ := two_get (fun y : ProdD × Value => (i64 y.1.1, y.2)) hy
      exact ⟨y.2, h1, h2, (hxs k y hy).1⟩
    · have := hz (((List.range len).map D).length + ((List.range (m - len)).map fun j => D (len + j)).length |> (· * Try.prog.bytesOf 42)) (by simp [DataW.weights, Try.underlying22])
      rw [hb] at this
      simp at this
      rw [List.length_map, hlen]
      omega
    · obtain ⟨y, hy, rfl⟩ := List.mem_map.1 hp
      obtain ⟨i, hi⟩ := List.getElem?_of_mem hy
      exact (hxs i y hi).2.1
    · have e : (xs.map (·.1)).map (fun p : ProdD => p.2.length + 1) = xs.map fun y => y.1.2.length + 1 := by rw [List.map_map]; rfl
      rw [e]
      have := bulk_sum (f := fun y : ProdD × Value => y.1.2.length + 1) (xs := xs) (l := (List.range len).map D) (by simp [hlen]) (fun i y d h1 h2 => by
        have hi : i < len := by
          have := (List.getElem?_eq_some_iff.1 h1).1
          rw [hlen] at this; exact this
        rw [List.getElem?_map, List.getElem?_range hi] at h2
        simp only [Option.map_some, Option.some.injEq] at h2
        subst h2
        exact (hxs i y h1).2.2)
      simp only [Rows.uptoBulk]
      omega
theorem open_cnfB {fuel : Nat} {cs : Array Value} {x : DataW H × List MemPlace} (h : DataW.trod enc Try.prog w base spare held fuel 24 (Value.agg cs).cells.toList = some x) (hz : ∀ n ∈ x.1.weights Try.prog 24, n ≤ reachBytes) :
    ∃ C : CnfD, CnfR (init w) (.agg cs) C ∧ Fits C ∧ (C.prods.map fun p => p.2.length + 1).sum ≤ Rows.uptoBulk x.1 := by
  have hC : Try.prog.cellsOf 24 = 2 := by kernel_rfl
  have hC3 : Try.prog.cellsOf 3 = 1 := by kernel_rfl
  have hCp : Try.prog.cellsOf 22 = 1 := by kernel_rfl
  obtain ⟨ys, n, _, rfl, hl, hyl, hf⟩ := DataW.trod_struct Try.underlying24 h
  have hcs : (Value.agg cs).cells = cs := rfl
  rw [hcs] at hl hf
  rw [hC] at hl
  obtain ⟨c0, c1, e⟩ := two_of hl
  obtain rfl : cs = [c0, c1].toArray := by rw [← e]
  have f0 := hf 0 { name := "Nts", type := 3, offset := 0, embedded := false, tag := "", pkgPath := "", byteOffset := 0 } rfl
  have f1 := hf 1 { name := "Prods", type := 22, offset := 1, embedded := false, tag := "", pkgPath := "", byteOffset := 8 } rfl
  dsimp only at f0 f1
  rw [hC3] at f0
  rw [hCp] at f1
  have y0 : ∃ y, ys[0]? = some y := ⟨ys[0]'(by rw [hyl]; decide), List.getElem?_eq_getElem _⟩
  have y1 : ∃ y, ys[1]? = some y := ⟨ys[1]'(by rw [hyl]; decide), List.getElem?_eq_getElem _⟩
  obtain ⟨y0, g0⟩ := y0
  obtain ⟨y1, g1⟩ := y1
  rw [g0] at f0
  rw [g1] at f1
  obtain ⟨k, hk, _⟩ := DataW.trod_int Try.underlying3 f0
  have hk : c0 = i64 k := by simpa using hk
  subst hk
  obtain ⟨ps, h1, h2, h3, h4⟩ := open_prods f1 (fun n hn => hz n (by
    simp only [DataW.weights, Try.underlying24]
    exact DataW.weights_mem_each (j := 1) rfl (by rw [List.getElem?_map, g1]; rfl) n hn))
  refine ⟨⟨k, ps⟩, ⟨c1, rfl, h1⟩, ⟨h2, h3⟩, ?_⟩
  have := bulk_part (l := ys.map (·.1)) (d := y1.1) (List.mem_map.2 ⟨y1, List.mem_of_getElem? g1, rfl⟩)
  simp only [Rows.uptoBulk]
  omega
theorem open_cnf {fuel : Nat} {cs : Array Value} {x : DataW H × List MemPlace} (h : DataW.trod enc Try.prog w base spare held fuel 24 (Value.agg cs).cells.toList = some x) (hz : ∀ n ∈ x.1.weights Try.prog 24, n ≤ reachBytes) :
    ∃ C : CnfD, CnfR (init w) (.agg cs) C ∧ Fits C := let ⟨C, h1, h2, _⟩ := open_cnfB h hz; ⟨C, h1, h2⟩
/-- A slice of numbers as an argument. -/
theorem open_intsB {fuel : Nat} {v : Value} {x : DataW H × List MemPlace} (h : DataW.trod enc Try.prog w base spare held fuel 30 [v] = some x) :
    ∃ l : List Int, Sl (init w) v l.length 1 (l.map i64) ∧ l.length ≤ Rows.uptoBulk x.1 := by
  rcases ChangeShapes.open_ints Try.underlying30 Try.underlying3 (by kernel_rfl) h with ⟨hc, _⟩ | ⟨a, len, cap, zs, hc, _, hl, _, hzl, hx, hcell, _⟩
  · simp only [List.cons.injEq, and_true] at hc
    subst hc
    exact ⟨[], ⟨none, 0, rfl, rfl, fun h => by simp at h⟩, by simp⟩
  · simp only [List.cons.injEq, and_true] at hc
    subst hc hx
    have hlz : len ≤ zs.length := by rw [hzl]; split <;> omega
    have hlen : (zs.take len).length = len := by simp; omega
    refine ⟨zs.take len, ⟨some a, cap, by rw [hlen], by simp, fun h0 => ?_⟩, ?_⟩
    · rw [hlen] at h0
      obtain ⟨b, o, sp⟩ := a
      have hsp : sp = none := by
        have := hcell 0 (by omega)
        simpa [Addr.add] using World.cell?_spot this
      subst hsp
      refine ⟨b, o, rfl, fun j u hj => ?_⟩
      have hjl : j < len := by
        have := (List.getElem?_eq_some_iff.1 hj).1
        rw [List.length_map, hlen] at this; exact this
      apply Rd.init
      have := hcell j (by omega)
      rw [add_plain] at this
      rw [this, ← hj, List.getElem?_map, List.getElem?_take_of_lt hjl, List.getD_eq_getElem?_getD]
      have hj2 : j < zs.length := by omega
      simp [hj2]
    · have h1 := bulk_all (H := H) (lits .i64 (zs.take len))
      simp only [Rows.uptoBulk]
      have h2 : (lits (H := H) .i64 (zs.take len)).length = (zs.take len).length := by unfold lits; simp
      omega
end
end Go.Proofs.Ytcemehocbemfmaa
namespace Go.Proofs.Ytcemehocbemfmaa
open Go Go.ChangeShapes Go.WideShapes Go.ChangeAt Go.RowKit Go.Deep
section
variable {H : Type} {enc : TypeId × Value → H} {w : World} {base : Nat} {spare : Nat → Bool} {held : Bool}
theorem open_cap {fuel : Nat} {v : Value} {x : DataW H × List MemPlace} (h : DataW.trod enc Try.prog w base spare held fuel 40 [v] = some x) : capB v := by
  rcases open_slice_fields Try.underlying40 Try.underlying63 (by kernel_rfl) (by kernel_rfl) h with ⟨hc, _⟩ | ⟨a, len, cap, m, D, Pl, hc, _, hl, _⟩
  · simp only [List.cons.injEq, and_true] at hc
    exact ⟨none, 0, 0, hc, Nat.le_refl _⟩
  · simp only [List.cons.injEq, and_true] at hc
    exact ⟨some a, len, cap, hc, hl⟩
theorem open_prodsC {fuel : Nat} {v : Value} {x : DataW H × List MemPlace} (h : DataW.trod enc Try.prog w base spare held fuel 22 [v] = some x) (hz : ∀ n ∈ x.1.weights Try.prog 22, n ≤ reachBytes) :
    ∃ ps : List ProdD, PrsC (init w) v ps ∧ ps.length * 32 ≤ 140737488355328 ∧ (∀ p ∈ ps, p.2.length * 16 ≤ 140737488355328) ∧ (ps.map fun p => p.2.length + 1).sum ≤ Rows.uptoBulk x.1 := by
  have hb : Try.prog.bytesOf 42 = 32 := by kernel_rfl
  have hr := reachBytes_lt
  rcases open_slice_fields Try.underlying22 Try.underlying42 (by kernel_rfl) (by kernel_rfl) h with ⟨hc, _⟩ | ⟨a, len, cap, m, D, Pl, hc, _, hl, hm, hmm, hx, hi⟩
  · simp only [List.cons.injEq, and_true] at hc
    subst hc
    exact ⟨[], ⟨[], ⟨none, 0, rfl, rfl, fun h => by simp at h⟩, fun k p hk => by simp at hk⟩, by simp, fun p hp => by simp at hp, by simp⟩
  · simp only [List.cons.injEq, and_true] at hc
    subst hc
    have hlm : len ≤ m := by rw [hmm]; split <;> omega
    subst hx
    obtain ⟨xs, hlen, hs, hxs⟩ := sl_of (cap := cap) (fun y : ProdD × Value => (i64 y.1.1, y.2)) (fun i y => (SymsR (init w) y.2 y.1.2 ∧ capB y.2) ∧ y.1.2.length * 16 ≤ 140737488355328 ∧ y.1.2.length + 1 ≤ Rows.uptoBulk (D i)) (w := w) (a := a) (len := len) (fun i hil => by
      obtain ⟨ys, n, hD, _, hyl, hf⟩ := hi i (by omega)
      obtain ⟨u0, y0, a0, _, t0⟩ := hf 0 _ rfl
      obtain ⟨u1, y1, a1, g1, t1⟩ := hf 1 _ rfl
      obtain ⟨k, hk, _⟩ := DataW.trod_int Try.underlying3 t0
      simp only [List.cons.injEq, and_true] at hk
      subst hk
      obtain ⟨ss, hss, hsz, hbk⟩ := open_syms t1 (fun n hn => hz n (by
        have h1 : n ∈ (D i).weights Try.prog 42 := by
          rw [hD]
          simp only [DataW.weights, Try.underlying42]
          exact DataW.weights_mem_each (j := 1) rfl (by rw [List.getElem?_map, g1]; rfl) n hn
        have h2 : n ∈ DataW.weightsAll Try.prog 42 ((List.range len).map D) := weightsAll_mem (List.mem_map.2 ⟨i, by simpa using hil, rfl⟩) n h1
        simp only [DataW.weights, Try.underlying22]
        exact List.mem_cons_of_mem _ (List.mem_append.2 (.inl h2))))
      exact ⟨((k, ss), u1), a0, a1, ⟨hss, open_cap t1⟩, hsz, by
        rw [hD]
        simp only [Rows.uptoBulk]
        have := bulk_part (l := ys.map (·.1)) (d := y1.1) (List.mem_map.2 ⟨y1, List.mem_of_getElem? g1, rfl⟩)
        omega⟩)
    refine ⟨xs.map (·.1), ⟨two (fun y : ProdD × Value => (i64 y.1.1, y.2)) xs, by rw [List.length_map, hlen]; exact hs, fun k p hk => ?_⟩, ?_, fun p hp => ?_, ?_⟩
    · rw [List.getElem?_map] at hk
      obtain ⟨y, hy, rfl⟩ := Option.map_eq_some_iff.1 hk
      obtain ⟨h1, h2⟩ := two_get (fun y : ProdD × Value => (i64 y.1.1, y.2)) hy
      exact ⟨y.2, h1, h2, (hxs k y hy).1.1, (hxs k y hy).1.2⟩
    · have := hz (((List.range len).map D).length + ((List.range (m - len)).map fun j => D (len + j)).length |> (· * Try.prog.bytesOf 42)) (by simp [DataW.weights, Try.underlying22])
      rw [hb] at this
      simp at this
      rw [List.length_map, hlen]
      omega
    · obtain ⟨y, hy, rfl⟩ := List.mem_map.1 hp
      obtain ⟨i, hi⟩ := List.getElem?_of_mem hy
      exact (hxs i y hi).2.1
    · have e : (xs.map (·.1)).map (fun p : ProdD => p.2.length + 1) = xs.map fun y => y.1.2.length + 1 := by rw [List.map_map]; rfl
      rw [e]
      have := bulk_sum (f := fun y : ProdD × Value => y.1.2.length + 1) (xs := xs) (l := (List.range len).map D) (by simp [hlen]) (fun i y d h1 h2 => by
        have hi : i < len := by
          have := (List.getElem?_eq_some_iff.1 h1).1
          rw [hlen] at this; exact this
        rw [List.getElem?_map, List.getElem?_range hi] at h2
        simp only [Option.map_some, Option.some.injEq] at h2
        subst h2
        exact (hxs i y h1).2.2)
      simp only [Rows.uptoBulk]
      omega
theorem open_cnfC {fuel : Nat} {cs : Array Value} {x : DataW H × List MemPlace} (h : DataW.trod enc Try.prog w base spare held fuel 24 (Value.agg cs).cells.toList = some x) (hz : ∀ n ∈ x.1.weights Try.prog 24, n ≤ reachBytes) :
    ∃ C : CnfD, CnfC (init w) (.agg cs) C ∧ Fits C ∧ (C.prods.map fun p => p.2.length + 1).sum ≤ Rows.uptoBulk x.1 := by
  have hC : Try.prog.cellsOf 24 = 2 := by kernel_rfl
  have hC3 : Try.prog.cellsOf 3 = 1 := by kernel_rfl
  have hCp : Try.prog.cellsOf 22 = 1 := by kernel_rfl
  obtain ⟨ys, n, _, rfl, hl, hyl, hf⟩ := DataW.trod_struct Try.underlying24 h
  have hcs : (Value.agg cs).cells = cs := rfl
  rw [hcs] at hl hf
  rw [hC] at hl
  obtain ⟨c0, c1, e⟩ := two_of hl
  obtain rfl : cs = [c0, c1].toArray := by rw [← e]
  have f0 := hf 0 { name := "Nts", type := 3, offset := 0, embedded := false, tag := "", pkgPath := "", byteOffset := 0 } rfl
  have f1 := hf 1 { name := "Prods", type := 22, offset := 1, embedded := false, tag := "", pkgPath := "", byteOffset := 8 } rfl
  dsimp only at f0 f1
  rw [hC3] at f0
  rw [hCp] at f1
  have y0 : ∃ y, ys[0]? = some y := ⟨ys[0]'(by rw [hyl]; decide), List.getElem?_eq_getElem _⟩
  have y1 : ∃ y, ys[1]? = some y := ⟨ys[1]'(by rw [hyl]; decide), List.getElem?_eq_getElem _⟩
  obtain ⟨y0, g0⟩ := y0
  obtain ⟨y1, g1⟩ := y1
  rw [g0] at f0
  rw [g1] at f1
  obtain ⟨k, hk, _⟩ := DataW.trod_int Try.underlying3 f0
  have hk : c0 = i64 k := by simpa using hk
  subst hk
  obtain ⟨ps, h1, h2, h3, h4⟩ := open_prodsC f1 (fun n hn => hz n (by
    simp only [DataW.weights, Try.underlying24]
    exact DataW.weights_mem_each (j := 1) rfl (by rw [List.getElem?_map, g1]; rfl) n hn))
  refine ⟨⟨k, ps⟩, ⟨c1, rfl, h1⟩, ⟨h2, h3⟩, ?_⟩
  have := bulk_part (l := ys.map (·.1)) (d := y1.1) (List.mem_map.2 ⟨y1, List.mem_of_getElem? g1, rfl⟩)
  simp only [Rows.uptoBulk]
  omega
end
theorem sum_mem {α : Type} {f : α → Nat} : ∀ {l : List α} {x : α}, x ∈ l → f x ≤ (l.map f).sum
  | a :: l, x, h => by
    rw [List.map_cons, List.sum_cons]
    rcases List.mem_cons.1 h with rfl | h
    · omega
    · have := sum_mem (f := f) h; omega
theorem sum_len {α : Type} {f : α → Nat} (hf : ∀ x, 1 ≤ f x) : ∀ l : List α, l.length ≤ (l.map f).sum
  | [] => Nat.le_refl _
  | a :: l => by
    rw [List.map_cons, List.sum_cons, List.length_cons]
    have := sum_len hf l
    have := hf a
    omega
theorem bulk_small {C : CnfD} {n : Nat} (h : (C.prods.map fun p => p.2.length + 1).sum ≤ n) (hn : n ≤ 1048576) : ¬ 1048576 < C.prods.length ∧ ∀ p ∈ C.prods, ¬ 1048576 < p.2.length := by
  have h1 := sum_len (f := fun p : ProdD => p.2.length + 1) (fun _ => by omega) C.prods
  refine ⟨by omega, fun p hp => ?_⟩
  have := sum_mem (f := fun p : ProdD => p.2.length + 1) hp
  omega
end Go.Proofs.Ytcemehocbemfmaa
