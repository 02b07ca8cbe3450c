/-
  least.grow: productions change something until none does any more.
-/
import Derived.Test.YtjokibfldngkeaaLE
namespace Go.Proofs.Ytjokibfldngkeaa
open Go
attribute [local irreducible] G GO GR GT Fn FnV pt init exs pur sat own ImpS
theorem Sb.mid {Y F : List HP} {x : HP} : Sb (Y ++ F) (Y ++ (x :: F)) := ⟨[x], by
  rw [List.append_assoc]
  exact List.Perm.append_left Y (List.perm_append_singleton x F).symm⟩
theorem tk_mid {Y F : List HP} {x : HP} : Tks Y (x :: (Y ++ F)) (x :: F) := List.perm_middle.symm
theorem tk_mid2 {Y F : List HP} {x y : HP} : Tks Y (x :: y :: (Y ++ F)) (x :: y :: F) := by
  have h1 : (x :: y :: (Y ++ F)).Perm (x :: (Y ++ (y :: F))) := List.Perm.cons _ List.perm_middle.symm
  exact h1.trans List.perm_middle.symm
theorem Sb.mid2 {Y F : List HP} {x y : HP} : Sb (y :: (Y ++ F)) (Y ++ (x :: y :: F)) := ⟨[x], by
  have h1 : (Y ++ (x :: y :: F)).Perm (x :: (Y ++ (y :: F))) := List.perm_middle
  have h2 : (x :: (Y ++ (y :: F))).Perm (x :: y :: (Y ++ F)) := List.Perm.cons _ List.perm_middle
  exact (h1.trans h2).trans (List.perm_append_singleton x (y :: (Y ++ F))).symm⟩
def prodV (p : ProdD) (bv : Value) : Value := .agg [i64 p.1, bv].toArray
inductive Reach {σ : Type} (step : σ → ProdD → σ × Bool) (ps : List ProdD) : σ → σ → Prop
  | refl (s : σ) : Reach step ps s s
  | more {s t : σ} {p : ProdD} : Reach step ps s t → p ∈ ps → Reach step ps s (step t p).1
theorem Reach.inv {σ : Type} {step : σ → ProdD → σ × Bool} {ps : List ProdD} {J : σ → Prop} (h : ∀ s p, J s → p ∈ ps → J (step s p).1) {s t : σ} (r : Reach step ps s t) (hs : J s) : J t := by
  induction r with
  | refl => exact hs
  | more _ hp ih => exact h _ _ ih hp
set_option maxHeartbeats 4000000 in
set_option maxRecDepth 20000 in
theorem grow_spec {σ : Type} (q : HP) (v f : Value) (C : CnfD) (hv : CnfR q v C) (hz : Fits C) (M : σ → List HP) (I : σ → Prop) (step : σ → ProdD → σ × Bool) (μ : σ → Nat)
    (hf : ∀ s p, I s → p ∈ C.prods → ∀ bv, SymsR q bv p.2 → FnV Try.prog f [prodV p bv] (q :: M s) (fun r Q => r = .bool (step s p).2 ∧ Q = q :: M (step s p).1))
    (hI : ∀ s p, I s → p ∈ C.prods → I (step s p).1) (hdn : ∀ s p, I s → p ∈ C.prods → (step s p).2 = true → μ (step s p).1 < μ s) (hst : ∀ s p, (step s p).2 = false → (step s p).1 = s) (s0 : σ) (h0 : I s0) :
    Fn Try.prog 37 #[v, f] (q :: M s0) (fun _ Q => ∃ s', I s' ∧ Reach step C.prods s0 s' ∧ (∀ p ∈ C.prods, (step s' p).2 = false) ∧ Q = q :: M s') := by
  obtain ⟨pv, rfl, hp⟩ := hv
  obtain ⟨a0, cap0, rfl⟩ := hp.form
  have hz1 := hz.1
  refine Fn.mk Try.func37 rfl rfl fun w0 F => ?_
  (refine G.seq ?_; refine G.region ?_)
  refine GO.box rfl rfl rfl fun b2 => ?_
  (refine GO.nil ?_; refine kthen_n ?_; refine G.seq ?_; refine G.region ?_; refine GO.assign rfl rfl ?_; refine GO.nil ?_; refine kthen_n ?_; refine G.block ?_)
  refine G.loop2 (fun (_ : σ) (again : Bool) => [(1, f), (2, .pointer (some ⟨b2, 0, none⟩)), (4, .bool again)])
    (fun s _ => pt b2 (row [i64 C.nts, .slice a0 C.prods.length cap0] 24) :: ((q :: M s) ++ F))
    (fun s again => I s ∧ Reach step C.prods s0 s ∧ (again = false → ∀ p ∈ C.prods, (step s p).2 = false)) (fun s again => 2 * μ s + (if again then 1 else 0)) s0 true ⟨h0, .refl s0, fun h => by cases h⟩ ?_ ?_ ?_
  · (refine SubE.c rfl rfl ?_; refine SubE.c rfl rfl ?_; refine SubE.c rfl rfl ?_; exact SubE.n)
  · exact Sb.r
  rintro s again ⟨hIs, hR, hA⟩
  (refine G.seq ?_; refine G.seq ?_; refine G.region ?_; refine GO.move rfl rfl ?_; refine GO.nil ?_; refine kthen_n ?_)
  cases again with
  | false =>
    (refine G.condF rfl rfl ?_; refine G.exit ?_; refine kthen_x ?_; refine kthen_x ?_; refine kblock_x ?_)
    refine KF.n0 rfl (Q := q :: M s) ⟨s, hIs, hR, hA rfl, rfl⟩ (Sb.s Sb.r)
  | true =>
    (refine G.condT rfl rfl ?_; refine G.skip ?_; refine kthen_n ?_; refine G.block ?_; refine G.seq ?_; refine G.region ?_; refine GO.assign rfl rfl ?_; refine GO.nil ?_; refine kthen_n ?_; refine G.seq ?_; refine G.region ?_; refine GO.fieldAddr rfl rfl ?_; refine GO.load1 rfl rfl rfl Tk.h rfl ?_; refine GO.lenS rfl rfl ?_; refine GO.move rfl rfl ?_; refine GO.nil ?_; refine kthen_n ?_; refine G.block ?_)
    refine G.loop3 (fun (k : Nat) (_ : σ) (ag : Bool) => [(1, f), (2, .pointer (some ⟨b2, 0, none⟩)), (4, .bool ag), (9, .slice a0 C.prods.length cap0), (10, i64 C.prods.length), (11, i64 k)])
      (fun _ t _ => pt b2 (row [i64 C.nts, .slice a0 C.prods.length cap0] 24) :: ((q :: M t) ++ F))
      (fun k t ag => k ≤ C.prods.length ∧ I t ∧ Reach step C.prods s0 t ∧ (ag = true → μ t < μ s) ∧ (ag = false → t = s ∧ ∀ j p, j < k → C.prods[j]? = some p → (step s p).2 = false)) (fun k _ _ => C.prods.length - k) 0 s false
      ⟨by omega, hIs, hR, (fun h => by cases h), fun _ => ⟨rfl, fun j p hj => by omega⟩⟩ ?_ ?_ ?_
    · (refine SubE.c rfl rfl ?_; refine SubE.c rfl rfl ?_; refine SubE.c rfl rfl ?_; refine SubE.c rfl rfl ?_; refine SubE.c rfl rfl ?_; refine SubE.c rfl rfl ?_; exact SubE.n)
    · exact Sb.r
    rintro k t ag ⟨hk, hIt, hRt, hg1, hg2⟩
    (refine G.seq ?_; refine G.region ?_; refine GO.lti rfl rfl rfl ?_; refine GO.nil ?_; refine kthen_n ?_; refine G.seq ?_)
    refine G.condD rfl (fun hlt => ?_) (fun hge => ?_)
    · have hlt' : k < C.prods.length := by omega
      obtain ⟨p, hpk⟩ : ∃ p, C.prods[k]? = some p := ⟨C.prods[k], by simp [hlt']⟩
      have hpm := List.mem_of_getElem? hpk
      obtain ⟨b, o, bv, rfl, _, r1, r2, hs⟩ := hp.at hpk
      obtain ⟨ab, capb, rfl⟩ := hs.form
      (refine G.skip ?_; refine kthen_n ?_; refine G.seq ?_; refine G.block ?_; refine G.seq ?_; refine G.region ?_; refine GO.idxS rfl rfl rfl ⟨rfl, by omega⟩ ?_)
      refine GO.load2 (q := q) rfl rfl rfl (Tk.t Tk.h) r1 r2 ?_
      refine GO.alloc rfl fun b6 => ?_
      refine GO.storeW rfl rfl Tk.h ⟨rfl, rfl⟩ (by simp [Value.oneCell']) ?_
      (refine GO.nil ?_; refine kthen_n ?_; refine G.region ?_; refine GO.move rfl rfl ?_)
      refine GO.loadW rfl rfl rfl Tk.h rfl ?_
      refine GO.callV1 rfl rfl rfl (hf t p hIt hpm _ hs) tk_mid2 ?_
      rintro _ _ ⟨rfl, rfl⟩
      have hIt' := hI t p hIt hpm
      have hRt' := Reach.more hRt hpm
      cases hb : (step t p).2 with
      | true =>
        have hm := hdn t p hIt hpm hb
        (refine GO.move rfl rfl ?_; refine GO.gF rfl rfl rfl rfl ?_; refine GO.pickT rfl rfl rfl ?_; refine GO.assign rfl rfl ?_; refine GO.nil ?_; refine kblock_n ?_; refine kthen_n ?_; refine G.region ?_; refine GO.addi rfl rfl rfl (by omega) ?_; refine GO.move rfl rfl ?_; refine GO.nil ?_; refine kthen_n ?_)
        refine ⟨k + 1, (step t p).1, true, ⟨by omega, hIt', hRt', (fun _ => ?_), fun h => by cases h⟩, by omega, ?_, Sb.mid2⟩
        · cases ag with
          | true => have := hg1 rfl; omega
          | false => obtain ⟨e, _⟩ := hg2 rfl; subst e; exact hm
        · (refine SubE.c rfl rfl ?_; refine SubE.c rfl rfl ?_; refine SubE.c rfl rfl ?_; refine SubE.c rfl rfl ?_; refine SubE.c rfl rfl ?_; refine SubE.c rfl rfl ?_; exact SubE.n)
      | false =>
        have he := hst t p hb
        rw [he] at hIt' hRt' ⊢
        (refine GO.move rfl rfl ?_; refine GO.gT rfl rfl rfl ?_; refine GO.move rfl rfl ?_; refine GO.pickF rfl rfl rfl ?_; refine GO.assign rfl rfl ?_; refine GO.nil ?_; refine kblock_n ?_; refine kthen_n ?_; refine G.region ?_; refine GO.addi rfl rfl rfl (by omega) ?_; refine GO.move rfl rfl ?_; refine GO.nil ?_; refine kthen_n ?_)
        refine ⟨k + 1, t, ag, ⟨by omega, hIt, hRt, hg1, fun h => ?_⟩, by omega, ?_, Sb.mid2⟩
        · obtain ⟨e, hj⟩ := hg2 h
          subst e
          refine ⟨rfl, fun j p' hjk hp' => ?_⟩
          by_cases ej : j = k
          · subst ej; rw [hpk] at hp'; simp only [Option.some.injEq] at hp'; subst hp'; exact hb
          · exact hj j p' (by omega) hp'
        · (refine SubE.c rfl rfl ?_; refine SubE.c rfl rfl ?_; refine SubE.c rfl rfl ?_; refine SubE.c rfl rfl ?_; refine SubE.c rfl rfl ?_; refine SubE.c rfl rfl ?_; exact SubE.n)
    · have : k = C.prods.length := by omega
      subst this
      (refine G.exit ?_; refine kthen_x ?_; refine kthen_x ?_; refine kblock_x ?_; refine kblock_n ?_; refine kthen_n ?_)
      refine ⟨t, ag, ⟨hIt, hRt, fun h p hpm => ?_⟩, ?_, ?_, Sb.r⟩
      · obtain ⟨e, hj⟩ := hg2 h
        subst e
        obtain ⟨j, hjl, hj'⟩ := List.getElem_of_mem hpm
        exact hj j p hjl (by rw [List.getElem?_eq_getElem hjl, hj'])
      · cases ag with
        | true => have := hg1 rfl; simp; omega
        | false => obtain ⟨e, _⟩ := hg2 rfl; subst e; simp
      · (refine SubE.c rfl rfl ?_; refine SubE.c rfl rfl ?_; refine SubE.c rfl rfl ?_; exact SubE.n)
end Go.Proofs.Ytjokibfldngkeaa
