/-
  The law LeastCleans.
-/
import Derived.Test.YtcemehocbemfmaaL4
import Derived.Test.YtcemehocbemfmaaLY
import Derived.Test.YtcemehocbemfmaaLQ
namespace Go.Proofs.Ytcemehocbemfmaa
open Go
attribute [local irreducible] G GO GR GT Fn FnV pt init exs pur sat own ImpS
theorem lenF_some {s : Nat → Int} {o : Nat → Bool} {n : Nat} (ho : ∀ i, i < n → o i = decide (0 ≤ s i)) (hs : Shorts s n) : ∀ {ss : List SymD} {m : Int}, (∀ x ∈ ss, symIn n x) → (lenF s ss m).isSome = ss.all (symHas o true)
  | [], m, _ => rfl
  | (true, i) :: r, m, hi => by
    rw [List.all_cons]
    exact lenF_some ho hs (ss := r) (m := min 65 (m + 1)) (fun x hx => hi x (List.mem_cons_of_mem _ hx))
  | (false, i) :: r, m, hi => by
    have h1 := hi (false, i) (by simp) rfl
    dsimp only at h1
    have hi2 : i.toNat < n := by omega
    have h2 := hs i.toNat hi2
    have h3 : symHas o true (false, i) = decide (0 ≤ s i.toNat) := ho _ hi2
    rw [List.all_cons, h3]
    simp only [lenF]
    split
    · rename_i h; rw [h]; rfl
    · rename_i h
      rw [lenF_some ho hs (ss := r) (fun x hx => hi x (List.mem_cons_of_mem _ hx)), decide_eq_true (show 0 ≤ s i.toNat by omega), Bool.true_and]
theorem keep_eq {C : CnfD} {n : Nat} (hin : ∀ p ∈ C.prods, prodIn n p) {o : Nat → Bool} (hR : Reach (cloStep true) C.prods (fun _ => false) o) (hst : ∀ p ∈ C.prods, (cloStep true o p).2 = false) :
    C.prods.filter (keepF o) = C.prods.filter (keepL (leastS C.prods n (n + 1) (fun _ => -1))) := by
  have hsh : Shorts (leastS C.prods n (n + 1) (fun _ => -1)) n := fun i hi => by rw [leastS_end hin i hi]; exact itR_in hin n i hi
  have ho : ∀ i, i < n → o i = decide (0 ≤ leastS C.prods n (n + 1) (fun _ => -1) i) := fun i hi => by rw [fruitful_end hin hR hst i hi, leastS_end hin i hi]
  refine List.filter_congr fun p hp => ?_
  have h1 := lenF_some ho hsh (m := 0) (hin p hp).2
  unfold keepF keepL lg
  rw [← h1]
  cases h : lenF (leastS C.prods n (n + 1) (fun _ => -1)) p.2 0 with
  | none => rfl
  | some k => have := lenF_in hsh (hin p hp).2 (by omega) h; simp; omega
theorem CnfR.two {z : HP} {v : Value} {C : CnfD} (h : CnfR z v C) : ∃ pv, v = .agg [i64 C.nts, pv].toArray ∧ pv.oneCell' = true := by
  obtain ⟨pv, rfl, hp⟩ := h
  obtain ⟨a, cap, rfl⟩ := hp.form
  exact ⟨_, rfl, rfl⟩
set_option maxHeartbeats 4000000 in
set_option maxRecDepth 20000 in
theorem cleans_law (q : HP) (v fv : Value) (C : CnfD) (fr : List Int) (hv : CnfR q v C) (hz : Fits C) (hT : tot C.prods ≤ 2097152) (hfr : IntsR q fv fr) (hfl : fr.length ≤ 2097152) : Fn Try.prog 6 #[v, fv] [q] (fun r Q => r = .bool true ∧ Q = [q]) := by
  have hv0 := hv
  obtain ⟨pv, rfl, hp⟩ := hv
  obtain ⟨a0, cap0, rfl⟩ := hp.form
  obtain ⟨af, capf, rfl⟩ := hfr.form
  refine Fn.mk Try.func6 rfl rfl fun w0 F => ?_
  (refine G.seq ?_; refine G.region ?_; refine GO.box rfl rfl rfl fun b2 => ?_; refine GO.assign rfl rfl ?_; refine GO.nil ?_; refine kthen_n ?_; refine G.seq ?_; refine G.region ?_; refine GO.loadW rfl rfl rfl Tk.h rfl ?_)
  refine GO.call1 rfl rfl (copy_spec q _ C hv0 hz) (Tks.c (Tk.t Tk.h) Tks.n) ?_
  rintro c1 _ ⟨z1, hz1, rfl⟩
  (refine GO.move rfl rfl ?_)
  refine GO.merge (x := z1) (y := q) (Tks.c Tk.h (Tks.c Tk.h Tks.n)) ?_
  refine GO.call2 rfl rfl rfl (clean_spec (star [z1, q]) _ _ C fr (hz1.sup (Sup.left _ _)) hz (hfr.sup (Sup.right _ _)) (by omega)) (Tks.c Tk.h Tks.n) ?_
  rintro _ _ (⟨hok, hall, o1, o2, cs, z, hR1, hS1, hR2, hS2, rfl, hcs, rfl⟩ | ⟨hok, hall, rfl, rfl⟩ | ⟨hok, rfl, rfl⟩)
  · obtain ⟨⟨hn1, hn2⟩, hin⟩ := okC_in hok
    obtain ⟨n, hn⟩ := Int.eq_ofNat_of_zero_le (show 0 ≤ C.nts by omega)
    have hnn : C.nts.toNat = n := by omega
    rw [hn] at hin
    rw [hnn] at hall
    have hke := keep_eq hin hR1 hS1
    rw [hke] at hcs hR2 hS2
    have hcv : (if true = true then (0 : Int) else 220) = 0 := rfl
    obtain ⟨pvc, rfl, h1c⟩ := hcs.two
    dsimp only at hcs ⊢
    refine GO.mem (H' := star [z1, q] :: z :: pt b2 (row [i64 C.nts, .slice a0 C.prods.length cap0] 24) :: F) (by ((refine Sb.c (Tk.t Tk.h) ?_; refine Sb.c Tk.h ?_; refine Sb.c Tk.h ?_); (exact Sb.r))) ?_
    refine GO.flat ?_
    (refine GO.move rfl rfl ?_; refine GO.extract rfl rfl rfl ?_; refine GO.extract rfl rfl rfl ?_; refine GO.alloc rfl fun b5 => ?_; refine GO.storeW rfl rfl Tk.h ⟨rfl, rfl⟩ (by simp [Value.oneCell']; assumption) ?_; refine GO.assign rfl rfl ?_; refine GO.nil ?_; refine kthen_n ?_; refine G.seq ?_; refine G.seq ?_; refine G.region ?_)
    refine GO.call0 rfl (head_spec) Tks.n ?_
    rintro _ _ ⟨rfl, rfl⟩
    (refine GO.not rfl rfl ?_; refine GO.nil ?_; refine kthen_n ?_; refine G.condF rfl rfl ?_; refine G.skip ?_; refine kthen_n ?_; refine G.seq ?_; refine G.seq ?_; refine G.region ?_; refine GO.loadW rfl rfl rfl (Tk.t (Tk.t (Tk.t (Tk.t Tk.h)))) rfl ?_)
    refine GO.call1 rfl rfl (rcheck_spec q _ C hv0 hz) (Tks.c (Tk.t (Tk.t Tk.h)) Tks.n) ?_
    rintro _ _ ⟨rfl, rfl⟩
    rw [hok, hcv]
    (refine GO.neF rfl rfl rfl rfl ?_; refine GO.nil ?_; refine kthen_n ?_; refine G.condF rfl rfl ?_; refine G.skip ?_; refine kthen_n ?_; refine G.seq ?_; refine G.region ?_; refine GO.loadW rfl rfl rfl (Tk.t (Tk.t (Tk.t (Tk.t Tk.h)))) rfl ?_; refine GO.move rfl rfl ?_)
    refine GO.call2 rfl rfl rfl (rclean_spec q _ _ C fr n hv0 hz hT hfr hfl hn (by omega) hin) (Tks.c Tk.h Tks.n) ?_
    rintro _ _ (⟨_, o3, cs3, z3, hd, rfl, hcs3, hzq, rfl⟩ | ⟨h, _⟩)
    · have e1 : ((C.prods.filter (keepL (leastS C.prods n (n + 1) (fun _ => -1)))).filter fun p => o2 p.1.toNat) = ((C.prods.filter (keepL (leastS C.prods n (n + 1) (fun _ => -1)))).filter fun p => o3 p.1.toNat) :=
        List.filter_congr fun p _ => by rw [Bool.eq_iff_iff, used_done hR2 hS2, hd]
      rw [e1] at hcs
      obtain ⟨pvc3, rfl, h1c3⟩ := hcs3.two
      dsimp only at hcs hcs3 ⊢
      have hft : Fits ⟨C.nts, (C.prods.filter (keepL (leastS C.prods n (n + 1) (fun _ => -1)))).filter fun p => o3 p.1.toNat⟩ := fits_filter (fun p => o3 p.1.toNat) (C := ⟨C.nts, C.prods.filter (keepL (leastS C.prods n (n + 1) (fun _ => -1)))⟩) (fits_filter _ hz)
      generalize ((C.prods.filter (keepL (leastS C.prods n (n + 1) (fun _ => -1)))).filter fun p => o3 p.1.toNat) = ps3 at hcs hcs3 hft
      clear e1 hke hd hR2 hS2 hR1 hS1
      (refine GO.move rfl rfl ?_; refine GO.extract rfl rfl rfl ?_; refine GO.extract rfl rfl rfl ?_; refine GO.alloc rfl fun b7 => ?_; refine GO.storeW rfl rfl Tk.h ⟨rfl, rfl⟩ (by simp [Value.oneCell']; assumption) ?_; refine GO.assign rfl rfl ?_; refine GO.nil ?_; refine kthen_n ?_; refine G.seq ?_; refine G.region ?_; refine GO.move rfl rfl ?_; refine GO.move rfl rfl ?_; refine GO.eqT rfl rfl rfl rfl ?_; refine GO.move rfl rfl ?_; refine GO.gT rfl rfl rfl ?_; refine GO.loadW rfl rfl rfl (Tk.t (Tk.t Tk.h)) rfl ?_; refine GO.gT rfl rfl rfl ?_; refine GO.loadW rfl rfl rfl Tk.h rfl ?_; refine GO.gT rfl rfl rfl ?_)
      refine GO.call2 rfl rfl rfl (same_spec z z3 _ _ ⟨C.nts, ps3⟩ hcs hcs3 hft) (Tks.c (Tk.t (Tk.t (Tk.t (Tk.t Tk.h)))) (Tks.c (Tk.t Tk.h) Tks.n)) ?_
      rintro _ _ ⟨rfl, rfl⟩
      refine GO.imp1 hzq (Tk.t Tk.h) ?_
      (refine GO.pickT rfl rfl rfl ?_; refine GO.assign rfl rfl ?_; refine GO.nil ?_; refine kthen_n ?_; refine G.ret ?_)
      refine KF.r1 rfl (RV.t rfl) ⟨rfl, rfl⟩ ?_
      ((refine Sb.c Tk.h ?_); (refine Sb.s ?_; refine Sb.s ?_; refine Sb.s ?_; refine Sb.s ?_; refine Sb.s ?_; exact Sb.r))
    · rw [hall] at h; cases h
  · obtain ⟨⟨hn1, hn2⟩, hin⟩ := okC_in hok
    obtain ⟨n, hn⟩ := Int.eq_ofNat_of_zero_le (show 0 ≤ C.nts by omega)
    have hnn : C.nts.toNat = n := by omega
    rw [hn] at hin
    rw [hnn] at hall
    have hcv : (if true = true then (0 : Int) else 220) = 0 := rfl
    refine GO.flat ?_
    (refine GO.move rfl rfl ?_; refine GO.extract rfl rfl rfl ?_; refine GO.extract rfl rfl rfl ?_; refine GO.alloc rfl fun b5 => ?_; refine GO.storeW rfl rfl Tk.h ⟨rfl, rfl⟩ (by simp [Value.oneCell']) ?_; refine GO.assign rfl rfl ?_; refine GO.nil ?_; refine kthen_n ?_; refine G.seq ?_; refine G.seq ?_; refine G.region ?_)
    refine GO.call0 rfl (head_spec) Tks.n ?_
    rintro _ _ ⟨rfl, rfl⟩
    (refine GO.not rfl rfl ?_; refine GO.nil ?_; refine kthen_n ?_; refine G.condF rfl rfl ?_; refine G.skip ?_; refine kthen_n ?_; refine G.seq ?_; refine G.seq ?_; refine G.region ?_; refine GO.loadW rfl rfl rfl (Tk.t (Tk.t (Tk.t Tk.h))) rfl ?_)
    refine GO.call1 rfl rfl (rcheck_spec q _ C hv0 hz) (Tks.c (Tk.t (Tk.t Tk.h)) Tks.n) ?_
    rintro _ _ ⟨rfl, rfl⟩
    rw [hok, hcv]
    (refine GO.neF rfl rfl rfl rfl ?_; refine GO.nil ?_; refine kthen_n ?_; refine G.condF rfl rfl ?_; refine G.skip ?_; refine kthen_n ?_; refine G.seq ?_; refine G.region ?_; refine GO.loadW rfl rfl rfl (Tk.t (Tk.t (Tk.t Tk.h))) rfl ?_; refine GO.move rfl rfl ?_)
    refine GO.call2 rfl rfl rfl (rclean_spec q _ _ C fr n hv0 hz hT hfr hfl hn (by omega) hin) (Tks.c Tk.h Tks.n) ?_
    rintro _ _ (⟨h, _⟩ | ⟨_, rfl, rfl⟩)
    · rw [hall] at h; cases h
    · refine GO.imp (H' := pur True :: _) (fun l w s => sat_pur.2 ⟨trivial, s⟩) ?_
      refine GO.imp (H' := pur True :: _) (fun l w s => sat_pur.2 ⟨trivial, s⟩) ?_
      (refine GO.move rfl rfl ?_; refine GO.extract rfl rfl rfl ?_; refine GO.extract rfl rfl rfl ?_; refine GO.alloc rfl fun b7 => ?_; refine GO.storeW rfl rfl Tk.h ⟨rfl, rfl⟩ (by simp [Value.oneCell']) ?_; refine GO.assign rfl rfl ?_; refine GO.nil ?_; refine kthen_n ?_; refine G.seq ?_; refine G.region ?_; refine GO.move rfl rfl ?_; refine GO.move rfl rfl ?_; refine GO.eqT rfl rfl rfl rfl ?_; refine GO.move rfl rfl ?_; refine GO.gT rfl rfl rfl ?_; refine GO.loadW rfl rfl rfl (Tk.t (Tk.t (Tk.t (Tk.t Tk.h)))) rfl ?_; refine GO.gT rfl rfl rfl ?_; refine GO.loadW rfl rfl rfl Tk.h rfl ?_; refine GO.gT rfl rfl rfl ?_)
      refine GO.call2 rfl rfl rfl (same_spec (pur True) (pur True) _ _ ⟨0, []⟩ ⟨_, rfl, [], ⟨none, 0, rfl, rfl, fun h => by simp at h⟩, fun k p h => by simp at h⟩ ⟨_, rfl, [], ⟨none, 0, rfl, rfl, fun h => by simp at h⟩, fun k p h => by simp at h⟩ ⟨by simp, fun p h => by simp at h⟩) (Tks.c (Tk.t Tk.h) (Tks.c (Tk.t Tk.h) Tks.n)) ?_
      rintro _ _ ⟨rfl, rfl⟩
      (refine GO.pickT rfl rfl rfl ?_; refine GO.assign rfl rfl ?_; refine GO.nil ?_; refine kthen_n ?_; refine G.ret ?_)
      refine KF.r1 rfl (RV.t rfl) ⟨rfl, rfl⟩ ?_
      ((refine Sb.c (Tk.t (Tk.t (Tk.t Tk.h))) ?_); (refine Sb.s ?_; refine Sb.s ?_; refine Sb.s ?_; refine Sb.s ?_; refine Sb.s ?_; refine Sb.s ?_; exact Sb.r))
  · have hcv : (if false = true then (0 : Int) else 220) = 220 := rfl
    refine GO.flat ?_
    (refine GO.move rfl rfl ?_; refine GO.extract rfl rfl rfl ?_; refine GO.extract rfl rfl rfl ?_; refine GO.alloc rfl fun b5 => ?_; refine GO.storeW rfl rfl Tk.h ⟨rfl, rfl⟩ (by simp [Value.oneCell']) ?_; refine GO.assign rfl rfl ?_; refine GO.nil ?_; refine kthen_n ?_; refine G.seq ?_; refine G.seq ?_; refine G.region ?_)
    refine GO.call0 rfl (head_spec) Tks.n ?_
    rintro _ _ ⟨rfl, rfl⟩
    (refine GO.not rfl rfl ?_; refine GO.nil ?_; refine kthen_n ?_; refine G.condF rfl rfl ?_; refine G.skip ?_; refine kthen_n ?_; refine G.seq ?_; refine G.seq ?_; refine G.region ?_; refine GO.loadW rfl rfl rfl (Tk.t (Tk.t (Tk.t Tk.h))) rfl ?_)
    refine GO.call1 rfl rfl (rcheck_spec q _ C hv0 hz) (Tks.c (Tk.t (Tk.t Tk.h)) Tks.n) ?_
    rintro _ _ ⟨rfl, rfl⟩
    rw [hok, hcv]
    (refine GO.nei rfl rfl rfl ?_; refine GO.nil ?_; refine kthen_n ?_; refine G.condT rfl rfl ?_; refine G.seq ?_; refine G.region ?_; refine GO.move rfl rfl ?_; refine GO.eqT rfl rfl rfl rfl ?_; refine GO.assign rfl rfl ?_; refine GO.nil ?_; refine kthen_n ?_; refine G.ret ?_; refine kthen_r ?_)
    refine KF.r1 rfl (RV.t rfl) ⟨rfl, rfl⟩ ?_
    ((refine Sb.c Tk.h ?_); (refine Sb.s ?_; refine Sb.s ?_; refine Sb.s ?_; exact Sb.r))
end Go.Proofs.Ytcemehocbemfmaa
