/-
  The law LeastTells.
-/
import Derived.Test.YtcemehocbemfmaaLR
namespace Go.Proofs.Ytcemehocbemfmaa
open Go
attribute [local irreducible] G GO GR GT Fn FnV pt init exs pur sat own ImpS
set_option maxHeartbeats 4000000 in
set_option maxRecDepth 20000 in
theorem tells_law (q : HP) (v : Value) (C : CnfD) (hv : CnfR q v C) (hz : Fits C) : Fn Try.prog 3 #[v] [q] (fun r Q => r = .bool true ∧ Q = [q]) := by
  have hv0 := hv
  obtain ⟨pv, rfl, hp⟩ := hv
  obtain ⟨a0, cap0, rfl⟩ := hp.form
  refine Fn.mk Try.func3 rfl rfl fun w0 F => ?_
  (refine G.seq ?_; refine G.region ?_)
  refine GO.box rfl rfl rfl fun b1 => ?_
  (refine GO.assign rfl rfl ?_; refine GO.nil ?_; refine kthen_n ?_; refine G.seq ?_; refine G.region ?_)
  refine GO.loadW rfl rfl rfl Tk.h rfl ?_
  refine GO.call1 rfl rfl (copy_spec q _ C hv0 hz) (Tks.c (Tk.t Tk.h) Tks.n) ?_
  rintro c1 _ ⟨z1, hz1, rfl⟩
  skip
  refine GO.call1 rfl rfl (empty_spec z1 _ C hz1 hz) (Tks.c Tk.h Tks.n) ?_
  rintro _ _ (⟨hok, x1, o1, rfl, hR1, hS1, rfl⟩ | ⟨hok, rfl, rfl⟩)
  · (refine GO.move rfl rfl ?_; refine GO.extract rfl rfl rfl ?_; refine GO.extract rfl rfl rfl ?_; refine GO.assign rfl rfl ?_; refine GO.assign rfl rfl ?_; refine GO.nil ?_; refine kthen_n ?_; refine G.seq ?_; refine G.region ?_)
    refine GO.loadW rfl rfl rfl (Tk.t (Tk.t (Tk.t Tk.h))) rfl ?_
    refine GO.call1 rfl rfl (copy_spec q _ C hv0 hz) (Tks.c (Tk.t (Tk.t Tk.h)) Tks.n) ?_
    rintro c2 _ ⟨z2, hz2, rfl⟩
    skip
    refine GO.call1 rfl rfl (fruitful_spec z2 _ C hz2 hz) (Tks.c Tk.h Tks.n) ?_
    rintro _ _ (⟨_, x2, o2, rfl, hR2, hS2, rfl⟩ | ⟨h, _⟩)
    · obtain ⟨⟨hn1, hn2⟩, hin⟩ := okC_in hok
      obtain ⟨n, hn⟩ := Int.eq_ofNat_of_zero_le (show 0 ≤ C.nts by omega)
      have hnn : C.nts.toNat = n := by omega
      rw [hn] at hin
      have e1 : sameB o1 (fun i => decide (leastS C.prods n (n + 1) (fun _ => -1) i = 0)) n = true := sameB_iff.2 fun i hi => by
        rw [empty_end hin hR1 hS1 i hi, leastS_end hin i hi]
      have e2 : sameB o2 (fun i => decide (0 ≤ leastS C.prods n (n + 1) (fun _ => -1) i)) n = true := sameB_iff.2 fun i hi => by
        rw [fruitful_end hin hR2 hS2 i hi, leastS_end hin i hi]
      have hcv : (if true = true then (0 : Int) else 220) = 0 := rfl
      (refine GO.move rfl rfl ?_; refine GO.extract rfl rfl rfl ?_; refine GO.extract rfl rfl rfl ?_; refine GO.assign rfl rfl ?_; refine GO.assign rfl rfl ?_; refine GO.nil ?_; refine kthen_n ?_; refine G.seq ?_; refine G.region ?_)
      refine GO.loadW rfl rfl rfl (Tk.t (Tk.t (Tk.t (Tk.t (Tk.t Tk.h))))) rfl ?_
      refine GO.call1 rfl rfl (copy_spec q _ C hv0 hz) (Tks.c (Tk.t (Tk.t Tk.h)) Tks.n) ?_
      rintro c3 _ ⟨z3, hz3, rfl⟩
      skip
      refine GO.call1 rfl rfl (shortest_spec z3 _ C hz3 hz) (Tks.c Tk.h Tks.n) ?_
      rintro _ _ (⟨_, x3, s3, rfl, hR3, hS3, rfl⟩ | ⟨h, _⟩)
      · have e3 : sameB s3 (leastS C.prods n (n + 1) (fun _ => -1)) n = true := sameB_iff.2 fun i hi => by
          rw [shortest_end hin hR3 hS3 i hi, leastS_end hin i hi]
        rw [hnn]
        (refine GO.move rfl rfl ?_; refine GO.extract rfl rfl rfl ?_; refine GO.extract rfl rfl rfl ?_; refine GO.assign rfl rfl ?_; refine GO.assign rfl rfl ?_; refine GO.nil ?_; refine kthen_n ?_; refine G.seq ?_; refine G.seq ?_; refine G.region ?_)
        refine GO.call0 rfl head_spec Tks.n ?_
        rintro _ _ ⟨rfl, rfl⟩
        (refine GO.not rfl rfl ?_; refine GO.move rfl rfl ?_; refine GO.gT rfl rfl rfl ?_; refine GO.move rfl rfl ?_; refine GO.gT rfl rfl rfl ?_; refine GO.move rfl rfl ?_; refine GO.gT rfl rfl rfl ?_; refine GO.neF rfl rfl rfl rfl ?_; refine GO.pickF rfl rfl rfl ?_; refine GO.move rfl rfl ?_; refine GO.gT rfl rfl rfl ?_; refine GO.move rfl rfl ?_; refine GO.gT rfl rfl rfl ?_; refine GO.move rfl rfl ?_; refine GO.gT rfl rfl rfl ?_; refine GO.neF rfl rfl rfl rfl ?_; refine GO.pickF rfl rfl rfl ?_; refine GO.nil ?_; refine kthen_n ?_; refine G.condF rfl rfl ?_; refine G.skip ?_; refine kthen_n ?_; refine G.seq ?_; refine G.seq ?_; refine G.region ?_)
        refine GO.loadW rfl rfl rfl (Tk.t (Tk.t (Tk.t (Tk.t (Tk.t (Tk.t (Tk.t Tk.h))))))) rfl ?_
        refine GO.call1 rfl rfl (rcheck_spec q _ C hv0 hz) (Tks.c (Tk.t (Tk.t Tk.h)) Tks.n) ?_
        rintro _ _ ⟨rfl, rfl⟩
        rw [hok, hcv]
        (refine GO.neF rfl rfl rfl rfl ?_; refine GO.nil ?_; refine kthen_n ?_; refine G.condF rfl rfl ?_; refine G.skip ?_; refine kthen_n ?_; refine G.seq ?_; refine G.region ?_)
        refine GO.loadW rfl rfl rfl (Tk.t (Tk.t (Tk.t (Tk.t (Tk.t (Tk.t (Tk.t Tk.h))))))) rfl ?_
        refine GO.call1 rfl rfl (rshortest_spec q _ C n hv0 hz hn (by omega) hin) (Tks.c Tk.h Tks.n) ?_
        rintro _ _ ⟨y9, rfl, rfl⟩
        (refine GO.assign rfl rfl ?_; refine GO.nil ?_; refine kthen_n ?_; refine G.seq ?_; refine G.region ?_; refine GO.move rfl rfl ?_; refine GO.eqT rfl rfl rfl rfl ?_; refine GO.move rfl rfl ?_; refine GO.gT rfl rfl rfl ?_; refine GO.move rfl rfl ?_; refine GO.gT rfl rfl rfl ?_)
        refine GO.loadW rfl rfl rfl (Tk.t (Tk.t (Tk.t (Tk.t (Tk.t (Tk.t (Tk.t (Tk.t Tk.h)))))))) rfl ?_
        (refine GO.gT rfl rfl rfl ?_)
        refine GO.call1 rfl rfl (rempty_spec q _ C n hv0 hz hn (by omega) hin) (Tks.c (Tk.t Tk.h) Tks.n) ?_
        rintro _ _ ⟨ye, rfl, rfl⟩
        (refine GO.gT rfl rfl rfl ?_)
        refine GO.call2 rfl rfl rfl (sameBools_spec o1 _ n x1 ye (by omega)) (Tks.c (Tk.t (Tk.t (Tk.t (Tk.t (Tk.t (Tk.t (Tk.t Tk.h))))))) (Tks.c Tk.h Tks.n)) ?_
        rintro _ _ ⟨rfl, rfl⟩
        rw [e1]
        (refine GO.pickT rfl rfl rfl ?_; refine GO.move rfl rfl ?_; refine GO.gT rfl rfl rfl ?_; refine GO.move rfl rfl ?_; refine GO.gT rfl rfl rfl ?_)
        refine GO.loadW rfl rfl rfl (Tk.t (Tk.t (Tk.t (Tk.t (Tk.t (Tk.t (Tk.t (Tk.t (Tk.t Tk.h))))))))) rfl ?_
        (refine GO.gT rfl rfl rfl ?_)
        refine GO.call1 rfl rfl (rfruitful_spec q _ C n hv0 hz hn (by omega) hin) (Tks.c (Tk.t (Tk.t Tk.h)) Tks.n) ?_
        rintro _ _ ⟨yf, rfl, rfl⟩
        (refine GO.gT rfl rfl rfl ?_)
        refine GO.call2 rfl rfl rfl (sameBools_spec o2 _ n x2 yf (by omega)) (Tks.c (Tk.t (Tk.t (Tk.t (Tk.t (Tk.t (Tk.t (Tk.t Tk.h))))))) (Tks.c Tk.h Tks.n)) ?_
        rintro _ _ ⟨rfl, rfl⟩
        rw [e2]
        (refine GO.pickT rfl rfl rfl ?_; refine GO.move rfl rfl ?_; refine GO.gT rfl rfl rfl ?_; refine GO.move rfl rfl ?_; refine GO.gT rfl rfl rfl ?_; refine GO.move rfl rfl ?_; refine GO.gT rfl rfl rfl ?_)
        refine GO.call2 rfl rfl rfl (sameInts_spec s3 _ n x3 y9 (by omega)) (Tks.c (Tk.t (Tk.t (Tk.t (Tk.t (Tk.t (Tk.t Tk.h)))))) (Tks.c (Tk.t (Tk.t (Tk.t (Tk.t (Tk.t Tk.h))))) Tks.n)) ?_
        rintro _ _ ⟨rfl, rfl⟩
        rw [e3]
        (refine GO.pickT rfl rfl rfl ?_; refine GO.assign rfl rfl ?_; refine GO.nil ?_; refine kthen_n ?_; refine G.ret ?_)
        refine KF.r1 rfl (RV.t rfl) ⟨rfl, rfl⟩ ?_
        ((refine Sb.c (Tk.t (Tk.t (Tk.t (Tk.t Tk.h)))) ?_); (refine Sb.s ?_; refine Sb.s ?_; refine Sb.s ?_; refine Sb.s ?_; refine Sb.s ?_; refine Sb.s ?_; refine Sb.s ?_; refine Sb.s ?_; refine Sb.s ?_; refine Sb.s ?_; exact Sb.r))
      · rw [hok] at h; cases h
    · rw [hok] at h; cases h
  · (refine GO.move rfl rfl ?_; refine GO.extract rfl rfl rfl ?_; refine GO.extract rfl rfl rfl ?_; refine GO.assign rfl rfl ?_; refine GO.assign rfl rfl ?_; refine GO.nil ?_; refine kthen_n ?_; refine G.seq ?_; refine G.region ?_)
    refine GO.loadW rfl rfl rfl (Tk.t (Tk.t Tk.h)) rfl ?_
    refine GO.call1 rfl rfl (copy_spec q _ C hv0 hz) (Tks.c (Tk.t Tk.h) Tks.n) ?_
    rintro c2 _ ⟨z2, hz2, rfl⟩
    skip
    refine GO.call1 rfl rfl (fruitful_spec z2 _ C hz2 hz) (Tks.c Tk.h Tks.n) ?_
    rintro _ _ (⟨h, _⟩ | ⟨_, rfl, rfl⟩)
    · rw [hok] at h; cases h
    · (refine GO.move rfl rfl ?_; refine GO.extract rfl rfl rfl ?_; refine GO.extract rfl rfl rfl ?_; refine GO.assign rfl rfl ?_; refine GO.assign rfl rfl ?_; refine GO.nil ?_; refine kthen_n ?_; refine G.seq ?_; refine G.region ?_)
      refine GO.loadW rfl rfl rfl (Tk.t (Tk.t (Tk.t Tk.h))) rfl ?_
      refine GO.call1 rfl rfl (copy_spec q _ C hv0 hz) (Tks.c (Tk.t Tk.h) Tks.n) ?_
      rintro c3 _ ⟨z3, hz3, rfl⟩
      skip
      refine GO.call1 rfl rfl (shortest_spec z3 _ C hz3 hz) (Tks.c Tk.h Tks.n) ?_
      rintro _ _ (⟨h, _⟩ | ⟨_, rfl, rfl⟩)
      · rw [hok] at h; cases h
      (refine GO.move rfl rfl ?_; refine GO.extract rfl rfl rfl ?_; refine GO.extract rfl rfl rfl ?_; refine GO.assign rfl rfl ?_; refine GO.assign rfl rfl ?_; refine GO.nil ?_; refine kthen_n ?_; refine G.seq ?_; refine G.seq ?_; refine G.region ?_)
      refine GO.call0 rfl head_spec Tks.n ?_
      rintro _ _ ⟨rfl, rfl⟩
      (refine GO.not rfl rfl ?_; refine GO.move rfl rfl ?_; refine GO.gT rfl rfl rfl ?_; refine GO.move rfl rfl ?_; refine GO.gT rfl rfl rfl ?_; refine GO.move rfl rfl ?_; refine GO.gT rfl rfl rfl ?_; refine GO.neF rfl rfl rfl rfl ?_; refine GO.pickF rfl rfl rfl ?_; refine GO.move rfl rfl ?_; refine GO.gT rfl rfl rfl ?_; refine GO.move rfl rfl ?_; refine GO.gT rfl rfl rfl ?_; refine GO.move rfl rfl ?_; refine GO.gT rfl rfl rfl ?_; refine GO.neF rfl rfl rfl rfl ?_; refine GO.pickF rfl rfl rfl ?_; refine GO.nil ?_; refine kthen_n ?_; refine G.condF rfl rfl ?_; refine G.skip ?_; refine kthen_n ?_; refine G.seq ?_; refine G.seq ?_; refine G.region ?_)
      refine GO.loadW rfl rfl rfl (Tk.t (Tk.t (Tk.t (Tk.t Tk.h)))) rfl ?_
      refine GO.call1 rfl rfl (rcheck_spec q _ C hv0 hz) (Tks.c (Tk.t Tk.h) Tks.n) ?_
      rintro _ _ ⟨rfl, rfl⟩
      rw [hok]
      have hcv : (if false = true then (0 : Int) else 220) = 220 := rfl
      rw [hcv]
      (refine GO.nei rfl rfl rfl ?_; refine GO.nil ?_; refine kthen_n ?_; refine G.condT rfl rfl ?_; refine G.seq ?_; refine G.region ?_; refine GO.move rfl rfl ?_; refine GO.eqT rfl rfl rfl rfl ?_; refine GO.assign rfl rfl ?_; refine GO.nil ?_; refine kthen_n ?_; refine G.ret ?_; refine kthen_r ?_)
      refine KF.r1 rfl (RV.t rfl) ⟨rfl, rfl⟩ ?_
      ((refine Sb.c Tk.h ?_); (refine Sb.s ?_; refine Sb.s ?_; refine Sb.s ?_; refine Sb.s ?_; exact Sb.r))
end Go.Proofs.Ytcemehocbemfmaa
