/-
  The law LeastUsed.
-/
import Derived.Test.YtcemehocbemfmaaLX
import Derived.Test.YtcemehocbemfmaaLR
namespace Go.Proofs.Ytcemehocbemfmaa
open Go
attribute [local irreducible] G GO GR GT Fn FnV pt init exs pur sat own ImpS
theorem sameNil_spec : Fn Try.prog 16 #[.slice none 0 0, .slice none 0 0] [] (fun r Q => r = .bool true ∧ Q = []) := by
  refine Fn.mk Try.func16 rfl rfl fun w0 F => ?_
  (refine G.seq ?_; refine G.region ?_; refine GO.assign rfl rfl ?_; refine GO.nil ?_; refine kthen_n ?_; refine G.seq ?_; refine G.seq ?_; refine G.region ?_; refine GO.move rfl rfl ?_; refine GO.lenS rfl rfl ?_; refine GO.move rfl rfl ?_; refine GO.lenS rfl rfl ?_; refine GO.neF rfl rfl rfl rfl ?_; refine GO.nil ?_; refine kthen_n ?_; refine G.condF rfl rfl ?_; refine G.skip ?_; refine kthen_n ?_; refine G.seq ?_; refine G.seq ?_; refine G.region ?_; refine GO.assign rfl rfl ?_; refine GO.nil ?_; refine kthen_n ?_; refine G.block ?_)
  refine G.loop (fun _ : Unit => [(0, .slice none 0 0), (1, .slice none 0 0), (5, i64 0)]) (fun _ => F) (fun _ => True) (fun _ => 0) () trivial ?_ ?_ ?_
  · (refine SubE.c rfl rfl ?_; refine SubE.c rfl rfl ?_; refine SubE.c rfl rfl ?_; exact SubE.n)
  · (skip; (exact Sb.r))
  rintro _ _
  (refine G.seq ?_; refine G.seq ?_; refine G.region ?_; refine GO.move rfl rfl ?_; refine GO.move rfl rfl ?_; refine GO.lenS rfl rfl ?_; refine GO.lti rfl rfl rfl ?_; refine GO.nil ?_; refine kthen_n ?_; refine G.condF rfl rfl ?_; refine G.exit ?_; refine kthen_x ?_; refine kthen_x ?_; refine kblock_x ?_; refine kthen_n ?_; refine G.seq ?_; refine G.region ?_; refine GO.assign rfl rfl ?_; refine GO.nil ?_; refine kthen_n ?_; refine G.ret ?_)
  refine KF.r1 rfl (RV.t rfl) ⟨rfl, rfl⟩ ?_
  (skip; (exact Sb.r))
set_option maxHeartbeats 4000000 in
set_option maxRecDepth 20000 in
theorem used_law (q : HP) (v fv : Value) (C : CnfD) (fr : List Int) (hv : CnfR q v C) (hz : Fits C) (hT : tot C.prods ≤ 2097152) (hfr : IntsR q fv fr) (hfl : fr.length ≤ 2097152) : Fn Try.prog 5 #[v, fv] [q] (fun r Q => r = .bool true ∧ Q = [q]) := by
  have hv0 := hv
  obtain ⟨pv, rfl, hp⟩ := hv
  obtain ⟨a0, cap0, rfl⟩ := hp.form
  obtain ⟨af, capf, rfl⟩ := hfr.form
  refine Fn.mk Try.func5 rfl rfl fun w0 F => ?_
  (refine G.seq ?_; refine G.region ?_; refine GO.box rfl rfl rfl fun b2 => ?_; refine GO.assign rfl rfl ?_; refine GO.nil ?_; refine kthen_n ?_; refine G.seq ?_; refine G.region ?_; refine GO.loadW rfl rfl rfl Tk.h rfl ?_)
  refine GO.call1 rfl rfl (copy_spec q _ C hv0 hz) (Tks.c (Tk.t Tk.h) Tks.n) ?_
  rintro c1 _ ⟨z1, hz1, rfl⟩
  (refine GO.move rfl rfl ?_)
  refine GO.merge (x := z1) (y := q) (Tks.c Tk.h (Tks.c Tk.h Tks.n)) ?_
  refine GO.call2 rfl rfl rfl (used_spec (star [z1, q]) _ _ C fr (hz1.sup (Sup.left _ _)) hz (hfr.sup (Sup.right _ _)) (by omega)) (Tks.c Tk.h Tks.n) ?_
  rintro _ _ (⟨hok, hall, x1, o1, rfl, hR, hst, rfl⟩ | ⟨hok, hall, rfl, rfl⟩ | ⟨hok, rfl, rfl⟩)
  · obtain ⟨⟨hn1, hn2⟩, hin⟩ := okC_in hok
    obtain ⟨n, hn⟩ := Int.eq_ofNat_of_zero_le (show 0 ≤ C.nts by omega)
    have hnn : C.nts.toNat = n := by omega
    rw [hn] at hin
    rw [hnn] at hall ⊢
    have hcv : (if true = true then (0 : Int) else 220) = 0 := rfl
    (refine GO.move rfl rfl ?_; refine GO.extract rfl rfl rfl ?_; refine GO.extract rfl rfl rfl ?_; refine GO.assign rfl rfl ?_; refine GO.assign rfl rfl ?_; refine GO.nil ?_; refine kthen_n ?_; refine G.seq ?_; refine G.seq ?_; refine G.region ?_)
    refine GO.mem (H' := star [z1, q] :: pt x1 (row (boolsV o1 n) 4) :: pt b2 (row [i64 C.nts, .slice a0 C.prods.length cap0] 24) :: F) (by ((refine Sb.c (Tk.t Tk.h) ?_; refine Sb.c Tk.h ?_; refine Sb.c Tk.h ?_); (exact Sb.r))) ?_
    refine GO.flat ?_
    refine GO.call0 rfl (head_spec) Tks.n ?_
    rintro _ _ ⟨rfl, rfl⟩
    (refine GO.not rfl rfl ?_; refine GO.nil ?_; refine kthen_n ?_; refine G.condF rfl rfl ?_; refine G.skip ?_; refine kthen_n ?_; refine G.seq ?_; refine G.seq ?_; refine G.region ?_; refine GO.loadW rfl rfl rfl (Tk.t (Tk.t (Tk.t Tk.h))) rfl ?_)
    refine GO.call1 rfl rfl (rcheck_spec q _ C hv0 hz) (Tks.c (Tk.t Tk.h) Tks.n) ?_
    rintro _ _ ⟨rfl, rfl⟩
    rw [hok, hcv]
    (refine GO.neF rfl rfl rfl rfl ?_; refine GO.nil ?_; refine kthen_n ?_; refine G.condF rfl rfl ?_; refine G.skip ?_; refine kthen_n ?_; refine G.seq ?_; refine G.region ?_; refine GO.loadW rfl rfl rfl (Tk.t (Tk.t (Tk.t Tk.h))) rfl ?_; refine GO.move rfl rfl ?_)
    refine GO.call2 rfl rfl rfl (rused_spec q _ _ C fr n hv0 hz hfr hfl hT hn (by omega) hin) (Tks.c Tk.h Tks.n) ?_
    rintro _ _ (⟨_, x2, o2, rfl, hd, rfl⟩ | ⟨h, _⟩)
    · have e1 : sameB o1 o2 n = true := sameB_iff.2 fun i hi => by
        rw [Bool.eq_iff_iff, used_done hR hst i, hd i]
      (refine GO.move rfl rfl ?_; refine GO.extract rfl rfl rfl ?_; refine GO.extract rfl rfl rfl ?_; refine GO.assign rfl rfl ?_; refine GO.assign rfl rfl ?_; refine GO.nil ?_; refine kthen_n ?_; refine G.seq ?_; refine G.region ?_; refine GO.move rfl rfl ?_; refine GO.move rfl rfl ?_; refine GO.eqT rfl rfl rfl rfl ?_; refine GO.move rfl rfl ?_; refine GO.gT rfl rfl rfl ?_; refine GO.move rfl rfl ?_; refine GO.gT rfl rfl rfl ?_; refine GO.move rfl rfl ?_; refine GO.gT rfl rfl rfl ?_)
      refine GO.call2 rfl rfl rfl (sameBools_spec o1 o2 n x1 x2 (by omega)) (Tks.c (Tk.t (Tk.t (Tk.t Tk.h))) (Tks.c Tk.h Tks.n)) ?_
      rintro _ _ ⟨rfl, rfl⟩
      rw [e1]
      (refine GO.pickT rfl rfl rfl ?_; refine GO.assign rfl rfl ?_; refine GO.nil ?_; refine kthen_n ?_; refine G.ret ?_)
      refine KF.r1 rfl (RV.t rfl) ⟨rfl, rfl⟩ ?_
      ((refine Sb.c (Tk.t (Tk.t Tk.h)) ?_); (refine Sb.s ?_; refine Sb.s ?_; refine Sb.s ?_; refine Sb.s ?_; exact Sb.r))
    · rw [hall] at h; cases h
  · obtain ⟨⟨hn1, hn2⟩, hin⟩ := okC_in hok
    obtain ⟨n, hn⟩ := Int.eq_ofNat_of_zero_le (show 0 ≤ C.nts by omega)
    have hnn : C.nts.toNat = n := by omega
    rw [hn] at hin
    rw [hnn] at hall
    have hcv : (if true = true then (0 : Int) else 220) = 0 := rfl
    (refine GO.move rfl rfl ?_; refine GO.extract rfl rfl rfl ?_; refine GO.extract rfl rfl rfl ?_; refine GO.assign rfl rfl ?_; refine GO.assign rfl rfl ?_; refine GO.nil ?_; refine kthen_n ?_; refine G.seq ?_; refine G.seq ?_; refine G.region ?_)
    refine GO.mem (H' := star [z1, q] :: pt b2 (row [i64 C.nts, .slice a0 C.prods.length cap0] 24) :: F) (by ((refine Sb.c Tk.h ?_; refine Sb.c Tk.h ?_); (exact Sb.r))) ?_
    refine GO.flat ?_
    refine GO.call0 rfl (head_spec) Tks.n ?_
    rintro _ _ ⟨rfl, rfl⟩
    (refine GO.not rfl rfl ?_; refine GO.nil ?_; refine kthen_n ?_; refine G.condF rfl rfl ?_; refine G.skip ?_; refine kthen_n ?_; refine G.seq ?_; refine G.seq ?_; refine G.region ?_; refine GO.loadW rfl rfl rfl (Tk.t (Tk.t Tk.h)) rfl ?_)
    refine GO.call1 rfl rfl (rcheck_spec q _ C hv0 hz) (Tks.c (Tk.t Tk.h) Tks.n) ?_
    rintro _ _ ⟨rfl, rfl⟩
    rw [hok, hcv]
    (refine GO.neF rfl rfl rfl rfl ?_; refine GO.nil ?_; refine kthen_n ?_; refine G.condF rfl rfl ?_; refine G.skip ?_; refine kthen_n ?_; refine G.seq ?_; refine G.region ?_; refine GO.loadW rfl rfl rfl (Tk.t (Tk.t Tk.h)) rfl ?_; refine GO.move rfl rfl ?_)
    refine GO.call2 rfl rfl rfl (rused_spec q _ _ C fr n hv0 hz hfr hfl hT hn (by omega) hin) (Tks.c Tk.h Tks.n) ?_
    rintro _ _ (⟨h, _⟩ | ⟨_, rfl, rfl⟩)
    · rw [hall] at h; cases h
    · (refine GO.move rfl rfl ?_; refine GO.extract rfl rfl rfl ?_; refine GO.extract rfl rfl rfl ?_; refine GO.assign rfl rfl ?_; refine GO.assign rfl rfl ?_; refine GO.nil ?_; refine kthen_n ?_; refine G.seq ?_; refine G.region ?_; refine GO.move rfl rfl ?_; refine GO.move rfl rfl ?_; refine GO.eqT rfl rfl rfl rfl ?_; refine GO.move rfl rfl ?_; refine GO.gT rfl rfl rfl ?_; refine GO.move rfl rfl ?_; refine GO.gT rfl rfl rfl ?_; refine GO.move rfl rfl ?_; refine GO.gT rfl rfl rfl ?_)
      refine GO.call2 rfl rfl rfl (sameNil_spec) Tks.n ?_
      rintro _ _ ⟨rfl, rfl⟩
      (refine GO.pickT rfl rfl rfl ?_; refine GO.assign rfl rfl ?_; refine GO.nil ?_; refine kthen_n ?_; refine G.ret ?_)
      refine KF.r1 rfl (RV.t rfl) ⟨rfl, rfl⟩ ?_
      ((refine Sb.c Tk.h ?_); (refine Sb.s ?_; refine Sb.s ?_; exact Sb.r))
  · have hcv : (if false = true then (0 : Int) else 220) = 220 := rfl
    (refine GO.move rfl rfl ?_; refine GO.extract rfl rfl rfl ?_; refine GO.extract rfl rfl rfl ?_; refine GO.assign rfl rfl ?_; refine GO.assign rfl rfl ?_; refine GO.nil ?_; refine kthen_n ?_; refine G.seq ?_; refine G.seq ?_; refine G.region ?_)
    refine GO.mem (H' := star [z1, q] :: pt b2 (row [i64 C.nts, .slice a0 C.prods.length cap0] 24) :: F) (by ((refine Sb.c Tk.h ?_; refine Sb.c Tk.h ?_); (exact Sb.r))) ?_
    refine GO.flat ?_
    refine GO.call0 rfl (head_spec) Tks.n ?_
    rintro _ _ ⟨rfl, rfl⟩
    (refine GO.not rfl rfl ?_; refine GO.nil ?_; refine kthen_n ?_; refine G.condF rfl rfl ?_; refine G.skip ?_; refine kthen_n ?_; refine G.seq ?_; refine G.seq ?_; refine G.region ?_; refine GO.loadW rfl rfl rfl (Tk.t (Tk.t Tk.h)) rfl ?_)
    refine GO.call1 rfl rfl (rcheck_spec q _ C hv0 hz) (Tks.c (Tk.t Tk.h) Tks.n) ?_
    rintro _ _ ⟨rfl, rfl⟩
    rw [hok, hcv]
    (refine GO.nei rfl rfl rfl ?_; refine GO.nil ?_; refine kthen_n ?_; refine G.condT rfl rfl ?_; refine G.seq ?_; refine G.region ?_; refine GO.move rfl rfl ?_; refine GO.eqT rfl rfl rfl rfl ?_; refine GO.assign rfl rfl ?_; refine GO.nil ?_; refine kthen_n ?_; refine G.ret ?_; refine kthen_r ?_)
    refine KF.r1 rfl (RV.t rfl) ⟨rfl, rfl⟩ ?_
    ((refine Sb.c Tk.h ?_); (refine Sb.s ?_; refine Sb.s ?_; exact Sb.r))
end Go.Proofs.Ytcemehocbemfmaa
