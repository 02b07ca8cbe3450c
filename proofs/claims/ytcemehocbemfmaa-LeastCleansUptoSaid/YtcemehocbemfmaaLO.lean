/-
  The reference's Shortest, Empty, Fruitful.
-/
import Derived.Test.YtcemehocbemfmaaLN
namespace Go.Proofs.Ytcemehocbemfmaa
open Go
attribute [local irreducible] G GO GR GT Fn FnV pt init exs pur sat own ImpS
theorem rshortest_spec (q : HP) (v : Value) (C : CnfD) (n : Nat) (hv : CnfR q v C) (hz : Fits C) (hn : C.nts = n) (hn1 : n ≤ 1024) (hin : ∀ p ∈ C.prods, prodIn n p) : Fn Try.prog 15 #[v] [q]
    (fun r Q => ∃ b, r = .slice (some ⟨b, 0, none⟩) n n ∧ Q = [pt b (row (numsV (leastS C.prods n (n + 1) (fun _ => -1)) n) 3), q]) := by
  have hv0 := hv
  obtain ⟨pv, rfl, hp⟩ := hv
  obtain ⟨a0, cap0, rfl⟩ := hp.form
  rw [hn] at hv0 ⊢
  refine Fn.mk Try.func15 rfl rfl fun w0 F => ?_
  (refine G.seq ?_; refine G.region ?_)
  refine GO.box rfl rfl rfl fun b1 => ?_
  (refine GO.assign rfl rfl ?_; refine GO.nil ?_; refine kthen_n ?_; refine G.seq ?_; refine G.region ?_)
  refine GO.loadW rfl rfl rfl Tk.h rfl ?_
  (refine GO.fieldAddr rfl rfl ?_; refine GO.load1 rfl rfl rfl Tk.h rfl ?_; refine GO.addi rfl rfl rfl (by omega) ?_)
  refine GO.call2 rfl rfl rfl (least_spec q _ C n (n + 1) hv0 hz hn hn1 (by omega) hin) (Tks.c (Tk.t Tk.h) Tks.n) ?_
  rintro _ _ ⟨b, rfl, rfl⟩
  (refine GO.assign rfl rfl ?_; refine GO.nil ?_; refine kthen_n ?_; refine G.ret ?_)
  refine KF.r1 rfl (RV.t rfl) ⟨b, rfl, rfl⟩ ?_
  ((refine Sb.c Tk.h ?_; refine Sb.c Tk.h ?_); (refine Sb.s ?_; exact Sb.r))
set_option maxHeartbeats 4000000 in
set_option maxRecDepth 20000 in
theorem rempty_spec (q : HP) (v : Value) (C : CnfD) (n : Nat) (hv : CnfR q v C) (hz : Fits C) (hn : C.nts = n) (hn1 : n ≤ 1024) (hin : ∀ p ∈ C.prods, prodIn n p) : Fn Try.prog 17 #[v] [q]
    (fun r Q => ∃ b, r = .slice (some ⟨b, 0, none⟩) n n ∧ Q = [pt b (row (boolsV (fun i => decide (leastS C.prods n (n + 1) (fun _ => -1) i = 0)) n) 4), q]) := by
  have hv0 := hv
  obtain ⟨pv, rfl, hp⟩ := hv
  obtain ⟨a0, cap0, rfl⟩ := hp.form
  rw [hn] at hv0 ⊢
  refine Fn.mk Try.func17 rfl rfl fun w0 F => ?_
  (refine G.seq ?_; refine G.region ?_)
  refine GO.box rfl rfl rfl fun b1 => ?_
  (refine GO.assign rfl rfl ?_; refine GO.nil ?_; refine kthen_n ?_; refine G.seq ?_; refine G.region ?_)
  refine GO.loadW rfl rfl rfl Tk.h rfl ?_
  refine GO.call1 rfl rfl (rshortest_spec q _ C n hv0 hz hn hn1 hin) (Tks.c (Tk.t Tk.h) Tks.n) ?_
  rintro _ _ ⟨bl, rfl, rfl⟩
  generalize leastS C.prods n (n + 1) (fun _ => -1) = s
  (refine GO.assign rfl rfl ?_; refine GO.nil ?_; refine kthen_n ?_; refine G.seq ?_; refine G.region ?_; refine GO.fieldAddr rfl rfl ?_; refine GO.load1 rfl rfl rfl (Tk.t (Tk.t Tk.h)) rfl ?_)
  refine GO.make1 (n := n) rfl rfl rfl ⟨rfl, rfl⟩ ⟨by omega, by omega⟩ fun bo => ?_
  rw [rowV_const (f := Value.bool)]
  (refine GO.assign rfl rfl ?_; refine GO.nil ?_; refine kthen_n ?_; refine G.seq ?_; refine G.seq ?_; refine G.region ?_; refine GO.assign rfl rfl ?_; refine GO.nil ?_; refine kthen_n ?_; refine G.block ?_)
  refine G.loop2 (fun (k : Nat) (_ : Nat → Bool) => [(1, .pointer (some ⟨b1, 0, none⟩)), (3, .slice (some ⟨bl, 0, none⟩) n n), (4, .slice (some ⟨bo, 0, none⟩) n n), (5, i64 k)]) (fun _ t => pt bo (row (boolsV t n) 4) :: pt bl (row (numsV s n) 3) :: pt b1 (row [i64 n, .slice a0 C.prods.length cap0] 24) :: q :: F)
    (fun k t => k ≤ n ∧ ∀ i, i < k → t i = decide (s i = 0)) (fun k _ => n - k) 0 (fun _ => false) ⟨by omega, fun i hi => by omega⟩ ?_ ?_ ?_
  · (refine SubE.c rfl rfl ?_; refine SubE.c rfl rfl ?_; refine SubE.c rfl rfl ?_; refine SubE.c rfl rfl ?_; exact SubE.n)
  · ((refine Sb.c Tk.h ?_; refine Sb.c Tk.h ?_; refine Sb.c (Tk.t Tk.h) ?_; refine Sb.c Tk.h ?_); (exact Sb.r))
  rintro k t ⟨hk, ht⟩
  (refine G.seq ?_; refine G.seq ?_; refine G.region ?_; refine GO.move rfl rfl ?_; refine GO.fieldAddr rfl rfl ?_; refine GO.load1 rfl rfl rfl (Tk.t (Tk.t Tk.h)) rfl ?_; refine GO.lti rfl rfl rfl ?_; refine GO.nil ?_; refine kthen_n ?_)
  refine G.condD rfl (fun hlt => ?_) (fun hge => ?_)
  · have hlt' : k < n := by omega
    (refine G.skip ?_; refine kthen_n ?_; refine G.seq ?_; refine G.block ?_; refine G.region ?_; refine GO.move rfl rfl ?_; refine GO.move rfl rfl ?_; refine GO.move rfl rfl ?_; refine GO.move rfl rfl ?_; refine GO.idxS rfl rfl rfl ⟨rfl, by omega⟩ ?_)
    refine GO.load1 rfl rfl rfl (by (exact (Tk.t Tk.h))) (rowV_get1 hlt') ?_
    (refine GO.eqi rfl rfl rfl ?_; refine GO.idxS rfl rfl rfl ⟨rfl, by omega⟩ ?_)
    refine GO.store1 rfl rfl rfl (by (exact Tk.h)) (by rw [rowV_len]; omega) ?_
    rw [rowV_set]
    (refine GO.nil ?_; refine kblock_n ?_; refine kthen_n ?_; refine G.region ?_; refine GO.move rfl rfl ?_; refine GO.addi rfl rfl rfl (by omega) ?_; refine GO.assign rfl rfl ?_; refine GO.nil ?_; refine kthen_n ?_)
    refine ⟨k + 1, upd t k (decide (s k = 0)), ⟨by omega, fun i hi => ?_⟩, by omega, ?_, ?_⟩
    · by_cases e : i = k
      · subst e; exact upd_at _ _ _
      · rw [upd_ne _ _ e]; exact ht i (by omega)
    · (refine SubE.c rfl rfl ?_; refine SubE.c rfl rfl ?_; refine SubE.c rfl rfl ?_; refine SubE.c rfl rfl ?_; exact SubE.n)
    · ((refine Sb.c Tk.h ?_; refine Sb.c Tk.h ?_; refine Sb.c Tk.h ?_; refine Sb.c Tk.h ?_); (exact Sb.r))
  · have hkn : n = k := by omega
    subst hkn
    have hb : boolsV t n = boolsV (fun i => decide (s i = 0)) n := by
      unfold boolsV rowV
      apply List.map_congr_left
      intro i hi
      rw [ht i (by simpa using hi)]
    rw [hb]
    (refine G.exit ?_; refine G.seq ?_; refine G.region ?_; refine GO.move rfl rfl ?_; refine GO.assign rfl rfl ?_; refine GO.nil ?_; refine kthen_n ?_; refine G.ret ?_)
    refine KF.r1 rfl (RV.t rfl) ⟨bo, rfl, rfl⟩ ?_
    ((refine Sb.c Tk.h ?_; refine Sb.c (Tk.t (Tk.t Tk.h)) ?_); (refine Sb.s ?_; refine Sb.s ?_; exact Sb.r))
set_option maxHeartbeats 4000000 in
set_option maxRecDepth 20000 in
theorem rfruitful_spec (q : HP) (v : Value) (C : CnfD) (n : Nat) (hv : CnfR q v C) (hz : Fits C) (hn : C.nts = n) (hn1 : n ≤ 1024) (hin : ∀ p ∈ C.prods, prodIn n p) : Fn Try.prog 18 #[v] [q]
    (fun r Q => ∃ b, r = .slice (some ⟨b, 0, none⟩) n n ∧ Q = [pt b (row (boolsV (fun i => decide (0 ≤ leastS C.prods n (n + 1) (fun _ => -1) i)) n) 4), q]) := by
  have hv0 := hv
  obtain ⟨pv, rfl, hp⟩ := hv
  obtain ⟨a0, cap0, rfl⟩ := hp.form
  rw [hn] at hv0 ⊢
  refine Fn.mk Try.func18 rfl rfl fun w0 F => ?_
  (refine G.seq ?_; refine G.region ?_)
  refine GO.box rfl rfl rfl fun b1 => ?_
  (refine GO.assign rfl rfl ?_; refine GO.nil ?_; refine kthen_n ?_; refine G.seq ?_; refine G.region ?_)
  refine GO.loadW rfl rfl rfl Tk.h rfl ?_
  refine GO.call1 rfl rfl (rshortest_spec q _ C n hv0 hz hn hn1 hin) (Tks.c (Tk.t Tk.h) Tks.n) ?_
  rintro _ _ ⟨bl, rfl, rfl⟩
  generalize leastS C.prods n (n + 1) (fun _ => -1) = s
  (refine GO.assign rfl rfl ?_; refine GO.nil ?_; refine kthen_n ?_; refine G.seq ?_; refine G.region ?_; refine GO.fieldAddr rfl rfl ?_; refine GO.load1 rfl rfl rfl (Tk.t (Tk.t Tk.h)) rfl ?_)
  refine GO.make1 (n := n) rfl rfl rfl ⟨rfl, rfl⟩ ⟨by omega, by omega⟩ fun bo => ?_
  rw [rowV_const (f := Value.bool)]
  (refine GO.assign rfl rfl ?_; refine GO.nil ?_; refine kthen_n ?_; refine G.seq ?_; refine G.seq ?_; refine G.region ?_; refine GO.assign rfl rfl ?_; refine GO.nil ?_; refine kthen_n ?_; refine G.block ?_)
  refine G.loop2 (fun (k : Nat) (_ : Nat → Bool) => [(1, .pointer (some ⟨b1, 0, none⟩)), (3, .slice (some ⟨bl, 0, none⟩) n n), (4, .slice (some ⟨bo, 0, none⟩) n n), (5, i64 k)]) (fun _ t => pt bo (row (boolsV t n) 4) :: pt bl (row (numsV s n) 3) :: pt b1 (row [i64 n, .slice a0 C.prods.length cap0] 24) :: q :: F)
    (fun k t => k ≤ n ∧ ∀ i, i < k → t i = decide (0 ≤ s i)) (fun k _ => n - k) 0 (fun _ => false) ⟨by omega, fun i hi => by omega⟩ ?_ ?_ ?_
  · (refine SubE.c rfl rfl ?_; refine SubE.c rfl rfl ?_; refine SubE.c rfl rfl ?_; refine SubE.c rfl rfl ?_; exact SubE.n)
  · ((refine Sb.c Tk.h ?_; refine Sb.c Tk.h ?_; refine Sb.c (Tk.t Tk.h) ?_; refine Sb.c Tk.h ?_); (exact Sb.r))
  rintro k t ⟨hk, ht⟩
  (refine G.seq ?_; refine G.seq ?_; refine G.region ?_; refine GO.move rfl rfl ?_; refine GO.fieldAddr rfl rfl ?_; refine GO.load1 rfl rfl rfl (Tk.t (Tk.t Tk.h)) rfl ?_; refine GO.lti rfl rfl rfl ?_; refine GO.nil ?_; refine kthen_n ?_)
  refine G.condD rfl (fun hlt => ?_) (fun hge => ?_)
  · have hlt' : k < n := by omega
    (refine G.skip ?_; refine kthen_n ?_; refine G.seq ?_; refine G.block ?_; refine G.region ?_; refine GO.move rfl rfl ?_; refine GO.move rfl rfl ?_; refine GO.move rfl rfl ?_; refine GO.move rfl rfl ?_; refine GO.idxS rfl rfl rfl ⟨rfl, by omega⟩ ?_)
    refine GO.load1 rfl rfl rfl (by (exact (Tk.t Tk.h))) (rowV_get1 hlt') ?_
    (refine GO.gei rfl rfl rfl ?_; refine GO.idxS rfl rfl rfl ⟨rfl, by omega⟩ ?_)
    refine GO.store1 rfl rfl rfl (by (exact Tk.h)) (by rw [rowV_len]; omega) ?_
    rw [rowV_set]
    (refine GO.nil ?_; refine kblock_n ?_; refine kthen_n ?_; refine G.region ?_; refine GO.move rfl rfl ?_; refine GO.addi rfl rfl rfl (by omega) ?_; refine GO.assign rfl rfl ?_; refine GO.nil ?_; refine kthen_n ?_)
    refine ⟨k + 1, upd t k (decide (0 ≤ s k)), ⟨by omega, fun i hi => ?_⟩, by omega, ?_, ?_⟩
    · by_cases e : i = k
      · subst e; exact upd_at _ _ _
      · rw [upd_ne _ _ e]; exact ht i (by omega)
    · (refine SubE.c rfl rfl ?_; refine SubE.c rfl rfl ?_; refine SubE.c rfl rfl ?_; refine SubE.c rfl rfl ?_; exact SubE.n)
    · ((refine Sb.c Tk.h ?_; refine Sb.c Tk.h ?_; refine Sb.c Tk.h ?_; refine Sb.c Tk.h ?_); (exact Sb.r))
  · have hkn : n = k := by omega
    subst hkn
    have hb : boolsV t n = boolsV (fun i => decide (0 ≤ s i)) n := by
      unfold boolsV rowV
      apply List.map_congr_left
      intro i hi
      rw [ht i (by simpa using hi)]
    rw [hb]
    (refine G.exit ?_; refine G.seq ?_; refine G.region ?_; refine GO.move rfl rfl ?_; refine GO.assign rfl rfl ?_; refine GO.nil ?_; refine kthen_n ?_; refine G.ret ?_)
    refine KF.r1 rfl (RV.t rfl) ⟨bo, rfl, rfl⟩ ?_
    ((refine Sb.c Tk.h ?_; refine Sb.c (Tk.t (Tk.t Tk.h)) ?_); (refine Sb.s ?_; refine Sb.s ?_; exact Sb.r))
end Go.Proofs.Ytcemehocbemfmaa
