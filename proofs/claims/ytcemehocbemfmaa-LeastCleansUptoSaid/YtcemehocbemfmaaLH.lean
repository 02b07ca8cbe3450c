/-
  least.closed, Empty, Fruitful.
-/
import Derived.Test.YtcemehocbemfmaaLG
namespace Go.Proofs.Ytcemehocbemfmaa
open Go
attribute [local irreducible] G GO GR GT Fn FnV pt init exs pur sat own ImpS
theorem okC_in {C : CnfD} (h : okC C = true) : (1 ≤ C.nts ∧ C.nts ≤ 1024) ∧ ∀ p ∈ C.prods, prodIn C.nts p := by
  unfold okC at h
  simp only [Bool.and_eq_true, List.all_eq_true, Bool.not_eq_true', Bool.or_eq_false_iff, decide_eq_false_iff_not] at h
  obtain ⟨⟨h1, h2⟩, h3⟩ := h
  refine ⟨⟨by omega, by omega⟩, fun p hp => ?_⟩
  have := h3 p hp
  rw [prodOK_split] at this
  simp only [Bool.and_eq_true, decide_eq_true_eq, List.all_eq_true] at this
  refine ⟨this.1, fun s hs hl => ?_⟩
  have := this.2 s hs
  unfold symOK at this
  rw [hl] at this
  simp at this
  omega
def falses (o : Nat → Bool) (n : Nat) : Nat := (List.range n).countP fun i => !o i
theorem falses_lt {o : Nat → Bool} {n k : Nat} (hk : k < n) (ho : o k = false) : falses (upd o k true) n < falses o n := by
  have := countP_upd (f := fun i => !o i) (g := fun i => !(upd o k true) i) (i := k) (by simp [ho]) (by simp [upd]) (fun j hj => by simp [upd, hj]) (List.range n) List.nodup_range (by simpa using hk)
  unfold falses; omega
/-- What closed answers. -/
def CloR (C : CnfD) (lb : Bool) (q : HP) (r : Value) (Q : List HP) : Prop :=
  (okC C = true ∧ ∃ b o, r = .tuple [.slice (some ⟨b, 0, none⟩) C.nts.toNat C.nts.toNat, i64 0].toArray ∧ Reach (cloStep lb) C.prods (fun _ => false) o ∧ (∀ p ∈ C.prods, (cloStep lb o p).2 = false) ∧ Q = [pt b (row (boolsV o C.nts.toNat) 4), q]) ∨
  (okC C = false ∧ r = .tuple [.slice none 0 0, i64 220].toArray ∧ Q = [q])
set_option maxHeartbeats 4000000 in
set_option maxRecDepth 20000 in
theorem closed_spec (q : HP) (v : Value) (C : CnfD) (lb : Bool) (hv : CnfR q v C) (hz : Fits C) : Fn Try.prog 28 #[v, .bool lb] [q] (CloR C lb q) := by
  have hv0 := hv
  obtain ⟨pv, rfl, hp⟩ := hv
  obtain ⟨a0, cap0, rfl⟩ := hp.form
  refine Fn.mk Try.func28 rfl rfl fun w0 F => ?_
  (refine G.seq ?_; refine G.region ?_)
  refine GO.box rfl rfl rfl fun b2 => ?_
  refine GO.box rfl rfl rfl fun b3 => ?_
  (refine GO.assign rfl rfl ?_; refine GO.assign rfl rfl ?_; refine GO.nil ?_; refine kthen_n ?_; refine G.seq ?_; refine G.seq ?_; refine G.region ?_)
  refine GO.loadW rfl rfl rfl (Tk.t Tk.h) rfl ?_
  refine GO.call1 rfl rfl (check_spec q _ C hv0 hz) (Tks.c (Tk.t (Tk.t Tk.h)) Tks.n) ?_
  rintro _ _ ⟨rfl, rfl⟩
  cases hok : okC C with
  | false =>
    have hcv : (if false = true then (0 : Int) else 220) = 220 := rfl
    rw [hcv]
    (refine GO.assign rfl rfl ?_; refine GO.nil ?_; refine kthen_n ?_; refine G.seq ?_; refine G.region ?_; refine GO.move rfl rfl ?_; refine GO.nei rfl rfl rfl ?_; refine GO.nil ?_; refine kthen_n ?_; refine G.condT rfl rfl ?_; refine G.seq ?_; refine G.region ?_; refine GO.move rfl rfl ?_; refine GO.assign rfl rfl ?_; refine GO.assign rfl rfl ?_; refine GO.nil ?_; refine kthen_n ?_; refine G.ret ?_; refine kthen_r ?_)
    refine KF.r2 rfl (RV.t rfl) (RV.t rfl) (.inr ⟨hok, rfl, rfl⟩) ?_
    ((refine Sb.c Tk.h ?_); (refine Sb.s ?_; refine Sb.s ?_; exact Sb.r))
  | true =>
    have hcv : (if true = true then (0 : Int) else 220) = 0 := rfl
    rw [hcv]
    obtain ⟨⟨hn1, hn2⟩, hin⟩ := okC_in hok
    (refine GO.assign rfl rfl ?_; refine GO.nil ?_; refine kthen_n ?_; refine G.seq ?_; refine G.region ?_; refine GO.move rfl rfl ?_; refine GO.neF rfl rfl rfl rfl ?_; refine GO.nil ?_; refine kthen_n ?_; refine G.condF rfl rfl ?_; refine G.skip ?_; refine kthen_n ?_; refine G.seq ?_; refine G.region ?_; refine GO.fieldAddr rfl rfl ?_; refine GO.load1 rfl rfl rfl (Tk.t (Tk.t Tk.h)) rfl ?_)
    refine GO.make1 (n := C.nts.toNat) rfl rfl rfl ⟨by omega, by omega⟩ ⟨by omega, by omega⟩ fun bo => ?_
    rw [rowV_const (f := Value.bool)]
    refine GO.alloc rfl fun b7 => ?_
    refine GO.store1 rfl rfl rfl Tk.h (by decide) ?_
    (refine GO.nil ?_; refine kthen_n ?_; refine G.seq ?_; refine G.region ?_)
    refine GO.loadW rfl rfl rfl (Tk.t (Tk.t (Tk.t (Tk.t Tk.h)))) rfl ?_
    refine GO.makeFunc2 rfl rfl rfl ?_
    refine GO.call2 rfl rfl rfl (grow_spec q _ _ C hv0 hz (cloM lb C.nts.toNat bo b3 b7) (fun _ => True) (cloStep lb) (fun o => falses o C.nts.toNat)
      (fun o p _ hpm bv hb => FnV.of (caps := [.pointer (some ⟨b7, 0, none⟩), .pointer (some ⟨b3, 0, none⟩)]) (clop_spec q lb o C.nts.toNat bo b3 b7 p bv hb (by have := hin p hpm; rw [Int.toNat_of_nonneg (by omega)]; exact this) (by have := hz.2 p hpm; omega)))
      (fun _ _ _ _ => trivial)
      (fun o p _ hpm h => by
        unfold cloStep at h ⊢
        obtain ⟨⟨h1, h2⟩, _⟩ := hin p hpm
        split at h
        · cases h
        · rename_i hc
          rw [if_neg hc]
          simp at hc
          exact falses_lt (by omega) hc.1)
      (fun o p h => by unfold cloStep at h ⊢; split at h <;> simp_all) (fun _ => false) trivial) (Tks.c (Tk.t (Tk.t Tk.h)) (Tks.c Tk.h (Tks.c (Tk.t Tk.h) (Tks.c Tk.h Tks.n)))) ?_
    rintro _ _ ⟨o, _, hR, hst, rfl⟩
    (refine GO.nil ?_; refine kthen_n ?_; refine G.seq ?_; refine G.region ?_; refine GO.load1 rfl rfl rfl (Tk.t Tk.h) rfl ?_; refine GO.assign rfl rfl ?_; refine GO.assign rfl rfl ?_; refine GO.nil ?_; refine kthen_n ?_; refine G.ret ?_)
    refine KF.r2 rfl (RV.t rfl) (RV.t rfl) (.inl ⟨hok, bo, o, rfl, hR, hst, rfl⟩) ?_
    ((refine Sb.c (Tk.t (Tk.t (Tk.t Tk.h))) ?_; refine Sb.c Tk.h ?_); (refine Sb.s ?_; refine Sb.s ?_; refine Sb.s ?_; exact Sb.r))
theorem empty_spec (q : HP) (v : Value) (C : CnfD) (hv : CnfR q v C) (hz : Fits C) : Fn Try.prog 9 #[v] [q] (CloR C false q) := by
  have hv0 := hv
  obtain ⟨pv, rfl, hp⟩ := hv
  obtain ⟨a0, cap0, rfl⟩ := hp.form
  refine Fn.mk Try.func9 rfl rfl fun w0 F => ?_
  (refine G.seq ?_; refine G.region ?_)
  refine GO.box rfl rfl rfl fun b1 => ?_
  (refine GO.assign rfl rfl ?_; refine GO.assign rfl rfl ?_; refine GO.nil ?_; refine kthen_n ?_; refine G.seq ?_; refine G.region ?_)
  refine GO.loadW rfl rfl rfl Tk.h rfl ?_
  refine GO.call2 rfl rfl rfl (closed_spec q _ C false hv0 hz) (Tks.c (Tk.t Tk.h) Tks.n) ?_
  rintro _ _ (⟨hok, b, o, rfl, hR, hst, rfl⟩ | ⟨hok, rfl, rfl⟩)
  · (refine GO.extract rfl rfl rfl ?_; refine GO.extract rfl rfl rfl ?_; refine GO.assign rfl rfl ?_; refine GO.assign rfl rfl ?_; refine GO.nil ?_; refine kthen_n ?_; refine G.ret ?_)
    refine KF.r2 rfl (RV.t rfl) (RV.t rfl) (.inl ⟨hok, b, o, rfl, hR, hst, rfl⟩) ?_
    ((refine Sb.c Tk.h ?_; refine Sb.c Tk.h ?_); (refine Sb.s ?_; exact Sb.r))
  · (refine GO.extract rfl rfl rfl ?_; refine GO.extract rfl rfl rfl ?_; refine GO.assign rfl rfl ?_; refine GO.assign rfl rfl ?_; refine GO.nil ?_; refine kthen_n ?_; refine G.ret ?_)
    refine KF.r2 rfl (RV.t rfl) (RV.t rfl) (.inr ⟨hok, rfl, rfl⟩) ?_
    ((refine Sb.c Tk.h ?_); (refine Sb.s ?_; exact Sb.r))
theorem fruitful_spec (q : HP) (v : Value) (C : CnfD) (hv : CnfR q v C) (hz : Fits C) : Fn Try.prog 11 #[v] [q] (CloR C true q) := by
  have hv0 := hv
  obtain ⟨pv, rfl, hp⟩ := hv
  obtain ⟨a0, cap0, rfl⟩ := hp.form
  refine Fn.mk Try.func11 rfl rfl fun w0 F => ?_
  (refine G.seq ?_; refine G.region ?_)
  refine GO.box rfl rfl rfl fun b1 => ?_
  (refine GO.assign rfl rfl ?_; refine GO.assign rfl rfl ?_; refine GO.nil ?_; refine kthen_n ?_; refine G.seq ?_; refine G.region ?_)
  refine GO.loadW rfl rfl rfl Tk.h rfl ?_
  refine GO.call2 rfl rfl rfl (closed_spec q _ C true hv0 hz) (Tks.c (Tk.t Tk.h) Tks.n) ?_
  rintro _ _ (⟨hok, b, o, rfl, hR, hst, rfl⟩ | ⟨hok, rfl, rfl⟩)
  · (refine GO.extract rfl rfl rfl ?_; refine GO.extract rfl rfl rfl ?_; refine GO.assign rfl rfl ?_; refine GO.assign rfl rfl ?_; refine GO.nil ?_; refine kthen_n ?_; refine G.ret ?_)
    refine KF.r2 rfl (RV.t rfl) (RV.t rfl) (.inl ⟨hok, b, o, rfl, hR, hst, rfl⟩) ?_
    ((refine Sb.c Tk.h ?_; refine Sb.c Tk.h ?_); (refine Sb.s ?_; exact Sb.r))
  · (refine GO.extract rfl rfl rfl ?_; refine GO.extract rfl rfl rfl ?_; refine GO.assign rfl rfl ?_; refine GO.assign rfl rfl ?_; refine GO.nil ?_; refine kthen_n ?_; refine G.ret ?_)
    refine KF.r2 rfl (RV.t rfl) (RV.t rfl) (.inr ⟨hok, rfl, rfl⟩) ?_
    ((refine Sb.c Tk.h ?_); (refine Sb.s ?_; exact Sb.r))
end Go.Proofs.Ytcemehocbemfmaa
