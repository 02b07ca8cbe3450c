/-
  The law ReachPlays, part 5.
-/
import Derived.Test.YtpfcgfgkmgnaaaaDoorM4
import Derived.Test.YtpfcgfgkmgnaaaaDoorM2
import Derived.Test.YtpfcgfgkmgnaaaaDoorM3
import Derived.Test.YtpfcgfgkmgnaaaaDoorP
namespace Go.Proofs.YtpfcgfgkmgnaaaaDoor
open Go
theorem hasV_wr {o : OptM} (wo : WfM o) {X : Nat → Nat → Bool} {i j : Int} (h : wrO (sideO o) i j ≠ 0) : hasV o X i j = .tuple #[.bool false, i64 (wrO (sideO o) i j)] := by
  match o, wo, h with
  | none, _, _ => rfl
  | some (s, C), wo, h =>
    have hs := (wo s C rfl).1
    have e1 : wrO (sideO (some (s, C))) i j = wrK s i j := by
      show wrO s i j = _
      unfold wrO; rw [if_neg (by omega)]
    rw [e1] at h ⊢
    show getM X s i j = _
    unfold wrK at h ⊢
    unfold getM
    by_cases hi : inM s i j = true
    · rw [if_pos hi] at h; exact absurd rfl h
    · rw [if_neg hi, if_neg hi]
attribute [local irreducible] G GO GR GT Fn FnV pt init exs pur sat own ImpS mat posL allV orL restX cellsX cellsV cntX
set_option maxHeartbeats 16000000 in
theorem doneHas_err (K z : HP) (v ra : Value) (o : OptM) (wo : WfM o) (X : Nat → Nat → Bool) (h : KeepO K v o X) (hra : RefO z ra o) (a b i j s t : Int) (u vm vg : Value) (hu : u.oneCell' = true) (hg : vg.oneCell' = true) (he : wrO (sideO o) i j ≠ 0) :
    Fn Tryd.prog 15 #[v, ra, opV 4 a b i j s u, vm, .agg #[i64 t, vg]] [K, z] (fun r Q => ∃ rv, r = .tuple #[rv, .bool true] ∧ RefO z rv o ∧ Q = [K, z]) := by
  have hA := kHasO K v o wo X h i j
  rw [hasV_wr wo he] at hA
  have hra0 := hra
  obtain ⟨va, rfl, hone⟩ := hra.slR
  have hW := refWrong2 (sideO o) i j va hone
  obtain ⟨pv, rfl⟩ := h.ptr
  generalize wrO (sideO o) i j = e at *
  have de : decide (e = e) = true := decide_eq_true rfl
  have d0 : decide (e = 0) = false := decide_eq_false he
  refine Fn.mk2 Tryd.func15 rfl rfl fun w0 F => ?_
  (refine G.seq ?_; refine G.region ?_; refine GO.box rfl rfl rfl fun b6 => ?_; refine GO.box rfl rfl rfl fun b7 => ?_; refine GO.box rfl rfl rfl fun b9 => ?_; refine GO.alloc rfl fun b10 => ?_; refine GO.assign rfl rfl ?_; refine GO.nil ?_; refine kthen_n ?_; refine G.seq ?_; refine G.seq ?_; refine G.region ?_; refine GO.fieldAddr rfl rfl ?_; refine GO.load1 rfl rfl rfl (Tk.t (Tk.t Tk.h)) rfl ?_; refine GO.nil ?_; refine kthen_n ?_; refine G.block ?_; refine G.seq ?_; refine G.region ?_; refine GO.eqi rfl rfl rfl ?_; refine GO.assign rfl rfl ?_; refine GO.nil ?_; refine kthen_n ?_; refine G.condF rfl rfl ?_; refine G.seq ?_; refine G.region ?_; refine GO.eqi rfl rfl rfl ?_; refine GO.assign rfl rfl ?_; refine GO.nil ?_; refine kthen_n ?_; refine G.condF rfl rfl ?_; refine G.seq ?_; refine G.region ?_; refine GO.eqT rfl rfl rfl rfl ?_; refine GO.assign rfl rfl ?_; refine GO.nil ?_; refine kthen_n ?_; refine G.condT rfl rfl ?_; refine G.seq ?_; refine G.region ?_; refine GO.move rfl rfl ?_; refine GO.fieldAddr rfl rfl ?_; refine GO.load1 rfl rfl rfl (Tk.t (Tk.t Tk.h)) rfl ?_; refine GO.fieldAddr rfl rfl ?_; refine GO.load1 rfl rfl rfl (Tk.t (Tk.t Tk.h)) rfl ?_)
  refine GO.call3 rfl rfl rfl rfl (hA) (Tks.c (Tk.t (Tk.t (Tk.t (Tk.t Tk.h)))) Tks.n) ?_
  rintro _ _ ⟨rfl, rfl⟩
  (refine GO.move rfl rfl ?_; refine GO.extract rfl rfl rfl ?_; refine GO.extract rfl rfl rfl ?_; refine GO.assign rfl rfl ?_; refine GO.assign rfl rfl ?_; refine GO.nil ?_; refine kthen_n ?_; refine G.seq ?_; refine G.region ?_; refine GO.fieldAddr rfl rfl ?_; refine GO.loadW rfl rfl rfl (Tk.t (Tk.t (Tk.t (Tk.t Tk.h)))) rfl ?_; refine GO.fieldAddr rfl rfl ?_; refine GO.load1 rfl rfl rfl (Tk.t (Tk.t (Tk.t Tk.h))) rfl ?_; refine GO.fieldAddr rfl rfl ?_; refine GO.load1 rfl rfl rfl (Tk.t (Tk.t (Tk.t Tk.h))) rfl ?_)
  refine GO.call3 rfl rfl rfl rfl (hW) Tks.n ?_
  rintro _ _ ⟨rfl, rfl⟩
  (refine GO.assign rfl rfl ?_; refine GO.nil ?_; refine kthen_n ?_; refine G.seq ?_)
  refine G.drawT 22 3145728 [pt b6 (row [i64 (sideO o : Nat), va] 30), pt b7 (row [i64 4, i64 a, i64 b, i64 i, i64 j, i64 s, u] 34)] (pt b10 (row [i64 0, .slice none 0 0] 30) :: K :: z :: F) (by kernel_rfl) (keys_of rfl) (ImpS.sb (by ((refine Sb.c (Tk.t (Tk.t (Tk.t (Tk.t Tk.h)))) ?_; refine Sb.c (Tk.t (Tk.t (Tk.t Tk.h))) ?_; refine Sb.c (Tk.t Tk.h) ?_; refine Sb.c Tk.h ?_; refine Sb.c (Tk.t Tk.h) ?_); (refine Sb.s ?_; exact Sb.r)))) ?_
  ((apply GR.step rfl; focus (intro Z; refine GO.loadW rfl rfl rfl Tk.h rfl ?_; exact KQ.z)); (apply GR.step rfl; focus (intro Z; refine GO.move rfl rfl ?_; exact KQ.z)); (apply GR.step rfl; focus (intro Z; refine GO.move rfl rfl ?_; exact KQ.z)); (apply GR.step rfl; focus (intro Z; refine GO.eqT rfl rfl rfl rfl ?_; exact KQ.z)); (apply GR.step rfl; focus (intro Z; refine GO.move rfl rfl ?_; exact KQ.z)); (apply GR.step rfl; focus (intro Z; refine GO.gT rfl rfl rfl ?_; refine GO.move rfl rfl ?_; exact KQ.z)); (apply GR.step rfl; focus (intro Z; refine GO.gT rfl rfl rfl ?_; refine GO.move rfl rfl ?_; exact KQ.z)); (apply GR.step rfl; focus (intro Z; refine GO.gT rfl rfl rfl ?_; refine GO.eqi rfl rfl rfl ?_; exact KQ.z)); (apply GR.step rfl; focus (intro Z; refine GO.gT rfl rfl rfl ?_; refine GO.move rfl rfl ?_; exact KQ.z)); (apply GR.step rfl; focus (intro Z; refine GO.gF rfl rfl rfl (by assumption) ?_; exact KQ.z)); (apply GR.step rfl; focus (intro Z; refine GO.gF rfl rfl rfl (by assumption) ?_; exact KQ.z)); (apply GR.step rfl; focus (intro Z; refine GO.gF rfl rfl rfl (by assumption) ?_; exact KQ.z)); (apply GR.step rfl; focus (intro Z; refine GO.gF rfl rfl rfl (by assumption) ?_; exact KQ.z)); (apply GR.step rfl; focus (intro Z; refine GO.gF rfl rfl rfl (by assumption) ?_; exact KQ.z)); (apply GR.step rfl; focus (intro Z; refine GO.gF rfl rfl rfl (by assumption) ?_; exact KQ.z)); (apply GR.step rfl; focus (intro Z; refine GO.gF rfl rfl rfl (by assumption) ?_; exact KQ.z)); (apply GR.step rfl; focus (intro Z; refine GO.gF rfl rfl rfl (by assumption) ?_; exact KQ.z)); (apply GR.step rfl; focus (intro Z; refine GO.gT rfl rfl rfl ?_; refine GO.pickFa rfl rfl (by assumption) rfl ?_; exact KQ.z)); (apply GR.step rfl; focus (intro Z; refine GO.gT rfl rfl rfl ?_; refine GO.eqlT rfl rfl rfl rfl ?_; exact KQ.z)); (apply GR.step rfl; focus (intro Z; refine GO.pickT rfl rfl rfl ?_; exact KQ.z)); refine GR.skip rfl ?_; refine GR.skip rfl ?_; refine GR.nil ?_)
  (repeat refine GT.skip rfl ?_)
  refine GT.step rfl ?_
  refine GO.storeW rfl rfl (Tk.t (Tk.t Tk.h)) ⟨rfl, rfl⟩ (by simp [Value.oneCell']; assumption) ?_
  refine GO.nil ⟨rfl, .tuple #[], pt b10 (row [i64 (sideO o : Nat), va] 30) :: K :: z :: F, rfl, ImpS.sb (by ((refine Sb.c (Tk.t Tk.h) ?_; refine Sb.c (Tk.t Tk.h) ?_; refine Sb.c Tk.h ?_; refine Sb.c Tk.h ?_; refine Sb.c Tk.h ?_); (exact Sb.r))), ?_⟩
  (repeat refine GT.skip rfl ?_)
  refine GT.step rfl ?_
  refine GO.assign rfl rfl ?_
  refine GO.nil ⟨rfl, _, _, rfl, ImpS.refl, ?_⟩
  refine GT.nil ?_
  (refine GO.nil ?_; refine kthen_n ?_; refine G.ret ?_; refine kblock_r ?_; refine kthen_r ?_)
  refine KF2.r2 rfl (RV.cW (n := 2) rfl rfl (by (exact (Tk.t (Tk.t Tk.h)))) rfl) (RV.t rfl) ⟨_, rfl, hra0, rfl⟩ (ImpS.sb ?_)
  ((refine Sb.c (Tk.t (Tk.t (Tk.t Tk.h))) ?_; refine Sb.c (Tk.t (Tk.t (Tk.t Tk.h))) ?_); (refine Sb.s ?_; refine Sb.s ?_; refine Sb.s ?_; exact Sb.r))
set_option maxHeartbeats 16000000 in
theorem doneHas_ok (K z : HP) (v ra : Value) (s0 : Nat) (C : Nat → Nat → Bool) (wo : WfM (some (s0, C))) (X : Nat → Nat → Bool) (hX : CloR (some (s0, C)) X) (h : KeepO K v (some (s0, C)) X) (hra : RefO z ra (some (s0, C))) (a b s t : Int) (i j : Nat) (hi : i < s0) (hj : j < s0) (u vm vg : Value) (hu : u.oneCell' = true) (hg : vg.oneCell' = true) :
    Fn Tryd.prog 15 #[v, ra, opV 4 a b (i : Nat) (j : Nat) s u, vm, .agg #[i64 t, vg]] [K, z] (fun r Q => ∃ rv z', r = .tuple #[rv, .bool true] ∧ RefO z' rv (some (s0, C)) ∧ Sup z z' ∧ Q = [K, z']) := by
  have hw := wo s0 C rfl
  have hcl := hX s0 C rfl
  have hA := kHasO K v _ wo X h (i : Nat) (j : Nat)
  have hv : hasV (some (s0, C)) X (i : Nat) (j : Nat) = .tuple #[.bool (X i j), i64 0] := by
    show getM X s0 (i : Nat) (j : Nat) = _
    unfold getM
    rw [if_pos (inM_yes (by omega))]
    rfl
  rw [hv] at hA
  have hCl := rCloseO z ra _ wo X hX hra
  have hra0 := hra
  obtain ⟨va, rfl, hone⟩ := hra.slR
  have hW := refWrong2 s0 (i : Nat) (j : Nat) va hone
  rw [show wrO s0 (i : Nat) (j : Nat) = 0 by unfold wrO; rw [if_neg (by omega), wrK_t (inM_yes (by omega))]] at hW
  have hHas : ∀ (z' : HP) (x : Value), RefO z' (refV s0 x) (some (s0, X)) → Fn Tryd.prog 50 #[refV s0 x, i64 (i : Nat), i64 (j : Nat)] [z'] (fun v Q => v = .bool (X i j) ∧ Q = [z']) := fun z' x hx => by
    have := rHas_spec z' (refV s0 x) s0 X hx (by omega) (hcl.in hw.2) (i : Nat) (j : Nat)
    rw [decide_eq_true (by omega), decide_eq_true (by omega), Int.toNat_natCast, Int.toNat_natCast] at this
    exact this
  change Fn _ _ #[refV s0 va] _ _ at hCl
  change RefO z (refV s0 va) _ at hra0
  change Fn _ _ #[_, refV s0 va, _, _, _] _ _
  obtain ⟨pv, rfl⟩ := h.ptr
  generalize X i j = tt at *
  refine Fn.mk2 Tryd.func15 rfl rfl fun w0 F => ?_
  (refine G.seq ?_; refine G.region ?_; refine GO.box rfl rfl rfl fun b6 => ?_; refine GO.box rfl rfl rfl fun b7 => ?_; refine GO.box rfl rfl rfl fun b9 => ?_; refine GO.alloc rfl fun b10 => ?_; refine GO.assign rfl rfl ?_; refine GO.nil ?_; refine kthen_n ?_; refine G.seq ?_; refine G.seq ?_; refine G.region ?_; refine GO.fieldAddr rfl rfl ?_; refine GO.load1 rfl rfl rfl (Tk.t (Tk.t Tk.h)) rfl ?_; refine GO.nil ?_; refine kthen_n ?_; refine G.block ?_; refine G.seq ?_; refine G.region ?_; refine GO.eqi rfl rfl rfl ?_; refine GO.assign rfl rfl ?_; refine GO.nil ?_; refine kthen_n ?_; refine G.condF rfl rfl ?_; refine G.seq ?_; refine G.region ?_; refine GO.eqi rfl rfl rfl ?_; refine GO.assign rfl rfl ?_; refine GO.nil ?_; refine kthen_n ?_; refine G.condF rfl rfl ?_; refine G.seq ?_; refine G.region ?_; refine GO.eqT rfl rfl rfl rfl ?_; refine GO.assign rfl rfl ?_; refine GO.nil ?_; refine kthen_n ?_; refine G.condT rfl rfl ?_; refine G.seq ?_; refine G.region ?_; refine GO.move rfl rfl ?_; refine GO.fieldAddr rfl rfl ?_; refine GO.load1 rfl rfl rfl (Tk.t (Tk.t Tk.h)) rfl ?_; refine GO.fieldAddr rfl rfl ?_; refine GO.load1 rfl rfl rfl (Tk.t (Tk.t Tk.h)) rfl ?_)
  refine GO.call3 rfl rfl rfl rfl (hA) (Tks.c (Tk.t (Tk.t (Tk.t (Tk.t Tk.h)))) Tks.n) ?_
  rintro _ _ ⟨rfl, rfl⟩
  (refine GO.move rfl rfl ?_; refine GO.extract rfl rfl rfl ?_; refine GO.extract rfl rfl rfl ?_; refine GO.assign rfl rfl ?_; refine GO.assign rfl rfl ?_; refine GO.nil ?_; refine kthen_n ?_; refine G.seq ?_; refine G.region ?_; refine GO.fieldAddr rfl rfl ?_; refine GO.loadW rfl rfl rfl (Tk.t (Tk.t (Tk.t (Tk.t Tk.h)))) rfl ?_; refine GO.fieldAddr rfl rfl ?_; refine GO.load1 rfl rfl rfl (Tk.t (Tk.t (Tk.t Tk.h))) rfl ?_; refine GO.fieldAddr rfl rfl ?_; refine GO.load1 rfl rfl rfl (Tk.t (Tk.t (Tk.t Tk.h))) rfl ?_)
  refine GO.call3 rfl rfl rfl rfl (hW) Tks.n ?_
  rintro _ _ ⟨rfl, rfl⟩
  (refine GO.assign rfl rfl ?_; refine GO.nil ?_; refine kthen_n ?_; refine G.seq ?_)
  refine G.drawW 22 4130816 7 [pt b6 (row [i64 (s0 : Nat), va] 30), pt b7 (row [i64 4, i64 a, i64 b, i64 (i : Nat), i64 (j : Nat), i64 s, u] 34)] (pt b10 (row [i64 0, .slice none 0 0] 30) :: K :: z :: F)
    (fun L' H' => ∃ z', Sup z z' ∧ SubE [(10, ptrV b10), (11, .bool true)] L' ∧ ImpS H' (pt b10 (row [i64 (s0 : Nat), va] 30) :: K :: z' :: F)) (by kernel_rfl) (by kernel_rfl) (keys_of rfl) (ImpS.sb (by ((refine Sb.c (Tk.t (Tk.t (Tk.t (Tk.t Tk.h)))) ?_; refine Sb.c (Tk.t (Tk.t (Tk.t Tk.h))) ?_; refine Sb.c (Tk.t Tk.h) ?_; refine Sb.c Tk.h ?_; refine Sb.c (Tk.t Tk.h) ?_); (refine Sb.s ?_; exact Sb.r)))) ?_ ?_
  · ((apply GR.step rfl; focus (intro Z; refine GO.loadW rfl rfl rfl Tk.h rfl ?_; exact KQ.z)); (apply GR.step rfl; focus (intro Z; refine GO.move rfl rfl ?_; exact KQ.z)); (apply GR.step rfl; focus (intro Z; refine GO.move rfl rfl ?_; exact KQ.z)); (apply GR.step rfl; focus (intro Z; refine GO.eqT rfl rfl rfl rfl ?_; exact KQ.z)); (apply GR.step rfl; focus (intro Z; refine GO.move rfl rfl ?_; exact KQ.z)); (apply GR.step rfl; focus (intro Z; refine GO.gT rfl rfl rfl ?_; refine GO.move rfl rfl ?_; exact KQ.z)); (apply GR.step rfl; focus (intro Z; refine GO.gT rfl rfl rfl ?_; refine GO.move rfl rfl ?_; exact KQ.z)); (apply GR.step rfl; focus (intro Z; refine GO.gT rfl rfl rfl ?_; refine GO.eqT rfl rfl rfl rfl ?_; exact KQ.z)); (apply GR.step rfl; focus (intro Z; refine GO.gT rfl rfl rfl ?_; refine GO.move rfl rfl ?_; exact KQ.z)); (apply GR.step rfl; focus (intro Z; refine GO.gT rfl rfl rfl ?_; refine GO.fieldAddr rfl rfl ?_; exact KQ.z)); (apply GR.step rfl; focus (intro Z; refine GO.gT rfl rfl rfl ?_; refine GO.loadW rfl rfl rfl Tk.h rfl ?_; exact KQ.z)); refine GR.skip rfl ?_; (apply GR.step rfl; focus (intro Z; refine GO.gT rfl rfl rfl ?_; refine GO.fieldAddr rfl rfl ?_; exact KQ.z)); (apply GR.step rfl; focus (intro Z; refine GO.gT rfl rfl rfl ?_; refine GO.load1 rfl rfl rfl (Tk.t Tk.h) rfl ?_; exact KQ.z)); (apply GR.step rfl; focus (intro Z; refine GO.gT rfl rfl rfl ?_; refine GO.fieldAddr rfl rfl ?_; exact KQ.z)); (apply GR.step rfl; focus (intro Z; refine GO.gT rfl rfl rfl ?_; refine GO.load1 rfl rfl rfl (Tk.t Tk.h) rfl ?_; exact KQ.z)); refine GR.skip rfl ?_; refine GR.skip rfl ?_; refine GR.skip rfl ?_; refine GR.skip rfl ?_; refine GR.skip rfl ?_; refine GR.skip rfl ?_; refine GR.nil ?_)
    refine GW.one (i := 11) (by kernel_rfl) rfl ?_
    refine GO.gT rfl rfl rfl ?_
    refine GO.call1 rfl rfl (hCl) (Tks.c (Tk.t (Tk.t (Tk.t (Tk.t Tk.h)))) Tks.n) ?_
    rintro _ _ ⟨rv, z', rfl, hz', hs, rfl⟩
    obtain ⟨vr, rfl, hone2⟩ := hz'.slR
    refine GO.nil ⟨rfl, _, pt b10 (row [i64 0, .slice none 0 0] 30) :: K :: z' :: F, rfl, ImpS.sb (by ((refine Sb.c (Tk.t Tk.h) ?_; refine Sb.c (Tk.t Tk.h) ?_; refine Sb.c (Tk.t Tk.h) ?_; refine Sb.c (Tk.t Tk.h) ?_; refine Sb.c Tk.h ?_); (exact Sb.r))), ?_⟩
    refine GW.one (i := 16) (by kernel_rfl) rfl ?_
    refine GO.gT rfl rfl rfl ?_
    refine GO.call3 rfl rfl rfl rfl (hHas z' vr hz') (Tks.c (Tk.t (Tk.t (Tk.t (Tk.t Tk.h)))) Tks.n) ?_
    rintro _ _ ⟨rfl, rfl⟩
    refine GO.nil ⟨rfl, _, pt b10 (row [i64 0, .slice none 0 0] 30) :: K :: z' :: F, rfl, ImpS.sb (by ((refine Sb.c (Tk.t Tk.h) ?_; refine Sb.c (Tk.t Tk.h) ?_; refine Sb.c (Tk.t Tk.h) ?_; refine Sb.c (Tk.t Tk.h) ?_; refine Sb.c Tk.h ?_); (exact Sb.r))), ?_⟩
    refine GW.two (i1 := 17) (i2 := 20) (by kernel_rfl) rfl rfl ?_ ?_
    · skip
      refine GO.gT rfl rfl rfl ?_
      refine GO.pickT rfl rfl rfl ?_
      refine GO.nil ⟨rfl, _, _, rfl, ImpS.refl, ?_⟩
      refine GW.two (i1 := 18) (i2 := 20) (by kernel_rfl) rfl rfl ?_ ?_
      · skip
        refine GO.gT rfl rfl rfl ?_
        refine GO.eqlT rfl rfl rfl rfl ?_
        refine GO.nil ⟨rfl, _, _, rfl, ImpS.refl, ?_⟩
        refine GW.two (i1 := 19) (i2 := 20) (by kernel_rfl) rfl rfl ?_ ?_
        · skip
          refine GO.pickT rfl rfl rfl ?_
          refine GO.nil ⟨rfl, _, _, rfl, ImpS.refl, ?_⟩
          refine GW.one (i := 20) (by kernel_rfl) rfl ?_
          refine GO.storeW rfl rfl (Tk.t (Tk.t Tk.h)) ⟨rfl, rfl⟩ (by simp [Value.oneCell']; assumption) ?_
          refine GO.nil ⟨rfl, .tuple #[], pt b10 (row [i64 (s0 : Nat), va] 30) :: K :: z' :: F, rfl, ImpS.sb (by ((refine Sb.c (Tk.t Tk.h) ?_; refine Sb.c (Tk.t Tk.h) ?_; refine Sb.c Tk.h ?_; refine Sb.c Tk.h ?_; refine Sb.c Tk.h ?_); (exact Sb.r))), ?_⟩
          refine GW.one (i := 21) (by kernel_rfl) rfl ?_
          refine GO.assign rfl rfl ?_
          refine GO.nil ⟨rfl, _, _, rfl, ImpS.refl, ?_⟩
          refine GW.nil ⟨z', hs, by (refine SubE.c rfl rfl ?_; refine SubE.c rfl rfl ?_; exact SubE.n), ImpS.sb (by ((refine Sb.c (Tk.t (Tk.t Tk.h)) ?_; refine Sb.c (Tk.t (Tk.t Tk.h)) ?_; refine Sb.c (Tk.t (Tk.t Tk.h)) ?_); (refine Sb.s ?_; refine Sb.s ?_; exact Sb.r)))⟩
        · skip
          refine GO.storeW rfl rfl (Tk.t (Tk.t Tk.h)) ⟨rfl, rfl⟩ (by simp [Value.oneCell']; assumption) ?_
          refine GO.nil ⟨rfl, .tuple #[], pt b10 (row [i64 (s0 : Nat), va] 30) :: K :: z' :: F, rfl, ImpS.sb (by ((refine Sb.c (Tk.t Tk.h) ?_; refine Sb.c (Tk.t Tk.h) ?_; refine Sb.c Tk.h ?_; refine Sb.c Tk.h ?_; refine Sb.c Tk.h ?_); (exact Sb.r))), ?_⟩
          refine GW.one (i := 19) (by kernel_rfl) rfl ?_
          refine GO.pickT rfl rfl rfl ?_
          refine GO.nil ⟨rfl, _, _, rfl, ImpS.refl, ?_⟩
          refine GW.one (i := 21) (by kernel_rfl) rfl ?_
          refine GO.assign rfl rfl ?_
          refine GO.nil ⟨rfl, _, _, rfl, ImpS.refl, ?_⟩
          refine GW.nil ⟨z', hs, by (refine SubE.c rfl rfl ?_; refine SubE.c rfl rfl ?_; exact SubE.n), ImpS.sb (by ((refine Sb.c (Tk.t (Tk.t Tk.h)) ?_; refine Sb.c (Tk.t (Tk.t Tk.h)) ?_; refine Sb.c (Tk.t (Tk.t Tk.h)) ?_); (refine Sb.s ?_; refine Sb.s ?_; exact Sb.r)))⟩
      · skip
        refine GO.storeW rfl rfl (Tk.t (Tk.t Tk.h)) ⟨rfl, rfl⟩ (by simp [Value.oneCell']; assumption) ?_
        refine GO.nil ⟨rfl, .tuple #[], pt b10 (row [i64 (s0 : Nat), va] 30) :: K :: z' :: F, rfl, ImpS.sb (by ((refine Sb.c (Tk.t Tk.h) ?_; refine Sb.c (Tk.t Tk.h) ?_; refine Sb.c Tk.h ?_; refine Sb.c Tk.h ?_; refine Sb.c Tk.h ?_); (exact Sb.r))), ?_⟩
        refine GW.one (i := 18) (by kernel_rfl) rfl ?_
        refine GO.gT rfl rfl rfl ?_
        refine GO.eqlT rfl rfl rfl rfl ?_
        refine GO.nil ⟨rfl, _, _, rfl, ImpS.refl, ?_⟩
        refine GW.one (i := 19) (by kernel_rfl) rfl ?_
        refine GO.pickT rfl rfl rfl ?_
        refine GO.nil ⟨rfl, _, _, rfl, ImpS.refl, ?_⟩
        refine GW.one (i := 21) (by kernel_rfl) rfl ?_
        refine GO.assign rfl rfl ?_
        refine GO.nil ⟨rfl, _, _, rfl, ImpS.refl, ?_⟩
        refine GW.nil ⟨z', hs, by (refine SubE.c rfl rfl ?_; refine SubE.c rfl rfl ?_; exact SubE.n), ImpS.sb (by ((refine Sb.c (Tk.t (Tk.t Tk.h)) ?_; refine Sb.c (Tk.t (Tk.t Tk.h)) ?_; refine Sb.c (Tk.t (Tk.t Tk.h)) ?_); (refine Sb.s ?_; refine Sb.s ?_; exact Sb.r)))⟩
    · skip
      refine GO.storeW rfl rfl (Tk.t (Tk.t Tk.h)) ⟨rfl, rfl⟩ (by simp [Value.oneCell']; assumption) ?_
      refine GO.nil ⟨rfl, .tuple #[], pt b10 (row [i64 (s0 : Nat), va] 30) :: K :: z' :: F, rfl, ImpS.sb (by ((refine Sb.c (Tk.t Tk.h) ?_; refine Sb.c (Tk.t Tk.h) ?_; refine Sb.c Tk.h ?_; refine Sb.c Tk.h ?_; refine Sb.c Tk.h ?_); (exact Sb.r))), ?_⟩
      refine GW.one (i := 17) (by kernel_rfl) rfl ?_
      refine GO.gT rfl rfl rfl ?_
      refine GO.pickT rfl rfl rfl ?_
      refine GO.nil ⟨rfl, _, _, rfl, ImpS.refl, ?_⟩
      refine GW.one (i := 18) (by kernel_rfl) rfl ?_
      refine GO.gT rfl rfl rfl ?_
      refine GO.eqlT rfl rfl rfl rfl ?_
      refine GO.nil ⟨rfl, _, _, rfl, ImpS.refl, ?_⟩
      refine GW.one (i := 19) (by kernel_rfl) rfl ?_
      refine GO.pickT rfl rfl rfl ?_
      refine GO.nil ⟨rfl, _, _, rfl, ImpS.refl, ?_⟩
      refine GW.one (i := 21) (by kernel_rfl) rfl ?_
      refine GO.assign rfl rfl ?_
      refine GO.nil ⟨rfl, _, _, rfl, ImpS.refl, ?_⟩
      refine GW.nil ⟨z', hs, by (refine SubE.c rfl rfl ?_; refine SubE.c rfl rfl ?_; exact SubE.n), ImpS.sb (by ((refine Sb.c (Tk.t (Tk.t Tk.h)) ?_; refine Sb.c (Tk.t (Tk.t Tk.h)) ?_; refine Sb.c (Tk.t (Tk.t Tk.h)) ?_); (refine Sb.s ?_; refine Sb.s ?_; exact Sb.r)))⟩
  · rintro L' H' ⟨z', hs, hL, hH⟩
    refine GO.keep hH (GO.sub hL Sb.r ?_)
    (refine GO.nil ?_; refine kthen_n ?_; refine G.ret ?_; refine kblock_r ?_; refine kthen_r ?_)
    refine KF2.r2 rfl (RV.cW (n := 2) rfl rfl (by (exact Tk.h)) rfl) (RV.t rfl) ⟨_, z', rfl, RefO.sup hs hra0, hs, rfl⟩ (ImpS.sb ?_)
    ((refine Sb.c (Tk.t Tk.h) ?_; refine Sb.c (Tk.t Tk.h) ?_); (refine Sb.s ?_; exact Sb.r))
theorem doneHas (K z : HP) (v ra : Value) (o : OptM) (wo : WfM o) (X : Nat → Nat → Bool) (hX : CloR o X) (h : KeepO K v o X) (hra : RefO z ra o) (a b i j s t : Int) (u vm vg : Value) (hu : u.oneCell' = true) (hg : vg.oneCell' = true) :
    Fn Tryd.prog 15 #[v, ra, opV 4 a b i j s u, vm, .agg #[i64 t, vg]] [K, z] (fun r Q => ∃ rv z', r = .tuple #[rv, .bool true] ∧ RefO z' rv o ∧ Sup z z' ∧ Q = [K, z']) := by
  by_cases he : wrO (sideO o) i j = 0
  · obtain ⟨h0, m, n, rfl, rfl, hm, hn⟩ := wrO_zero he
    have ho := some_ofS (o := o) h0
    generalize setO o = C at *
    generalize sideO o = s0 at *
    subst ho
    exact doneHas_ok K z v ra s0 C wo X hX h hra a b s t m n hm hn u vm vg hu hg
  · refine (doneHas_err K z v ra o wo X h hra a b i j s t u vm vg hu hg he).mono ?_
    rintro _ _ ⟨rv, h1, h2, h3⟩
    exact ⟨rv, z, h1, h2, Sup.refl z, h3⟩
end Go.Proofs.YtpfcgfgkmgnaaaaDoor
namespace Go.Proofs.YtpfcgfgkmgnaaaaDoor
open Go
theorem Fn.weak {P : Program} {f : FuncId} {args : Array Value} {l : List HP} {R R' : Value → List HP → Prop} (h : Fn P f args l R) (k : ∀ v Q, R v Q → ∃ Q', R' v Q' ∧ ImpS Q Q') : Fn P f args l R' := by
  unfold Fn at *
  intro F w hw
  refine (h F w hw).mono ?_
  rintro e w' ⟨v, Q, e1, e2, hR, d⟩
  obtain ⟨Q', h2, h3⟩ := k v Q hR
  exact ⟨v, Q', e1, e2, h2, h3 F w' d⟩
theorem perm34 (a b c d : HP) : [a, b, c, d].Perm [a, b, d, c] := .cons _ (.cons _ (.swap _ _ _))
attribute [local irreducible] G GO GR GT Fn FnV pt init exs pur sat own ImpS mat posL allV orL restX cellsX cellsV cntX
set_option maxHeartbeats 16000000 in
theorem doneLook (q : HP) (hq : Tab q) (K z : HP) (v ra : Value) (o : OptM) (wo : WfM o) (X : Nat → Nat → Bool) (hX : CloR o X) (h : KeepO K v o X) (hra : RefO z ra o) (a b i j s t : Int) (u vm vg : Value) (hu : u.oneCell' = true) (hg : vg.oneCell' = true) :
    Fn Tryd.prog 15 #[v, ra, opV 6 a b i j s u, vm, .agg #[i64 t, vg]] [K, z, q] (fun r Q => ∃ rv z', r = .tuple #[rv, .bool true] ∧ RefO z' rv o ∧ Sup z z' ∧ Q = [K, z', q]) := by
  have hA := look_spec q hq K z v ra o wo X hX h hra
  have hra0 := hra
  obtain ⟨va, rfl, hone⟩ := hra.slR
  obtain ⟨pv, rfl⟩ := h.ptr
  refine Fn.mk2 Tryd.func15 rfl rfl fun w0 F => ?_
  (refine G.seq ?_; refine G.region ?_; refine GO.box rfl rfl rfl fun b6 => ?_; refine GO.box rfl rfl rfl fun b7 => ?_; refine GO.box rfl rfl rfl fun b9 => ?_; refine GO.alloc rfl fun b10 => ?_; refine GO.assign rfl rfl ?_; refine GO.nil ?_; refine kthen_n ?_; refine G.seq ?_; refine G.seq ?_; refine G.region ?_; refine GO.fieldAddr rfl rfl ?_; refine GO.load1 rfl rfl rfl (Tk.t (Tk.t Tk.h)) rfl ?_; refine GO.nil ?_; refine kthen_n ?_; refine G.block ?_; refine G.seq ?_; refine G.region ?_; refine GO.eqi rfl rfl rfl ?_; refine GO.assign rfl rfl ?_; refine GO.nil ?_; refine kthen_n ?_; refine G.condF rfl rfl ?_; refine G.seq ?_; refine G.region ?_; refine GO.eqi rfl rfl rfl ?_; refine GO.assign rfl rfl ?_; refine GO.nil ?_; refine kthen_n ?_; refine G.condF rfl rfl ?_; refine G.seq ?_; refine G.region ?_; refine GO.eqi rfl rfl rfl ?_; refine GO.assign rfl rfl ?_; refine GO.nil ?_; refine kthen_n ?_; refine G.condF rfl rfl ?_; refine G.seq ?_; refine G.region ?_; refine GO.eqT rfl rfl rfl rfl ?_; refine GO.assign rfl rfl ?_; refine GO.nil ?_; refine kthen_n ?_; refine G.condT rfl rfl ?_; refine G.seq ?_)
  refine G.drawT 6 56 [pt b6 (row [i64 (sideO o : Nat), va] 30)] (pt b10 (row [i64 0, .slice none 0 0] 30) :: K :: z :: q :: F) (by kernel_rfl) (keys_of rfl) (ImpS.sb (by ((refine Sb.c (Tk.t (Tk.t (Tk.t Tk.h))) ?_; refine Sb.c Tk.h ?_; refine Sb.c (Tk.t (Tk.t Tk.h)) ?_; refine Sb.c (Tk.t (Tk.t Tk.h)) ?_; refine Sb.c (Tk.t (Tk.t Tk.h)) ?_); (refine Sb.s ?_; refine Sb.s ?_; exact Sb.r)))) ?_
  ((apply GR.step rfl; focus (intro Z; refine GO.loadW rfl rfl rfl Tk.h rfl ?_; exact KQ.z)); (apply GR.step rfl; focus (intro Z; refine GO.move rfl rfl ?_; exact KQ.z)); (apply GR.step rfl; focus (intro Z; refine GO.loadW rfl rfl rfl Tk.h rfl ?_; exact KQ.z)); refine GR.skip rfl ?_; refine GR.skip rfl ?_; refine GR.skip rfl ?_; refine GR.nil ?_)
  (repeat refine GT.skip rfl ?_)
  refine GT.step rfl ?_
  refine GO.call2 rfl rfl rfl (hA) (Tks.c (Tk.t (Tk.t Tk.h)) (Tks.c (Tk.t (Tk.t Tk.h)) (Tks.c (Tk.t (Tk.t Tk.h)) Tks.n))) ?_
  rintro _ _ ⟨rfl, z', hs, rfl⟩
  refine GO.nil ⟨rfl, _, pt b10 (row [i64 0, .slice none 0 0] 30) :: K :: z' :: q :: F, rfl, ImpS.sb (by ((refine Sb.c (Tk.t (Tk.t (Tk.t Tk.h))) ?_; refine Sb.c (Tk.t (Tk.t (Tk.t Tk.h))) ?_; refine Sb.c Tk.h ?_; refine Sb.c Tk.h ?_; refine Sb.c Tk.h ?_); (exact Sb.r))), ?_⟩
  (repeat refine GT.skip rfl ?_)
  refine GT.step rfl ?_
  refine GO.storeW rfl rfl (Tk.t Tk.h) ⟨rfl, rfl⟩ (by simp [Value.oneCell']; assumption) ?_
  refine GO.nil ⟨rfl, .tuple #[], pt b10 (row [i64 (sideO o : Nat), va] 30) :: K :: z' :: q :: F, rfl, ImpS.sb (by ((refine Sb.c (Tk.t Tk.h) ?_; refine Sb.c Tk.h ?_; refine Sb.c Tk.h ?_; refine Sb.c Tk.h ?_; refine Sb.c Tk.h ?_); (exact Sb.r))), ?_⟩
  (repeat refine GT.skip rfl ?_)
  refine GT.step rfl ?_
  refine GO.assign rfl rfl ?_
  refine GO.nil ⟨rfl, _, _, rfl, ImpS.refl, ?_⟩
  refine GT.nil ?_
  (refine GO.nil ?_; refine kthen_n ?_; refine G.ret ?_; refine kblock_r ?_; refine kthen_r ?_)
  refine KF2.r2 rfl (RV.cW (n := 2) rfl rfl (by (exact (Tk.t Tk.h))) rfl) (RV.t rfl) ⟨_, z', rfl, RefO.sup hs hra0, hs, rfl⟩ (ImpS.sb ?_)
  ((refine Sb.c (Tk.t (Tk.t Tk.h)) ?_; refine Sb.c (Tk.t (Tk.t Tk.h)) ?_; refine Sb.c (Tk.t (Tk.t Tk.h)) ?_); (refine Sb.s ?_; refine Sb.s ?_; exact Sb.r))
set_option maxHeartbeats 16000000 in
theorem doneSteps (q : HP) (hq : Tab q) (K z : HP) (v ra : Value) (o : OptM) (wo : WfM o) (X : Nat → Nat → Bool) (h : KeepO K v o X) (hra : RefO z ra o) (a b i j s t : Int) (u vm vg : Value) (hu : u.oneCell' = true) (hg : vg.oneCell' = true) :
    Fn Tryd.prog 15 #[v, ra, opV 7 a b i j s u, vm, .agg #[i64 t, vg]] [K, z, q] (fun r Q => ∃ rv, r = .tuple #[rv, .bool true] ∧ RefO z rv o ∧ Q = [K, z, q]) := by
  have hA := kStepsO K v o X h
  have hf := cells_fit o
  have hra0 := hra
  obtain ⟨va, rfl, hone⟩ := hra.slR
  obtain ⟨pv, rfl⟩ := h.ptr
  refine Fn.mk2 Tryd.func15 rfl rfl fun w0 F => ?_
  (refine G.seq ?_; refine G.region ?_; refine GO.box rfl rfl rfl fun b6 => ?_; refine GO.box rfl rfl rfl fun b7 => ?_; refine GO.box rfl rfl rfl fun b9 => ?_; refine GO.alloc rfl fun b10 => ?_; refine GO.assign rfl rfl ?_; refine GO.nil ?_; refine kthen_n ?_; refine G.seq ?_; refine G.seq ?_; refine G.region ?_; refine GO.fieldAddr rfl rfl ?_; refine GO.load1 rfl rfl rfl (Tk.t (Tk.t Tk.h)) rfl ?_; refine GO.nil ?_; refine kthen_n ?_; refine G.block ?_; refine G.seq ?_; refine G.region ?_; refine GO.eqi rfl rfl rfl ?_; refine GO.assign rfl rfl ?_; refine GO.nil ?_; refine kthen_n ?_; refine G.condF rfl rfl ?_; refine G.seq ?_; refine G.region ?_; refine GO.eqi rfl rfl rfl ?_; refine GO.assign rfl rfl ?_; refine GO.nil ?_; refine kthen_n ?_; refine G.condF rfl rfl ?_; refine G.seq ?_; refine G.region ?_; refine GO.eqi rfl rfl rfl ?_; refine GO.assign rfl rfl ?_; refine GO.nil ?_; refine kthen_n ?_; refine G.condF rfl rfl ?_; refine G.seq ?_; refine G.region ?_; refine GO.eqi rfl rfl rfl ?_; refine GO.assign rfl rfl ?_; refine GO.nil ?_; refine kthen_n ?_; refine G.condF rfl rfl ?_; refine G.seq ?_; refine G.region ?_; refine GO.eqT rfl rfl rfl rfl ?_; refine GO.assign rfl rfl ?_; refine GO.nil ?_; refine kthen_n ?_; refine G.condT rfl rfl ?_; refine G.seq ?_; refine G.region ?_; refine GO.move rfl rfl ?_)
  refine GO.call1 rfl rfl (hA) (Tks.c (Tk.t (Tk.t (Tk.t (Tk.t Tk.h)))) Tks.n) ?_
  rintro _ _ ⟨p, hp, rfl⟩
  obtain ⟨pw, rfl⟩ := hp.has.ptr
  (refine GO.assign rfl rfl ?_; refine GO.nil ?_; refine kthen_n ?_; refine G.seq ?_; refine G.region ?_; refine GO.move rfl rfl ?_; refine GO.fieldAddr rfl rfl ?_; refine GO.loadW rfl rfl rfl (Tk.t (Tk.t (Tk.t (Tk.t (Tk.t Tk.h))))) rfl ?_)
  refine GO.call2 rfl rfl rfl (osame_spec p z q hq _ _ o hp.has hra0 wo.wf hf) (Tks.c Tk.h (Tks.c (Tk.t (Tk.t (Tk.t (Tk.t (Tk.t Tk.h))))) (Tks.c (Tk.t (Tk.t (Tk.t (Tk.t (Tk.t Tk.h))))) Tks.n))) ?_
  rintro _ _ ⟨rfl, rfl⟩
  (refine GO.assign rfl rfl ?_; refine GO.nil ?_; refine kthen_n ?_; refine G.seq ?_; refine G.region ?_; refine GO.move rfl rfl ?_)
  refine GO.call3 rfl rfl rfl rfl (set_any p _ o wo hp 0 0) (Tks.c Tk.h Tks.n) ?_
  rintro _ _ ⟨p', rfl⟩
  (refine GO.nil ?_; refine kthen_n ?_; refine G.seq ?_; refine G.region ?_; refine GO.loadW rfl rfl rfl (Tk.t (Tk.t (Tk.t (Tk.t (Tk.t (Tk.t (Tk.t Tk.h))))))) rfl ?_; refine GO.move rfl rfl ?_; refine GO.storeW rfl rfl (Tk.t (Tk.t (Tk.t (Tk.t Tk.h)))) ⟨rfl, rfl⟩ (by simp [Value.oneCell']; assumption) ?_; refine GO.assign rfl rfl ?_; refine GO.nil ?_; refine kthen_n ?_; refine G.ret ?_; refine kblock_r ?_; refine kthen_r ?_)
  refine KF2.r2 rfl (RV.cW (n := 2) rfl rfl (by (exact Tk.h)) rfl) (RV.t rfl) ⟨_, rfl, hra0, rfl⟩ (ImpS.sb ?_)
  ((refine Sb.c (Tk.t (Tk.t (Tk.t (Tk.t Tk.h)))) ?_; refine Sb.c (Tk.t (Tk.t Tk.h)) ?_; refine Sb.c (Tk.t (Tk.t Tk.h)) ?_); (refine Sb.s ?_; refine Sb.s ?_; refine Sb.s ?_; refine Sb.s ?_; refine Sb.s ?_; exact Sb.r))
set_option maxHeartbeats 16000000 in
theorem doneElse (d : Int) (h2 : d ≠ 2) (h3 : d ≠ 3) (h4 : d ≠ 4) (h6 : d ≠ 6) (h7 : d ≠ 7) (v ra : Value) (z : HP) (o : OptM) (hra : RefO z ra o) (a b i j s t : Int) (u vm vg : Value) (hu : u.oneCell' = true) (hg : vg.oneCell' = true) :
    Fn Tryd.prog 15 #[v, ra, opV d a b i j s u, vm, .agg #[i64 t, vg]] [] (fun r Q => ∃ rv, r = .tuple #[rv, .bool true] ∧ RefO z rv o ∧ Q = []) := by
  have hra0 := hra
  obtain ⟨va, rfl, hone⟩ := hra.slR
  have d2 : decide (d = 2) = false := decide_eq_false h2
  have d3 : decide (d = 3) = false := decide_eq_false h3
  have d4 : decide (d = 4) = false := decide_eq_false h4
  have d6 : decide (d = 6) = false := decide_eq_false h6
  have d7 : decide (d = 7) = false := decide_eq_false h7
  refine Fn.mk2 Tryd.func15 rfl rfl fun w0 F => ?_
  (refine G.seq ?_; refine G.region ?_; refine GO.box rfl rfl rfl fun b6 => ?_; refine GO.box rfl rfl rfl fun b7 => ?_; refine GO.box rfl rfl rfl fun b9 => ?_; refine GO.alloc rfl fun b10 => ?_; refine GO.assign rfl rfl ?_; refine GO.nil ?_; refine kthen_n ?_; refine G.seq ?_; refine G.seq ?_; refine G.region ?_; refine GO.fieldAddr rfl rfl ?_; refine GO.load1 rfl rfl rfl (Tk.t (Tk.t Tk.h)) rfl ?_; refine GO.nil ?_; refine kthen_n ?_; refine G.block ?_; refine G.seq ?_; refine G.region ?_; refine GO.eqi rfl rfl rfl ?_; refine GO.assign rfl rfl ?_; refine GO.nil ?_; refine kthen_n ?_; refine G.condF rfl (by assumption) ?_; refine G.seq ?_; refine G.region ?_; refine GO.eqi rfl rfl rfl ?_; refine GO.assign rfl rfl ?_; refine GO.nil ?_; refine kthen_n ?_; refine G.condF rfl (by assumption) ?_; refine G.seq ?_; refine G.region ?_; refine GO.eqi rfl rfl rfl ?_; refine GO.assign rfl rfl ?_; refine GO.nil ?_; refine kthen_n ?_; refine G.condF rfl (by assumption) ?_; refine G.seq ?_; refine G.region ?_; refine GO.eqi rfl rfl rfl ?_; refine GO.assign rfl rfl ?_; refine GO.nil ?_; refine kthen_n ?_; refine G.condF rfl (by assumption) ?_; refine G.seq ?_; refine G.region ?_; refine GO.eqi rfl rfl rfl ?_; refine GO.assign rfl rfl ?_; refine GO.nil ?_; refine kthen_n ?_; refine G.condF rfl (by assumption) ?_; refine G.skip ?_; refine kblock_n ?_; refine kthen_n ?_; refine G.seq ?_; refine G.region ?_; refine GO.loadW rfl rfl rfl (Tk.t (Tk.t (Tk.t Tk.h))) rfl ?_; refine GO.storeW rfl rfl Tk.h ⟨rfl, rfl⟩ (by simp [Value.oneCell']; assumption) ?_; refine GO.assign rfl rfl ?_; refine GO.nil ?_; refine kthen_n ?_; refine G.ret ?_)
  refine KF2.r2 rfl (RV.cW (n := 2) rfl rfl (by (exact Tk.h)) rfl) (RV.t rfl) ⟨_, rfl, hra0, rfl⟩ (ImpS.sb ?_)
  (skip; (refine Sb.s ?_; refine Sb.s ?_; refine Sb.s ?_; refine Sb.s ?_; exact Sb.r))
theorem Sb.drop1 (x y a q : HP) : Sb [x, y, q] [x, y, a, q] := Sb.c Tk.h (Sb.c Tk.h (Sb.s (Sb.c Tk.h Sb.n)))
theorem Sb.drop2 (x y q a : HP) : Sb [x, y, q] [x, y, q, a] := Sb.c Tk.h (Sb.c Tk.h (Sb.c Tk.h Sb.n))
/-- Whatever step on one keeper: the answer is right, and keeper and reference are what they must be behind it. -/
theorem done_spec (q : HP) (hq : Tab q) (K z pm : HP) (v ra vm rb : Value) (o g : OptM) (wo : WfM o) (wg : WfM g) (X : Nat → Nat → Bool) (hX : CloR o X) (h : KeepO K v o X) (hra : RefO z ra o) (hrb : RefO z rb g) (hm : MatO pm vm g) (d a b i j s : Int) (u : Value) (hu : u.oneCell' = true) :
    Fn Tryd.prog 15 #[v, ra, opV d a b i j s u, vm, rb] [K, z, pm, q] (fun r Q => ∃ rv K' z' o' X', r = .tuple #[rv, .bool true] ∧ WfM o' ∧ CloR o' X' ∧ KeepO K' v o' X' ∧ RefO z' rv o' ∧ Sup z z' ∧ Q = [K', z', q]) := by
  obtain ⟨vg, hrb1, hg⟩ := hrb.slR
  by_cases h3 : d = 3
  · subst h3
    refine (doneJoin q hq K z pm v ra vm rb o g wo wg X hX h hra hrb hm a b i j s u hu).mono ?_
    rintro _ _ ⟨rv, K', z', rfl, h1, h2, h3, rfl⟩
    exact ⟨rv, K', z', _, _, rfl, joinO_wf wo wg, joinC_clo wo wg hX, h1, h2, h3, rfl⟩
  subst hrb1
  have drop : ∀ (x y : HP), ImpS [x, y, pm, q] [x, y, q] := fun x y => ImpS.sb (Sb.drop1 x y pm q)
  by_cases h2 : d = 2
  · subst h2
    refine Fn.weak ((doneAdd K z v ra o wo X hX h hra a b i j s _ u vm vg hu hg).frame [pm, q]) ?_
    rintro _ _ ⟨_, ⟨rv, K', z', rfl, h1, h2, h3, rfl⟩, rfl⟩
    exact ⟨_, ⟨rv, K', z', _, _, rfl, addS_wf wo i j, addC_clo hX i j, h1, h2, h3, rfl⟩, drop _ _⟩
  by_cases h4 : d = 4
  · subst h4
    refine Fn.weak ((doneHas K z v ra o wo X hX h hra a b i j s _ u vm vg hu hg).frame [pm, q]) ?_
    rintro _ _ ⟨_, ⟨rv, z', rfl, h1, h2, rfl⟩, rfl⟩
    exact ⟨_, ⟨rv, K, z', _, _, rfl, wo, hX, h, h1, h2, rfl⟩, drop _ _⟩
  by_cases h6 : d = 6
  · subst h6
    refine Fn.weak (Fn.perm (perm34 K z pm q) ((doneLook q hq K z v ra o wo X hX h hra a b i j s _ u vm vg hu hg).frame [pm])) ?_
    rintro _ _ ⟨_, ⟨rv, z', rfl, h1, h2, rfl⟩, rfl⟩
    exact ⟨_, ⟨rv, K, z', _, _, rfl, wo, hX, h, h1, h2, rfl⟩, ImpS.sb (Sb.drop2 K z' q pm)⟩
  by_cases h7 : d = 7
  · subst h7
    refine Fn.weak (Fn.perm (perm34 K z pm q) ((doneSteps q hq K z v ra o wo X h hra a b i j s _ u vm vg hu hg).frame [pm])) ?_
    rintro _ _ ⟨_, ⟨rv, rfl, h1, rfl⟩, rfl⟩
    exact ⟨_, ⟨rv, K, z, _, _, rfl, wo, hX, h, h1, Sup.refl z, rfl⟩, ImpS.sb (Sb.drop2 K z q pm)⟩
  · refine Fn.weak ((doneElse d h2 h3 h4 h6 h7 v ra z o hra a b i j s _ u vm vg hu hg).frame [K, z, pm, q]) ?_
    rintro _ _ ⟨_, ⟨rv, rfl, h1, rfl⟩, rfl⟩
    exact ⟨_, ⟨rv, K, z, _, _, rfl, wo, hX, h, h1, Sup.refl z, rfl⟩, drop _ _⟩
end Go.Proofs.YtpfcgfgkmgnaaaaDoor
namespace Go.Proofs.YtpfcgfgkmgnaaaaDoor
open Go
/-- A step: what is done, on which two, two numbers, a side, and the slice of the cells. -/
structure OpS where
  d : Int
  a : Int
  b : Int
  i : Int
  j : Int
  s : Int
  u : Value
def OpS.vs (x : OpS) : List Value := [i64 x.d, i64 x.a, i64 x.b, i64 x.i, i64 x.j, i64 x.s, x.u]
def opsV (l : List OpS) : List Value := l.flatMap OpS.vs
theorem opsV_len (l : List OpS) : (opsV l).length = l.length * 7 := by
  induction l with
  | nil => rfl
  | cons p l ih => simp only [opsV, List.flatMap_cons, List.length_append, OpS.vs, List.length_cons, List.length_nil] at ih ⊢; omega
theorem opsV_get : ∀ {l : List OpS} {k : Nat} {p : OpS} {m : Nat}, l[k]? = some p → m < 7 → (opsV l)[k * 7 + m]? = p.vs[m]?
  | [], k, p, m, h, _ => by simp at h
  | x :: l, 0, p, m, h, hm => by
    simp at h; subst h
    show (x.vs ++ opsV l)[0 * 7 + m]? = _
    rw [show 0 * 7 + m = m by omega, List.getElem?_append_left (by simp [OpS.vs]; omega)]
  | x :: l, k + 1, p, m, h, hm => by
    simp only [List.getElem?_cons_succ] at h
    have := opsV_get h hm
    show (x.vs ++ opsV l)[(k + 1) * 7 + m]? = _
    rw [List.getElem?_append_right (by simp [OpS.vs]; omega), show (k + 1) * 7 + m - x.vs.length = k * 7 + m by simp [OpS.vs]; omega, this]
/-- A script, readable in q. -/
def OpsR (q : HP) (v : Value) (l : List OpS) (cs : Nat → List Cl) : Prop := Sl q v l.length 7 (opsV l) ∧ ∀ (k : Nat) (p : OpS), l[k]? = some p → SlC q p.u (cs k)
end Go.Proofs.YtpfcgfgkmgnaaaaDoor
namespace Go.Proofs.YtpfcgfgkmgnaaaaDoor
open Go
/-- Two keepers and their references, at the start of a round. -/
structure TwoS where
  n : Nat
  K0 : HP
  K1 : HP
  Z : HP
  v0 : Value
  v1 : Value
  o0 : OptM
  o1 : OptM
  X0 : Nat → Nat → Bool
  X1 : Nat → Nat → Bool
  r0 : Value
  r1 : Value
structure SideK (K Z : HP) (v : Value) (o : OptM) (X : Nat → Nat → Bool) (r : Value) : Prop where
  kp : KeepO K v o X
  wf : WfM o
  cl : CloR o X
  rf : RefO Z (refV (sideO o) r) o
theorem SideK.sup {K Z Z' : HP} {v : Value} {o : OptM} {X : Nat → Nat → Bool} {r : Value} (hs : Sup Z Z') (h : SideK K Z v o X r) : SideK K Z' v o X r := ⟨h.kp, h.wf, h.cl, h.rf.sup hs⟩
theorem SideK.one {K Z : HP} {v : Value} {o : OptM} {X : Nat → Nat → Bool} {r : Value} (h : SideK K Z v o X r) : r.oneCell' = true := by
  obtain ⟨r', e, h1, _⟩ := h.rf
  have e2 : r = r' := by
    have e3 : (Value.agg #[i64 (sideO o : Nat), r]) = .agg #[i64 (sideO o : Nat), r'] := e
    simpa using e3
  rw [e2]; exact h1
theorem SideK.none : SideK (star []) (star []) (.pointer none) none noX (.slice none 0 0) :=
  ⟨KeepO.nil _ _, (fun s X e => by cases e), (fun s X e => by cases e), RefO.nil _⟩
theorem SideK.ptr {K Z : HP} {v : Value} {o : OptM} {X : Nat → Nat → Bool} {r : Value} (h : SideK K Z v o X r) : v.oneCell' = true := by
  obtain ⟨p, rfl⟩ := h.kp.ptr; rfl
theorem KeepO.isNone {K : HP} {p : Option Addr} {o : OptM} {X : Nat → Nat → Bool} (h : KeepO K (.pointer p) o X) (wo : WfM o) : (!(p.isNone == decide (((sideO o : Nat) : Int) = 0))) = false := by
  rcases h with ⟨rfl, hp⟩ | ⟨s, S, bk, d, rfl, hp, _⟩
  · obtain rfl : p = none := by injection hp
    rfl
  · obtain rfl : p = some ⟨bk, 0, none⟩ := by injection hp
    have := (wo s S rfl).1.1
    rw [decide_eq_false (show ¬ ((sideO (some (s, S)) : Nat) : Int) = 0 by show ¬ ((s : Nat) : Int) = 0; omega)]
    rfl
theorem ImpS.e1 (H : List HP) : ImpS H (star [] :: H) := fun m w s => sat_flat.2 s
theorem ImpS.under {x : HP} {H H' : List HP} (h : ImpS H H') : ImpS (x :: H) (x :: H') := fun m w s => by
  have s1 : sat (H ++ (x :: m)) w := sat_perm (List.perm_middle.symm) s
  exact sat_perm List.perm_middle (h _ w s1)
attribute [local irreducible] G GO GR GT Fn FnV pt init exs pur sat own ImpS mat posL allV orL restX cellsX cellsV cntX opsV
set_option maxHeartbeats 32000000 in
set_option maxRecDepth 40000 in
theorem plays_law (q : HP) (hq : Tab q) (v : Value) (l : List OpS) (cs : Nat → List Cl) (hv : OpsR q v l cs) :
    Fn Tryd.prog 3 #[v] [q] (fun r Q => r = .bool true ∧ Q = [q]) := by
  obtain ⟨⟨a0, cap0, rfl, hl0, hr0⟩, hu⟩ := hv
  refine Fn.mk2 Tryd.func3 rfl rfl fun w0 F => ?_
  by_cases f1 : 40 < l.length
  · (refine G.seq ?_; refine G.region ?_; refine GO.assign rfl rfl ?_; refine GO.nil ?_; refine kthen_n ?_; refine G.seq ?_; refine G.seq ?_; refine G.region ?_; refine GO.move rfl rfl ?_; refine GO.lenS rfl rfl ?_; refine GO.gti rfl rfl rfl ?_; refine GO.nil ?_; refine kthen_n ?_)
    rw [show decide ((40 : Int) < (l.length : Int)) = true from decide_eq_true (by omega)]
    (refine G.condT rfl rfl ?_; refine G.seq ?_; refine G.region ?_)
    refine GO.call0 rfl (hawake_spec q) (Tks.c Tk.h Tks.n) ?_
    rintro _ _ ⟨rfl, rfl⟩
    (refine GO.assign rfl rfl ?_; refine GO.nil ?_; refine kthen_n ?_; refine G.ret ?_; refine kthen_r ?_)
    refine KF2.r1 rfl (RV.t rfl) ⟨rfl, rfl⟩ (ImpS.sb ?_)
    ((refine Sb.c Tk.h ?_); (exact Sb.r))
  (refine G.seq ?_; refine G.region ?_; refine GO.assign rfl rfl ?_; refine GO.nil ?_; refine kthen_n ?_; refine G.seq ?_; refine G.seq ?_; refine G.region ?_; refine GO.move rfl rfl ?_; refine GO.lenS rfl rfl ?_; refine GO.gti rfl rfl rfl ?_; refine GO.nil ?_; refine kthen_n ?_)
  rw [show decide ((40 : Int) < (l.length : Int)) = false from decide_eq_false (by omega)]
  (refine G.condF rfl rfl ?_; refine G.skip ?_; refine kthen_n ?_; refine G.seq ?_; refine G.region ?_; refine GO.alloc rfl fun b3 => ?_; refine GO.nil ?_; refine kthen_n ?_; refine G.seq ?_; refine G.region ?_; refine GO.alloc rfl fun b4 => ?_; refine GO.nil ?_; refine kthen_n ?_; refine G.seq ?_; refine G.seq ?_; refine G.region ?_; refine GO.assign rfl rfl ?_; refine GO.nil ?_; refine kthen_n ?_; refine G.block ?_)
  refine G.loopI (σ := TwoS) (fun S => [(0, .slice a0 l.length cap0), (3, ptrV b3), (4, ptrV b4), (5, i64 (S.n : Nat))])
    (fun S => S.K0 :: S.K1 :: S.Z :: pt b3 (row [S.v0, S.v1] 25) :: pt b4 (row [i64 (sideO S.o0 : Nat), S.r0, i64 (sideO S.o1 : Nat), S.r1] 31) :: q :: F)
    (fun S => S.n ≤ l.length ∧ SideK S.K0 S.Z S.v0 S.o0 S.X0 S.r0 ∧ SideK S.K1 S.Z S.v1 S.o1 S.X1 S.r1) (fun S => l.length - S.n)
    ⟨0, star [], star [], star [], .pointer none, .pointer none, none, none, noX, noX, .slice none 0 0, .slice none 0 0⟩ ⟨Nat.zero_le _, SideK.none, SideK.none⟩ ?_ ?_ ?_
  · (refine SubE.c rfl rfl ?_; refine SubE.c rfl rfl ?_; refine SubE.c rfl rfl ?_; refine SubE.c rfl rfl ?_; exact SubE.n)
  · refine ImpS.trans (ImpS.e1 _) (ImpS.under (ImpS.trans (ImpS.e1 _) (ImpS.under (ImpS.trans (ImpS.e1 _) (ImpS.under (ImpS.sb ?_))))))
    ((refine Sb.c (Tk.t Tk.h) ?_; refine Sb.c Tk.h ?_; refine Sb.c Tk.h ?_); (exact Sb.r))
  rintro ⟨n, K0, K1, Z, v0, v1, o0, o1, X0, X1, r0, r1⟩ ⟨hn, h0, h1⟩
  dsimp only at hn h0 h1 ⊢
  have hv0 := h0.ptr
  have hv1 := h1.ptr
  have hr0' := h0.one
  have hr1' := h1.one
  (refine G.seq ?_; refine G.seq ?_; refine G.region ?_; refine GO.move rfl rfl ?_; refine GO.move rfl rfl ?_; refine GO.lenS rfl rfl ?_; refine GO.lti rfl rfl rfl ?_; refine GO.nil ?_; refine kthen_n ?_)
  refine G.condD rfl (fun hlt => ?_) (fun hge => ?_)
  · have hnl : n < l.length := by omega
    obtain ⟨p, hp⟩ : ∃ p, l[n]? = some p := ⟨_, List.getElem?_eq_getElem hnl⟩
    obtain ⟨b0, oo, rfl, hrd⟩ := hr0 (by omega)
    have hup := hu n p hp
    have hld : ∀ j u, p.vs[j]? = some u → Rd q ⟨b0, oo + n * 7 + j, none⟩ u := fun j u hj => by
      have hj7 : j < 7 := (List.getElem?_eq_some_iff.1 hj).1
      rw [Nat.add_assoc]
      exact hrd _ _ (by rw [opsV_get hp hj7]; exact hj)
    generalize cs n = L at hup
    obtain ⟨d, a, bb, i, j, s, u⟩ := p
    dsimp only at hup
    obtain ⟨au, cu, rfl, hcu, hru⟩ := id hup
    (refine G.skip ?_; refine kthen_n ?_; refine G.seq ?_; refine G.block ?_; refine G.seq ?_; refine G.region ?_; refine GO.move rfl rfl ?_; refine GO.move rfl rfl ?_; refine GO.idxS rfl rfl rfl ⟨rfl, by omega⟩ ?_)
    refine GO.loadM (vs := [i64 d, i64 a, i64 bb, i64 i, i64 j, i64 s, .slice au L.length cu]) rfl rfl rfl (Tk.t (Tk.t (Tk.t (Tk.t (Tk.t Tk.h))))) rfl (fun j u hj => hld j u hj) ?_
    (refine GO.alloc rfl fun b6 => ?_; refine GO.storeW rfl rfl Tk.h ⟨rfl, rfl⟩ (by simp [Value.oneCell']) ?_; refine GO.nil ?_; refine kthen_n ?_; refine G.seq ?_)
    refine G.draw 8 (by kernel_rfl) ?_
    ((apply GQ.step; focus (intro Z; refine GO.fieldAddr rfl rfl ?_; exact KQ.z)); (apply GQ.step; focus (intro Z; refine GO.load1 rfl rfl rfl Tk.h rfl ?_; exact KQ.z)))
    apply GQ.step; focus (intro Z; refine GO.mask rfl 1 rfl rfl ⟨by omega, rfl⟩ ?_; exact KQ.z)
    ((apply GQ.step; focus (intro Z; refine GO.fieldAddr rfl rfl ?_; exact KQ.z)); (apply GQ.step; focus (intro Z; refine GO.load1 rfl rfl rfl Tk.h rfl ?_; exact KQ.z)))
    apply GQ.step; focus (intro Z; refine GO.mask rfl 1 rfl rfl ⟨by omega, rfl⟩ ?_; exact KQ.z)
    ((apply GQ.step; focus (intro Z; refine GO.assign rfl rfl ?_; exact KQ.z)); (apply GQ.step; focus (intro Z; refine GO.assign rfl rfl ?_; exact KQ.z)); refine GQ.nil ?_)
    rw [show ((2 ^ 1 : Nat) : Int) = 2 from rfl]
    (refine GO.nil ?_; refine kthen_n ?_; refine G.seq ?_; refine G.seq ?_; refine G.region ?_; refine GO.fieldAddr rfl rfl ?_; refine GO.fieldAddr rfl rfl ?_; refine GO.load1 rfl rfl rfl Tk.h rfl ?_; refine GO.gti rfl rfl rfl ?_; refine GO.move rfl rfl ?_)
    refine GO.cut1 66 (.bool (decide ((200 : Int) < s) || (decide ((100 : Int) < (L.length : Nat)) || (decide (d = 0) && (decide ((200 : Int) < i) && decide (i ≤ 1024)))))) ?_ ?_
    · cases e1 : decide ((200 : Int) < s) with
      | true =>
        (refine GO.gF rfl rfl rfl rfl ?_; refine GO.gF rfl rfl rfl rfl ?_; refine GO.gF rfl rfl rfl rfl ?_; refine GO.gF rfl rfl rfl rfl ?_; refine GO.gF rfl rfl rfl rfl ?_; refine GO.pickT rfl rfl rfl ?_; refine GO.move rfl rfl ?_; refine GO.gF rfl rfl rfl rfl ?_; refine GO.gF rfl rfl rfl rfl ?_; refine GO.gF rfl rfl rfl rfl ?_; refine GO.gF rfl rfl rfl rfl ?_; refine GO.gU rfl rfl rfl ?_; refine GO.gU rfl rfl rfl ?_; refine GO.gU rfl rfl rfl ?_; refine GO.gF rfl rfl rfl rfl ?_; refine GO.gF rfl rfl rfl rfl ?_; refine GO.gU rfl rfl rfl ?_; refine GO.gU rfl rfl rfl ?_; refine GO.gU rfl rfl rfl ?_; refine GO.gF rfl rfl rfl rfl ?_; refine GO.pickT rfl rfl rfl ?_; refine GO.nil ?_; refine kthen_n ?_)
        (refine ⟨?_, ImpS.sb ?_⟩; (focus ((refine SubE.c rfl rfl ?_; refine SubE.c rfl rfl ?_; refine SubE.c rfl rfl ?_; refine SubE.c rfl rfl ?_; refine SubE.c rfl rfl ?_; refine SubE.c rfl rfl ?_; refine SubE.c rfl rfl ?_; refine SubE.c rfl rfl ?_; refine SubE.c rfl rfl ?_; refine SubE.c rfl rfl ?_; refine SubE.c rfl rfl ?_; refine SubE.c rfl rfl ?_; refine SubE.c rfl rfl ?_; refine SubE.c rfl rfl ?_; refine SubE.c rfl rfl ?_; refine SubE.c rfl rfl ?_; refine SubE.c rfl rfl ?_; refine SubE.c rfl rfl ?_; refine SubE.c rfl rfl ?_; refine SubE.c rfl rfl ?_; refine SubE.c rfl rfl ?_; refine SubE.c rfl rfl ?_; refine SubE.c rfl rfl ?_; refine SubE.c rfl rfl ?_; refine SubE.c rfl rfl ?_; refine SubE.c rfl rfl ?_; refine SubE.c rfl rfl ?_; exact SubE.n))); (focus (((refine Sb.c Tk.h ?_; refine Sb.c Tk.h ?_; refine Sb.c Tk.h ?_; refine Sb.c Tk.h ?_; refine Sb.c Tk.h ?_; refine Sb.c Tk.h ?_; refine Sb.c Tk.h ?_); (exact Sb.r)))))
      | false =>
        cases e2 : decide ((100 : Int) < (L.length : Nat)) with
        | true =>
          (refine GO.gT rfl rfl rfl ?_; refine GO.fieldAddr rfl rfl ?_; refine GO.gT rfl rfl rfl ?_; refine GO.fieldAddr rfl rfl ?_; refine GO.gT rfl rfl rfl ?_; refine GO.load1 rfl rfl rfl Tk.h rfl ?_; refine GO.gT rfl rfl rfl ?_; refine GO.lenS rfl rfl ?_; refine GO.gT rfl rfl rfl ?_; refine GO.gti rfl rfl rfl ?_; refine GO.pickF rfl rfl rfl ?_; refine GO.move rfl rfl ?_; refine GO.gF rfl rfl rfl (by assumption) ?_; refine GO.gF rfl rfl rfl (by assumption) ?_; refine GO.gF rfl rfl rfl (by assumption) ?_; refine GO.gF rfl rfl rfl (by assumption) ?_; refine GO.gU rfl rfl rfl ?_; refine GO.gU rfl rfl rfl ?_; refine GO.gU rfl rfl rfl ?_; refine GO.gF rfl rfl rfl (by assumption) ?_; refine GO.gF rfl rfl rfl (by assumption) ?_; refine GO.gU rfl rfl rfl ?_; refine GO.gU rfl rfl rfl ?_; refine GO.gU rfl rfl rfl ?_; refine GO.gF rfl rfl rfl (by assumption) ?_; refine GO.pickTa rfl rfl (by assumption) rfl ?_; refine GO.nil ?_; refine kthen_n ?_)
          (refine ⟨?_, ImpS.sb ?_⟩; (focus ((refine SubE.c rfl rfl ?_; refine SubE.c rfl rfl ?_; refine SubE.c rfl rfl ?_; refine SubE.c rfl rfl ?_; refine SubE.c rfl rfl ?_; refine SubE.c rfl rfl ?_; refine SubE.c rfl rfl ?_; refine SubE.c rfl rfl ?_; refine SubE.c rfl rfl ?_; refine SubE.c rfl rfl ?_; refine SubE.c rfl rfl ?_; refine SubE.c rfl rfl ?_; refine SubE.c rfl rfl ?_; refine SubE.c rfl rfl ?_; refine SubE.c rfl rfl ?_; refine SubE.c rfl rfl ?_; refine SubE.c rfl rfl ?_; refine SubE.c rfl rfl ?_; refine SubE.c rfl rfl ?_; refine SubE.c rfl rfl ?_; refine SubE.c rfl rfl ?_; refine SubE.c rfl rfl ?_; refine SubE.c rfl rfl ?_; refine SubE.c rfl rfl ?_; refine SubE.c rfl rfl ?_; refine SubE.c rfl rfl ?_; refine SubE.c rfl rfl ?_; exact SubE.n))); (focus (((refine Sb.c Tk.h ?_; refine Sb.c Tk.h ?_; refine Sb.c Tk.h ?_; refine Sb.c Tk.h ?_; refine Sb.c Tk.h ?_; refine Sb.c Tk.h ?_; refine Sb.c Tk.h ?_); (exact Sb.r)))))
        | false =>
          cases e3 : decide (d = 0) with
          | false =>
            (refine GO.gT rfl rfl rfl ?_; refine GO.fieldAddr rfl rfl ?_; refine GO.gT rfl rfl rfl ?_; refine GO.fieldAddr rfl rfl ?_; refine GO.gT rfl rfl rfl ?_; refine GO.load1 rfl rfl rfl Tk.h rfl ?_; refine GO.gT rfl rfl rfl ?_; refine GO.lenS rfl rfl ?_; refine GO.gT rfl rfl rfl ?_; refine GO.gti rfl rfl rfl ?_; refine GO.pickF rfl rfl rfl ?_; refine GO.move rfl rfl ?_; refine GO.gT rfl rfl (by assumption) ?_; refine GO.fieldAddr rfl rfl ?_; refine GO.gT rfl rfl (by assumption) ?_; refine GO.load1 rfl rfl rfl Tk.h rfl ?_; refine GO.gT rfl rfl (by assumption) ?_; refine GO.eqi rfl rfl rfl ?_; refine GO.gT rfl rfl (by assumption) ?_; refine GO.move rfl rfl ?_; refine GO.gF rfl rfl rfl (by assumption) ?_; refine GO.gF rfl rfl rfl (by assumption) ?_; refine GO.gF rfl rfl rfl (by assumption) ?_; refine GO.gT rfl rfl (by assumption) ?_; refine GO.pickFa rfl rfl (by assumption) rfl ?_; refine GO.gT rfl rfl (by assumption) ?_; refine GO.move rfl rfl ?_; refine GO.gF rfl rfl rfl rfl ?_; refine GO.gF rfl rfl rfl rfl ?_; refine GO.gF rfl rfl rfl rfl ?_; refine GO.gT rfl rfl (by assumption) ?_; refine GO.pickF rfl rfl rfl ?_; refine GO.pickFa rfl rfl (by assumption) rfl ?_; refine GO.nil ?_; refine kthen_n ?_)
            (refine ⟨?_, ImpS.sb ?_⟩; (focus ((refine SubE.c rfl rfl ?_; refine SubE.c rfl rfl ?_; refine SubE.c rfl rfl ?_; refine SubE.c rfl rfl ?_; refine SubE.c rfl rfl ?_; refine SubE.c rfl rfl ?_; refine SubE.c rfl rfl ?_; refine SubE.c rfl rfl ?_; refine SubE.c rfl rfl ?_; refine SubE.c rfl rfl ?_; refine SubE.c rfl rfl ?_; refine SubE.c rfl rfl ?_; refine SubE.c rfl rfl ?_; refine SubE.c rfl rfl ?_; refine SubE.c rfl rfl ?_; refine SubE.c rfl rfl ?_; refine SubE.c rfl rfl ?_; refine SubE.c rfl rfl ?_; refine SubE.c rfl rfl ?_; refine SubE.c rfl rfl ?_; refine SubE.c rfl rfl ?_; refine SubE.c rfl rfl ?_; refine SubE.c rfl rfl ?_; refine SubE.c rfl rfl ?_; refine SubE.c rfl rfl ?_; refine SubE.c rfl rfl ?_; refine SubE.c rfl rfl ?_; exact SubE.n))); (focus (((refine Sb.c Tk.h ?_; refine Sb.c Tk.h ?_; refine Sb.c Tk.h ?_; refine Sb.c Tk.h ?_; refine Sb.c Tk.h ?_; refine Sb.c Tk.h ?_; refine Sb.c Tk.h ?_); (exact Sb.r)))))
          | true =>
            cases e4 : decide ((200 : Int) < i) with
            | false =>
              (refine GO.gT rfl rfl rfl ?_; refine GO.fieldAddr rfl rfl ?_; refine GO.gT rfl rfl rfl ?_; refine GO.fieldAddr rfl rfl ?_; refine GO.gT rfl rfl rfl ?_; refine GO.load1 rfl rfl rfl Tk.h rfl ?_; refine GO.gT rfl rfl rfl ?_; refine GO.lenS rfl rfl ?_; refine GO.gT rfl rfl rfl ?_; refine GO.gti rfl rfl rfl ?_; refine GO.pickF rfl rfl rfl ?_; refine GO.move rfl rfl ?_; refine GO.gT rfl rfl (by assumption) ?_; refine GO.fieldAddr rfl rfl ?_; refine GO.gT rfl rfl (by assumption) ?_; refine GO.load1 rfl rfl rfl Tk.h rfl ?_; refine GO.gT rfl rfl (by assumption) ?_; refine GO.eqi rfl rfl rfl ?_; refine GO.gT rfl rfl (by assumption) ?_; refine GO.move rfl rfl ?_; refine GO.gT rfl rfl (by assumption) ?_; refine GO.fieldAddr rfl rfl ?_; refine GO.gT rfl rfl (by assumption) ?_; refine GO.load1 rfl rfl rfl Tk.h rfl ?_; refine GO.gT rfl rfl (by assumption) ?_; refine GO.gti rfl rfl rfl ?_; refine GO.gT rfl rfl (by assumption) ?_; refine GO.pickTa rfl rfl (by assumption) rfl ?_; refine GO.gT rfl rfl (by assumption) ?_; refine GO.move rfl rfl ?_; refine GO.gF rfl rfl rfl (by assumption) ?_; refine GO.gF rfl rfl rfl (by assumption) ?_; refine GO.gF rfl rfl rfl (by assumption) ?_; refine GO.gT rfl rfl (by assumption) ?_; refine GO.pickFa rfl rfl (by assumption) rfl ?_; refine GO.pickFa rfl rfl (by assumption) rfl ?_; refine GO.nil ?_; refine kthen_n ?_)
              (refine ⟨?_, ImpS.sb ?_⟩; (focus ((refine SubE.c rfl rfl ?_; refine SubE.c rfl rfl ?_; refine SubE.c rfl rfl ?_; refine SubE.c rfl rfl ?_; refine SubE.c rfl rfl ?_; refine SubE.c rfl rfl ?_; refine SubE.c rfl rfl ?_; refine SubE.c rfl rfl ?_; refine SubE.c rfl rfl ?_; refine SubE.c rfl rfl ?_; refine SubE.c rfl rfl ?_; refine SubE.c rfl rfl ?_; refine SubE.c rfl rfl ?_; refine SubE.c rfl rfl ?_; refine SubE.c rfl rfl ?_; refine SubE.c rfl rfl ?_; refine SubE.c rfl rfl ?_; refine SubE.c rfl rfl ?_; refine SubE.c rfl rfl ?_; refine SubE.c rfl rfl ?_; refine SubE.c rfl rfl ?_; refine SubE.c rfl rfl ?_; refine SubE.c rfl rfl ?_; refine SubE.c rfl rfl ?_; refine SubE.c rfl rfl ?_; refine SubE.c rfl rfl ?_; refine SubE.c rfl rfl ?_; exact SubE.n))); (focus (((refine Sb.c Tk.h ?_; refine Sb.c Tk.h ?_; refine Sb.c Tk.h ?_; refine Sb.c Tk.h ?_; refine Sb.c Tk.h ?_; refine Sb.c Tk.h ?_; refine Sb.c Tk.h ?_); (exact Sb.r)))))
            | true =>
              (refine GO.gT rfl rfl rfl ?_; refine GO.fieldAddr rfl rfl ?_; refine GO.gT rfl rfl rfl ?_; refine GO.fieldAddr rfl rfl ?_; refine GO.gT rfl rfl rfl ?_; refine GO.load1 rfl rfl rfl Tk.h rfl ?_; refine GO.gT rfl rfl rfl ?_; refine GO.lenS rfl rfl ?_; refine GO.gT rfl rfl rfl ?_; refine GO.gti rfl rfl rfl ?_; refine GO.pickF rfl rfl rfl ?_; refine GO.move rfl rfl ?_; refine GO.gT rfl rfl (by assumption) ?_; refine GO.fieldAddr rfl rfl ?_; refine GO.gT rfl rfl (by assumption) ?_; refine GO.load1 rfl rfl rfl Tk.h rfl ?_; refine GO.gT rfl rfl (by assumption) ?_; refine GO.eqi rfl rfl rfl ?_; refine GO.gT rfl rfl (by assumption) ?_; refine GO.move rfl rfl ?_; refine GO.gT rfl rfl (by assumption) ?_; refine GO.fieldAddr rfl rfl ?_; refine GO.gT rfl rfl (by assumption) ?_; refine GO.load1 rfl rfl rfl Tk.h rfl ?_; refine GO.gT rfl rfl (by assumption) ?_; refine GO.gti rfl rfl rfl ?_; refine GO.gT rfl rfl (by assumption) ?_; refine GO.pickTa rfl rfl (by assumption) rfl ?_; refine GO.gT rfl rfl (by assumption) ?_; refine GO.move rfl rfl ?_; refine GO.gT rfl rfl (by assumption) ?_; refine GO.fieldAddr rfl rfl ?_; refine GO.gT rfl rfl (by assumption) ?_; refine GO.load1 rfl rfl rfl Tk.h rfl ?_; refine GO.gT rfl rfl (by assumption) ?_; refine GO.lei rfl rfl rfl ?_; refine GO.gT rfl rfl (by assumption) ?_; refine GO.pickTa rfl rfl (by assumption) rfl ?_; refine GO.pickFa rfl rfl (by assumption) rfl ?_; refine GO.nil ?_; refine kthen_n ?_)
              (refine ⟨?_, ImpS.sb ?_⟩; (focus ((refine SubE.c rfl rfl ?_; refine SubE.c rfl rfl ?_; refine SubE.c rfl rfl ?_; refine SubE.c rfl rfl ?_; refine SubE.c rfl rfl ?_; refine SubE.c rfl rfl ?_; refine SubE.c rfl rfl ?_; refine SubE.c rfl rfl ?_; refine SubE.c rfl rfl ?_; refine SubE.c rfl rfl ?_; refine SubE.c rfl rfl ?_; refine SubE.c rfl rfl ?_; refine SubE.c rfl rfl ?_; refine SubE.c rfl rfl ?_; refine SubE.c rfl rfl ?_; refine SubE.c rfl rfl ?_; refine SubE.c rfl rfl ?_; refine SubE.c rfl rfl ?_; refine SubE.c rfl rfl ?_; refine SubE.c rfl rfl ?_; refine SubE.c rfl rfl ?_; refine SubE.c rfl rfl ?_; refine SubE.c rfl rfl ?_; refine SubE.c rfl rfl ?_; refine SubE.c rfl rfl ?_; refine SubE.c rfl rfl ?_; refine SubE.c rfl rfl ?_; exact SubE.n))); (focus (((refine Sb.c Tk.h ?_; refine Sb.c Tk.h ?_; refine Sb.c Tk.h ?_; refine Sb.c Tk.h ?_; refine Sb.c Tk.h ?_; refine Sb.c Tk.h ?_; refine Sb.c Tk.h ?_); (exact Sb.r)))))
    cases hc : (decide ((200 : Int) < s) || (decide ((100 : Int) < (L.length : Nat)) || (decide (d = 0) && (decide ((200 : Int) < i) && decide (i ≤ 1024))))) with
    | true =>
      (refine G.condT rfl rfl ?_; refine G.seq ?_; refine G.region ?_)
      refine GO.call0 rfl (hawake_spec q) (Tks.c (Tk.t (Tk.t (Tk.t (Tk.t (Tk.t (Tk.t Tk.h)))))) Tks.n) ?_
      rintro _ _ ⟨rfl, rfl⟩
      (refine GO.assign rfl rfl ?_; refine GO.nil ?_; refine kthen_n ?_; refine G.ret ?_; refine kthen_r ?_; refine kblock_r ?_; refine kthen_r ?_; refine kthen_r ?_; refine kblock_r ?_; refine kthen_r ?_)
      refine KF2.r1 rfl (RV.t rfl) ⟨rfl, rfl⟩ (ImpS.sb ?_)
      ((refine Sb.c Tk.h ?_); (refine Sb.s ?_; refine Sb.s ?_; refine Sb.s ?_; refine Sb.s ?_; refine Sb.s ?_; refine Sb.s ?_; exact Sb.r))
    | false =>
      have hL : L.length ≤ 100 := by
        simp only [Bool.or_eq_false_iff, decide_eq_false_iff_not] at hc
        omega
      clear hc
      have g5 : Rd (pt b6 (row [i64 d, i64 a, i64 bb, i64 i, i64 j, i64 s, .slice au L.length cu] 34)) ⟨b6, 0 + 5, none⟩ (i64 s) := Rd.row rfl
      have g6 : Rd (pt b6 (row [i64 d, i64 a, i64 bb, i64 i, i64 j, i64 s, .slice au L.length cu] 34)) ⟨b6, 0 + 5 + 1, none⟩ (.slice au L.length cu) := Rd.row rfl
      (refine G.condF rfl rfl ?_; refine G.skip ?_; refine kthen_n ?_; refine G.seq ?_; refine G.region ?_; refine GO.fieldAddr rfl rfl ?_; refine GO.load2 rfl rfl rfl Tk.h (by assumption) (by assumption) ?_)
      refine GO.call1 rfl rfl (made_specG s q _ L hup (by omega)) (Tks.c (Tk.t (Tk.t (Tk.t (Tk.t (Tk.t (Tk.t Tk.h)))))) Tks.n) ?_
      rintro _ _ ⟨m1, x1, p1, z1, rfl, hx1, hp1, hz1, rfl⟩
      have wg := gridO_wf s L
      generalize gridO s L = g at hp1 hz1 wg ⊢
      obtain ⟨pm, rfl⟩ := hp1.has.ptr
      refine GO.merge (x := z1) (y := Z) (Tks.c (Tk.t Tk.h) (Tks.c (Tk.t (Tk.t (Tk.t (Tk.t (Tk.t Tk.h))))) Tks.n)) ?_
      replace hz1 := RefO.left (z' := Z) hz1
      replace h0 := h0.sup (Sup.right z1 Z)
      replace h1 := h1.sup (Sup.right z1 Z)
      generalize star [z1, Z] = Z at hz1 h0 h1 ⊢
      have cz1 := hz1.slR
      cases e0 : decide (d = 0) with
      | true =>
        rcases Int.emod_two_eq a with ha | ha
        · rw [ha]
          (refine GO.move rfl rfl ?_; refine GO.extract rfl rfl rfl ?_; refine GO.extract rfl rfl rfl ?_; refine GO.alloc rfl fun b10 => ?_; refine GO.assign rfl rfl ?_; refine GO.storeW rfl rfl Tk.h ⟨rfl, rfl⟩ (by simp [Value.oneCell']; assumption) ?_; refine GO.nil ?_; refine kthen_n ?_; refine G.seq ?_; refine G.region ?_; refine GO.fieldAddr rfl rfl ?_; refine GO.load1 rfl rfl rfl (Tk.t (Tk.t (Tk.t (Tk.t Tk.h)))) rfl ?_; refine GO.nil ?_; refine kthen_n ?_; refine G.block ?_; refine G.seq ?_; refine G.region ?_; refine GO.eqi rfl rfl rfl ?_; refine GO.assign rfl rfl ?_; refine GO.nil ?_; refine kthen_n ?_; refine G.condT rfl (by assumption) ?_; refine G.seq ?_; refine G.region ?_; refine GO.fieldAddr rfl rfl ?_; refine GO.load1 rfl rfl rfl (Tk.t (Tk.t (Tk.t (Tk.t Tk.h)))) rfl ?_)
          refine GO.call1 rfl rfl (kNewO i) Tks.n ?_
          rintro _ _ ⟨K', v', rfl, hK', rfl⟩
          obtain ⟨pk, rfl⟩ := hK'.ptr
          (refine GO.move rfl rfl ?_; refine GO.extract rfl rfl rfl ?_; refine GO.extract rfl rfl rfl ?_; refine GO.assign rfl rfl ?_; refine GO.assign rfl rfl ?_; refine GO.nil ?_; refine kthen_n ?_; refine G.seq ?_; refine G.region ?_; refine GO.fieldAddr rfl rfl ?_; refine GO.load1 rfl rfl rfl (Tk.t (Tk.t (Tk.t (Tk.t (Tk.t Tk.h))))) rfl ?_)
          refine GO.call1 rfl rfl (rKNewO i) Tks.n ?_
          rintro _ _ ⟨rv, rfl, hrv', rfl⟩
          have hrv := hrv' Z
          have wn := newO_wf i
          have cn := newO_clo i
          clear hrv'
          generalize newO i = on at *
          generalize newE i = e at *
          obtain ⟨vr, rfl, hone⟩ := hrv.slR
          have de : decide (e ≠ e) = false := decide_eq_false (fun h => h rfl)
          have hnil := hK'.isNone wn
          (refine GO.move rfl rfl ?_; refine GO.extract rfl rfl rfl ?_; refine GO.extract rfl rfl rfl ?_; refine GO.alloc rfl fun b13 => ?_; refine GO.storeW rfl rfl Tk.h ⟨rfl, rfl⟩ (by simp [Value.oneCell']; assumption) ?_; refine GO.assign rfl rfl ?_; refine GO.nil ?_; refine kthen_n ?_; refine G.seq ?_; refine G.seq ?_; refine G.region ?_; refine GO.move rfl rfl ?_; refine GO.move rfl rfl ?_; refine GO.neF rfl rfl rfl rfl ?_; refine GO.move rfl rfl ?_; refine GO.gT rfl rfl rfl ?_; refine GO.move rfl rfl ?_; refine GO.gT rfl rfl rfl ?_; refine GO.eqNilP rfl rfl ?_; refine GO.gT rfl rfl rfl ?_; refine GO.fieldAddr rfl rfl ?_; refine GO.gT rfl rfl rfl ?_; refine GO.fieldAddr rfl rfl ?_; refine GO.gT rfl rfl rfl ?_; refine GO.load1 rfl rfl rfl Tk.h rfl ?_; refine GO.gT rfl rfl rfl ?_; refine GO.eqi rfl rfl rfl ?_; refine GO.gT rfl rfl rfl ?_; refine GO.neqB rfl rfl rfl ?_; refine GO.pickF rfl rfl rfl ?_; refine GO.nil ?_; refine kthen_n ?_; refine G.condF rfl (by assumption) ?_; refine G.skip ?_; refine kthen_n ?_)
          rw [hnil]
          skip
          refine G.drawT 7 32 [pt b13 (row [i64 (sideO on : Nat), vr] 30)] (pt b3 (row [v0, v1] 25) :: pt b4 (row [i64 (sideO o0 : Nat), r0, i64 (sideO o1 : Nat), r1] 31) :: K' :: K1 :: Z :: q :: F) (by kernel_rfl) (keys_of rfl) (ImpS.sb (by ((refine Sb.c Tk.h ?_; refine Sb.c (Tk.t (Tk.t (Tk.t (Tk.t (Tk.t (Tk.t (Tk.t (Tk.t Tk.h)))))))) ?_; refine Sb.c (Tk.t (Tk.t (Tk.t (Tk.t (Tk.t (Tk.t (Tk.t (Tk.t Tk.h)))))))) ?_; refine Sb.c Tk.h ?_; refine Sb.c (Tk.t (Tk.t (Tk.t (Tk.t (Tk.t (Tk.t Tk.h)))))) ?_; refine Sb.c (Tk.t Tk.h) ?_; refine Sb.c (Tk.t (Tk.t Tk.h)) ?_); (refine Sb.s ?_; refine Sb.s ?_; refine Sb.s ?_; refine Sb.s ?_; exact Sb.r)))) ?_
          ((apply GR.step rfl; focus (intro Z; refine GO.move rfl rfl ?_; exact KQ.z)); (apply GR.step rfl; focus (intro Z; refine GO.move rfl rfl ?_; exact KQ.z)); (apply GR.step rfl; focus (intro Z; refine GO.move rfl rfl ?_; exact KQ.z)); (apply GR.step rfl; focus (intro Z; refine GO.loadW rfl rfl rfl Tk.h rfl ?_; exact KQ.z)); (apply GR.step rfl; focus (intro Z; refine GO.idxA (j := 0) rfl rfl rfl ⟨rfl, by decide⟩ ?_; exact KQ.z)); refine GR.skip rfl ?_; (apply GR.step rfl; focus (intro Z; refine GO.idxA (j := 0) rfl rfl rfl ⟨rfl, by decide⟩ ?_; exact KQ.z)); refine GR.nil ?_)
          (repeat refine GT.skip rfl ?_)
          refine GT.step rfl ?_
          refine GO.store1 (l := [v0, v1]) rfl rfl rfl (Tk.t Tk.h) (by simp) ?_
          refine GO.nil ⟨rfl, .tuple #[], pt b3 (row [.pointer pk, v1] 25) :: pt b4 (row [i64 (sideO o0 : Nat), r0, i64 (sideO o1 : Nat), r1] 31) :: K' :: K1 :: Z :: q :: F, rfl, ImpS.sb (by ((refine Sb.c (Tk.t Tk.h) ?_; refine Sb.c Tk.h ?_; refine Sb.c Tk.h ?_; refine Sb.c Tk.h ?_; refine Sb.c Tk.h ?_; refine Sb.c Tk.h ?_; refine Sb.c Tk.h ?_); (exact Sb.r))), ?_⟩
          (repeat refine GT.skip rfl ?_)
          refine GT.nil ?_
          refine GO.storeG (n := 2) (o := 0) (l := [i64 (sideO o0 : Nat), r0, i64 (sideO o1 : Nat), r1]) (vs := [i64 (sideO on : Nat), vr]) rfl rfl rfl rfl (Tk.t (Tk.t Tk.h)) (by simp) (by simp [Value.oneCell']; assumption) ?_
          (refine GO.nil ?_; refine kblock_n ?_; refine kblock_n ?_; refine kthen_n ?_; refine G.region ?_; refine GO.move rfl rfl ?_; refine GO.addi rfl rfl rfl (by omega) ?_; refine GO.assign rfl rfl ?_; refine GO.nil ?_; refine kthen_n ?_)
          refine ⟨⟨n + 1, K', K1, Z, .pointer pk, v1, on, o1, noX, X1, vr, r1⟩, ⟨by show n + 1 ≤ l.length; omega, ⟨hK', wn, cn, hrv⟩, h1⟩, by dsimp only; omega, ?_, ImpS.sb ?_⟩
          · (refine SubE.c rfl rfl ?_; refine SubE.c rfl rfl ?_; refine SubE.c rfl rfl ?_; refine SubE.c rfl rfl ?_; exact SubE.n)
          · ((refine Sb.c (Tk.t (Tk.t (Tk.t Tk.h))) ?_; refine Sb.c (Tk.t (Tk.t (Tk.t Tk.h))) ?_; refine Sb.c (Tk.t (Tk.t (Tk.t Tk.h))) ?_; refine Sb.c (Tk.t (Tk.t Tk.h)) ?_; refine Sb.c Tk.h ?_; refine Sb.c (Tk.t Tk.h) ?_); (refine Sb.s ?_; exact Sb.r))
        · rw [ha]
          (refine GO.move rfl rfl ?_; refine GO.extract rfl rfl rfl ?_; refine GO.extract rfl rfl rfl ?_; refine GO.alloc rfl fun b10 => ?_; refine GO.assign rfl rfl ?_; refine GO.storeW rfl rfl Tk.h ⟨rfl, rfl⟩ (by simp [Value.oneCell']; assumption) ?_; refine GO.nil ?_; refine kthen_n ?_; refine G.seq ?_; refine G.region ?_; refine GO.fieldAddr rfl rfl ?_; refine GO.load1 rfl rfl rfl (Tk.t (Tk.t (Tk.t (Tk.t Tk.h)))) rfl ?_; refine GO.nil ?_; refine kthen_n ?_; refine G.block ?_; refine G.seq ?_; refine G.region ?_; refine GO.eqi rfl rfl rfl ?_; refine GO.assign rfl rfl ?_; refine GO.nil ?_; refine kthen_n ?_; refine G.condT rfl (by assumption) ?_; refine G.seq ?_; refine G.region ?_; refine GO.fieldAddr rfl rfl ?_; refine GO.load1 rfl rfl rfl (Tk.t (Tk.t (Tk.t (Tk.t Tk.h)))) rfl ?_)
          refine GO.call1 rfl rfl (kNewO i) Tks.n ?_
          rintro _ _ ⟨K', v', rfl, hK', rfl⟩
          obtain ⟨pk, rfl⟩ := hK'.ptr
          (refine GO.move rfl rfl ?_; refine GO.extract rfl rfl rfl ?_; refine GO.extract rfl rfl rfl ?_; refine GO.assign rfl rfl ?_; refine GO.assign rfl rfl ?_; refine GO.nil ?_; refine kthen_n ?_; refine G.seq ?_; refine G.region ?_; refine GO.fieldAddr rfl rfl ?_; refine GO.load1 rfl rfl rfl (Tk.t (Tk.t (Tk.t (Tk.t (Tk.t Tk.h))))) rfl ?_)
          refine GO.call1 rfl rfl (rKNewO i) Tks.n ?_
          rintro _ _ ⟨rv, rfl, hrv', rfl⟩
          have hrv := hrv' Z
          have wn := newO_wf i
          have cn := newO_clo i
          clear hrv'
          generalize newO i = on at *
          generalize newE i = e at *
          obtain ⟨vr, rfl, hone⟩ := hrv.slR
          have de : decide (e ≠ e) = false := decide_eq_false (fun h => h rfl)
          have hnil := hK'.isNone wn
          (refine GO.move rfl rfl ?_; refine GO.extract rfl rfl rfl ?_; refine GO.extract rfl rfl rfl ?_; refine GO.alloc rfl fun b13 => ?_; refine GO.storeW rfl rfl Tk.h ⟨rfl, rfl⟩ (by simp [Value.oneCell']; assumption) ?_; refine GO.assign rfl rfl ?_; refine GO.nil ?_; refine kthen_n ?_; refine G.seq ?_; refine G.seq ?_; refine G.region ?_; refine GO.move rfl rfl ?_; refine GO.move rfl rfl ?_; refine GO.neF rfl rfl rfl rfl ?_; refine GO.move rfl rfl ?_; refine GO.gT rfl rfl rfl ?_; refine GO.move rfl rfl ?_; refine GO.gT rfl rfl rfl ?_; refine GO.eqNilP rfl rfl ?_; refine GO.gT rfl rfl rfl ?_; refine GO.fieldAddr rfl rfl ?_; refine GO.gT rfl rfl rfl ?_; refine GO.fieldAddr rfl rfl ?_; refine GO.gT rfl rfl rfl ?_; refine GO.load1 rfl rfl rfl Tk.h rfl ?_; refine GO.gT rfl rfl rfl ?_; refine GO.eqi rfl rfl rfl ?_; refine GO.gT rfl rfl rfl ?_; refine GO.neqB rfl rfl rfl ?_; refine GO.pickF rfl rfl rfl ?_; refine GO.nil ?_; refine kthen_n ?_; refine G.condF rfl (by assumption) ?_; refine G.skip ?_; refine kthen_n ?_)
          rw [hnil]
          skip
          refine G.drawT 7 32 [pt b13 (row [i64 (sideO on : Nat), vr] 30)] (pt b3 (row [v0, v1] 25) :: pt b4 (row [i64 (sideO o0 : Nat), r0, i64 (sideO o1 : Nat), r1] 31) :: K' :: K0 :: Z :: q :: F) (by kernel_rfl) (keys_of rfl) (ImpS.sb (by ((refine Sb.c Tk.h ?_; refine Sb.c (Tk.t (Tk.t (Tk.t (Tk.t (Tk.t (Tk.t (Tk.t (Tk.t Tk.h)))))))) ?_; refine Sb.c (Tk.t (Tk.t (Tk.t (Tk.t (Tk.t (Tk.t (Tk.t (Tk.t Tk.h)))))))) ?_; refine Sb.c Tk.h ?_; refine Sb.c (Tk.t (Tk.t (Tk.t (Tk.t (Tk.t Tk.h))))) ?_; refine Sb.c (Tk.t Tk.h) ?_; refine Sb.c (Tk.t (Tk.t Tk.h)) ?_); (refine Sb.s ?_; refine Sb.s ?_; refine Sb.s ?_; refine Sb.s ?_; exact Sb.r)))) ?_
          ((apply GR.step rfl; focus (intro Z; refine GO.move rfl rfl ?_; exact KQ.z)); (apply GR.step rfl; focus (intro Z; refine GO.move rfl rfl ?_; exact KQ.z)); (apply GR.step rfl; focus (intro Z; refine GO.move rfl rfl ?_; exact KQ.z)); (apply GR.step rfl; focus (intro Z; refine GO.loadW rfl rfl rfl Tk.h rfl ?_; exact KQ.z)); (apply GR.step rfl; focus (intro Z; refine GO.idxA (j := 1) rfl rfl rfl ⟨rfl, by decide⟩ ?_; exact KQ.z)); refine GR.skip rfl ?_; (apply GR.step rfl; focus (intro Z; refine GO.idxA (j := 1) rfl rfl rfl ⟨rfl, by decide⟩ ?_; exact KQ.z)); refine GR.nil ?_)
          (repeat refine GT.skip rfl ?_)
          refine GT.step rfl ?_
          refine GO.store1 (l := [v0, v1]) rfl rfl rfl (Tk.t Tk.h) (by simp) ?_
          refine GO.nil ⟨rfl, .tuple #[], pt b3 (row [v0, .pointer pk] 25) :: pt b4 (row [i64 (sideO o0 : Nat), r0, i64 (sideO o1 : Nat), r1] 31) :: K' :: K0 :: Z :: q :: F, rfl, ImpS.sb (by ((refine Sb.c (Tk.t Tk.h) ?_; refine Sb.c Tk.h ?_; refine Sb.c Tk.h ?_; refine Sb.c Tk.h ?_; refine Sb.c Tk.h ?_; refine Sb.c Tk.h ?_; refine Sb.c Tk.h ?_); (exact Sb.r))), ?_⟩
          (repeat refine GT.skip rfl ?_)
          refine GT.nil ?_
          refine GO.storeG (n := 2) (o := 2) (l := [i64 (sideO o0 : Nat), r0, i64 (sideO o1 : Nat), r1]) (vs := [i64 (sideO on : Nat), vr]) rfl rfl rfl rfl (Tk.t (Tk.t Tk.h)) (by simp) (by simp [Value.oneCell']; assumption) ?_
          (refine GO.nil ?_; refine kblock_n ?_; refine kblock_n ?_; refine kthen_n ?_; refine G.region ?_; refine GO.move rfl rfl ?_; refine GO.addi rfl rfl rfl (by omega) ?_; refine GO.assign rfl rfl ?_; refine GO.nil ?_; refine kthen_n ?_)
          refine ⟨⟨n + 1, K0, K', Z, v0, .pointer pk, o0, on, X0, noX, r0, vr⟩, ⟨by show n + 1 ≤ l.length; omega, h0, ⟨hK', wn, cn, hrv⟩⟩, by dsimp only; omega, ?_, ImpS.sb ?_⟩
          · (refine SubE.c rfl rfl ?_; refine SubE.c rfl rfl ?_; refine SubE.c rfl rfl ?_; refine SubE.c rfl rfl ?_; exact SubE.n)
          · ((refine Sb.c (Tk.t (Tk.t (Tk.t (Tk.t Tk.h)))) ?_; refine Sb.c (Tk.t (Tk.t (Tk.t Tk.h))) ?_; refine Sb.c (Tk.t (Tk.t (Tk.t Tk.h))) ?_; refine Sb.c (Tk.t (Tk.t Tk.h)) ?_; refine Sb.c Tk.h ?_; refine Sb.c (Tk.t Tk.h) ?_); (refine Sb.s ?_; exact Sb.r))
      | false =>
        cases e1 : decide (d = 1) with
        | true =>
          rcases Int.emod_two_eq a with ha | ha
          · rw [ha]
            (refine GO.move rfl rfl ?_; refine GO.extract rfl rfl rfl ?_; refine GO.extract rfl rfl rfl ?_; refine GO.alloc rfl fun b10 => ?_; refine GO.assign rfl rfl ?_; refine GO.storeW rfl rfl Tk.h ⟨rfl, rfl⟩ (by simp [Value.oneCell']; assumption) ?_; refine GO.nil ?_; refine kthen_n ?_; refine G.seq ?_; refine G.region ?_; refine GO.fieldAddr rfl rfl ?_; refine GO.load1 rfl rfl rfl (Tk.t (Tk.t (Tk.t (Tk.t Tk.h)))) rfl ?_; refine GO.nil ?_; refine kthen_n ?_; refine G.block ?_; refine G.seq ?_; refine G.region ?_; refine GO.eqi rfl rfl rfl ?_; refine GO.assign rfl rfl ?_; refine GO.nil ?_; refine kthen_n ?_; refine G.condF rfl (by assumption) ?_; refine G.seq ?_; refine G.region ?_; refine GO.eqi rfl rfl rfl ?_; refine GO.assign rfl rfl ?_; refine GO.nil ?_; refine kthen_n ?_; refine G.condT rfl (by assumption) ?_; refine G.seq ?_; refine G.region ?_; refine GO.move rfl rfl ?_)
            refine GO.call1 rfl rfl (kOfO q hq p1 _ g wg hp1) (Tks.c (Tk.t (Tk.t Tk.h)) (Tks.c (Tk.t (Tk.t Tk.h)) Tks.n)) ?_
            rintro _ _ ⟨K', v', X', rfl, cn, hK', rfl⟩
            obtain ⟨pk, rfl⟩ := hK'.ptr
            (refine GO.move rfl rfl ?_; refine GO.extract rfl rfl rfl ?_; refine GO.extract rfl rfl rfl ?_; refine GO.assign rfl rfl ?_; refine GO.assign rfl rfl ?_; refine GO.nil ?_; refine kthen_n ?_; refine G.seq ?_; refine G.region ?_; refine GO.loadW rfl rfl rfl (Tk.t (Tk.t (Tk.t Tk.h))) rfl ?_)
            refine GO.call1 rfl rfl (rKOfO Z _ g wg hz1) Tks.n ?_
            rintro _ _ ⟨rv, rfl, hrv, rfl⟩
            have wn := wg
            generalize ofE g = e at *
            clear hp1 hz1 cz1
            generalize g = on at *
            obtain ⟨vr, rfl, hone⟩ := hrv.slR
            have de : decide (e ≠ e) = false := decide_eq_false (fun h => h rfl)
            have hnil := hK'.isNone wn
            (refine GO.move rfl rfl ?_; refine GO.extract rfl rfl rfl ?_; refine GO.extract rfl rfl rfl ?_; refine GO.alloc rfl fun b17 => ?_; refine GO.storeW rfl rfl Tk.h ⟨rfl, rfl⟩ (by simp [Value.oneCell']; assumption) ?_; refine GO.assign rfl rfl ?_; refine GO.nil ?_; refine kthen_n ?_; refine G.seq ?_; refine G.seq ?_; refine G.region ?_; refine GO.move rfl rfl ?_; refine GO.move rfl rfl ?_; refine GO.neF rfl rfl rfl rfl ?_; refine GO.move rfl rfl ?_; refine GO.gT rfl rfl rfl ?_; refine GO.move rfl rfl ?_; refine GO.gT rfl rfl rfl ?_; refine GO.eqNilP rfl rfl ?_; refine GO.gT rfl rfl rfl ?_; refine GO.fieldAddr rfl rfl ?_; refine GO.gT rfl rfl rfl ?_; refine GO.fieldAddr rfl rfl ?_; refine GO.gT rfl rfl rfl ?_; refine GO.load1 rfl rfl rfl Tk.h rfl ?_; refine GO.gT rfl rfl rfl ?_; refine GO.eqi rfl rfl rfl ?_; refine GO.gT rfl rfl rfl ?_; refine GO.neqB rfl rfl rfl ?_; refine GO.pickF rfl rfl rfl ?_; refine GO.nil ?_; refine kthen_n ?_; refine G.condF rfl (by assumption) ?_; refine G.skip ?_; refine kthen_n ?_)
            rw [hnil]
            skip
            refine G.drawT 7 32 [pt b17 (row [i64 (sideO on : Nat), vr] 30)] (pt b3 (row [v0, v1] 25) :: pt b4 (row [i64 (sideO o0 : Nat), r0, i64 (sideO o1 : Nat), r1] 31) :: K' :: K1 :: Z :: q :: F) (by kernel_rfl) (keys_of rfl) (ImpS.sb (by ((refine Sb.c Tk.h ?_; refine Sb.c (Tk.t (Tk.t (Tk.t (Tk.t (Tk.t (Tk.t (Tk.t (Tk.t Tk.h)))))))) ?_; refine Sb.c (Tk.t (Tk.t (Tk.t (Tk.t (Tk.t (Tk.t (Tk.t (Tk.t Tk.h)))))))) ?_; refine Sb.c Tk.h ?_; refine Sb.c (Tk.t (Tk.t (Tk.t (Tk.t (Tk.t (Tk.t Tk.h)))))) ?_; refine Sb.c (Tk.t (Tk.t (Tk.t Tk.h))) ?_; refine Sb.c (Tk.t Tk.h) ?_); (refine Sb.s ?_; refine Sb.s ?_; refine Sb.s ?_; refine Sb.s ?_; exact Sb.r)))) ?_
            ((apply GR.step rfl; focus (intro Z; refine GO.move rfl rfl ?_; exact KQ.z)); (apply GR.step rfl; focus (intro Z; refine GO.move rfl rfl ?_; exact KQ.z)); (apply GR.step rfl; focus (intro Z; refine GO.move rfl rfl ?_; exact KQ.z)); (apply GR.step rfl; focus (intro Z; refine GO.loadW rfl rfl rfl Tk.h rfl ?_; exact KQ.z)); (apply GR.step rfl; focus (intro Z; refine GO.idxA (j := 0) rfl rfl rfl ⟨rfl, by decide⟩ ?_; exact KQ.z)); refine GR.skip rfl ?_; (apply GR.step rfl; focus (intro Z; refine GO.idxA (j := 0) rfl rfl rfl ⟨rfl, by decide⟩ ?_; exact KQ.z)); refine GR.nil ?_)
            (repeat refine GT.skip rfl ?_)
            refine GT.step rfl ?_
            refine GO.store1 (l := [v0, v1]) rfl rfl rfl (Tk.t Tk.h) (by simp) ?_
            refine GO.nil ⟨rfl, .tuple #[], pt b3 (row [.pointer pk, v1] 25) :: pt b4 (row [i64 (sideO o0 : Nat), r0, i64 (sideO o1 : Nat), r1] 31) :: K' :: K1 :: Z :: q :: F, rfl, ImpS.sb (by ((refine Sb.c (Tk.t Tk.h) ?_; refine Sb.c Tk.h ?_; refine Sb.c Tk.h ?_; refine Sb.c Tk.h ?_; refine Sb.c Tk.h ?_; refine Sb.c Tk.h ?_; refine Sb.c Tk.h ?_); (exact Sb.r))), ?_⟩
            (repeat refine GT.skip rfl ?_)
            refine GT.nil ?_
            refine GO.storeG (n := 2) (o := 0) (l := [i64 (sideO o0 : Nat), r0, i64 (sideO o1 : Nat), r1]) (vs := [i64 (sideO on : Nat), vr]) rfl rfl rfl rfl (Tk.t (Tk.t Tk.h)) (by simp) (by simp [Value.oneCell']; assumption) ?_
            (refine GO.nil ?_; refine kblock_n ?_; refine kblock_n ?_; refine kthen_n ?_; refine G.region ?_; refine GO.move rfl rfl ?_; refine GO.addi rfl rfl rfl (by omega) ?_; refine GO.assign rfl rfl ?_; refine GO.nil ?_; refine kthen_n ?_)
            refine ⟨⟨n + 1, K', K1, Z, .pointer pk, v1, on, o1, X', X1, vr, r1⟩, ⟨by show n + 1 ≤ l.length; omega, ⟨hK', wn, cn, hrv⟩, h1⟩, by dsimp only; omega, ?_, ImpS.sb ?_⟩
            · (refine SubE.c rfl rfl ?_; refine SubE.c rfl rfl ?_; refine SubE.c rfl rfl ?_; refine SubE.c rfl rfl ?_; exact SubE.n)
            · ((refine Sb.c (Tk.t (Tk.t (Tk.t Tk.h))) ?_; refine Sb.c (Tk.t (Tk.t (Tk.t Tk.h))) ?_; refine Sb.c (Tk.t (Tk.t (Tk.t Tk.h))) ?_; refine Sb.c (Tk.t (Tk.t Tk.h)) ?_; refine Sb.c Tk.h ?_; refine Sb.c (Tk.t Tk.h) ?_); (refine Sb.s ?_; exact Sb.r))
          · rw [ha]
            (refine GO.move rfl rfl ?_; refine GO.extract rfl rfl rfl ?_; refine GO.extract rfl rfl rfl ?_; refine GO.alloc rfl fun b10 => ?_; refine GO.assign rfl rfl ?_; refine GO.storeW rfl rfl Tk.h ⟨rfl, rfl⟩ (by simp [Value.oneCell']; assumption) ?_; refine GO.nil ?_; refine kthen_n ?_; refine G.seq ?_; refine G.region ?_; refine GO.fieldAddr rfl rfl ?_; refine GO.load1 rfl rfl rfl (Tk.t (Tk.t (Tk.t (Tk.t Tk.h)))) rfl ?_; refine GO.nil ?_; refine kthen_n ?_; refine G.block ?_; refine G.seq ?_; refine G.region ?_; refine GO.eqi rfl rfl rfl ?_; refine GO.assign rfl rfl ?_; refine GO.nil ?_; refine kthen_n ?_; refine G.condF rfl (by assumption) ?_; refine G.seq ?_; refine G.region ?_; refine GO.eqi rfl rfl rfl ?_; refine GO.assign rfl rfl ?_; refine GO.nil ?_; refine kthen_n ?_; refine G.condT rfl (by assumption) ?_; refine G.seq ?_; refine G.region ?_; refine GO.move rfl rfl ?_)
            refine GO.call1 rfl rfl (kOfO q hq p1 _ g wg hp1) (Tks.c (Tk.t (Tk.t Tk.h)) (Tks.c (Tk.t (Tk.t Tk.h)) Tks.n)) ?_
            rintro _ _ ⟨K', v', X', rfl, cn, hK', rfl⟩
            obtain ⟨pk, rfl⟩ := hK'.ptr
            (refine GO.move rfl rfl ?_; refine GO.extract rfl rfl rfl ?_; refine GO.extract rfl rfl rfl ?_; refine GO.assign rfl rfl ?_; refine GO.assign rfl rfl ?_; refine GO.nil ?_; refine kthen_n ?_; refine G.seq ?_; refine G.region ?_; refine GO.loadW rfl rfl rfl (Tk.t (Tk.t (Tk.t Tk.h))) rfl ?_)
            refine GO.call1 rfl rfl (rKOfO Z _ g wg hz1) Tks.n ?_
            rintro _ _ ⟨rv, rfl, hrv, rfl⟩
            have wn := wg
            generalize ofE g = e at *
            clear hp1 hz1 cz1
            generalize g = on at *
            obtain ⟨vr, rfl, hone⟩ := hrv.slR
            have de : decide (e ≠ e) = false := decide_eq_false (fun h => h rfl)
            have hnil := hK'.isNone wn
            (refine GO.move rfl rfl ?_; refine GO.extract rfl rfl rfl ?_; refine GO.extract rfl rfl rfl ?_; refine GO.alloc rfl fun b17 => ?_; refine GO.storeW rfl rfl Tk.h ⟨rfl, rfl⟩ (by simp [Value.oneCell']; assumption) ?_; refine GO.assign rfl rfl ?_; refine GO.nil ?_; refine kthen_n ?_; refine G.seq ?_; refine G.seq ?_; refine G.region ?_; refine GO.move rfl rfl ?_; refine GO.move rfl rfl ?_; refine GO.neF rfl rfl rfl rfl ?_; refine GO.move rfl rfl ?_; refine GO.gT rfl rfl rfl ?_; refine GO.move rfl rfl ?_; refine GO.gT rfl rfl rfl ?_; refine GO.eqNilP rfl rfl ?_; refine GO.gT rfl rfl rfl ?_; refine GO.fieldAddr rfl rfl ?_; refine GO.gT rfl rfl rfl ?_; refine GO.fieldAddr rfl rfl ?_; refine GO.gT rfl rfl rfl ?_; refine GO.load1 rfl rfl rfl Tk.h rfl ?_; refine GO.gT rfl rfl rfl ?_; refine GO.eqi rfl rfl rfl ?_; refine GO.gT rfl rfl rfl ?_; refine GO.neqB rfl rfl rfl ?_; refine GO.pickF rfl rfl rfl ?_; refine GO.nil ?_; refine kthen_n ?_; refine G.condF rfl (by assumption) ?_; refine G.skip ?_; refine kthen_n ?_)
            rw [hnil]
            skip
            refine G.drawT 7 32 [pt b17 (row [i64 (sideO on : Nat), vr] 30)] (pt b3 (row [v0, v1] 25) :: pt b4 (row [i64 (sideO o0 : Nat), r0, i64 (sideO o1 : Nat), r1] 31) :: K' :: K0 :: Z :: q :: F) (by kernel_rfl) (keys_of rfl) (ImpS.sb (by ((refine Sb.c Tk.h ?_; refine Sb.c (Tk.t (Tk.t (Tk.t (Tk.t (Tk.t (Tk.t (Tk.t (Tk.t Tk.h)))))))) ?_; refine Sb.c (Tk.t (Tk.t (Tk.t (Tk.t (Tk.t (Tk.t (Tk.t (Tk.t Tk.h)))))))) ?_; refine Sb.c Tk.h ?_; refine Sb.c (Tk.t (Tk.t (Tk.t (Tk.t (Tk.t Tk.h))))) ?_; refine Sb.c (Tk.t (Tk.t (Tk.t Tk.h))) ?_; refine Sb.c (Tk.t Tk.h) ?_); (refine Sb.s ?_; refine Sb.s ?_; refine Sb.s ?_; refine Sb.s ?_; exact Sb.r)))) ?_
            ((apply GR.step rfl; focus (intro Z; refine GO.move rfl rfl ?_; exact KQ.z)); (apply GR.step rfl; focus (intro Z; refine GO.move rfl rfl ?_; exact KQ.z)); (apply GR.step rfl; focus (intro Z; refine GO.move rfl rfl ?_; exact KQ.z)); (apply GR.step rfl; focus (intro Z; refine GO.loadW rfl rfl rfl Tk.h rfl ?_; exact KQ.z)); (apply GR.step rfl; focus (intro Z; refine GO.idxA (j := 1) rfl rfl rfl ⟨rfl, by decide⟩ ?_; exact KQ.z)); refine GR.skip rfl ?_; (apply GR.step rfl; focus (intro Z; refine GO.idxA (j := 1) rfl rfl rfl ⟨rfl, by decide⟩ ?_; exact KQ.z)); refine GR.nil ?_)
            (repeat refine GT.skip rfl ?_)
            refine GT.step rfl ?_
            refine GO.store1 (l := [v0, v1]) rfl rfl rfl (Tk.t Tk.h) (by simp) ?_
            refine GO.nil ⟨rfl, .tuple #[], pt b3 (row [v0, .pointer pk] 25) :: pt b4 (row [i64 (sideO o0 : Nat), r0, i64 (sideO o1 : Nat), r1] 31) :: K' :: K0 :: Z :: q :: F, rfl, ImpS.sb (by ((refine Sb.c (Tk.t Tk.h) ?_; refine Sb.c Tk.h ?_; refine Sb.c Tk.h ?_; refine Sb.c Tk.h ?_; refine Sb.c Tk.h ?_; refine Sb.c Tk.h ?_; refine Sb.c Tk.h ?_); (exact Sb.r))), ?_⟩
            (repeat refine GT.skip rfl ?_)
            refine GT.nil ?_
            refine GO.storeG (n := 2) (o := 2) (l := [i64 (sideO o0 : Nat), r0, i64 (sideO o1 : Nat), r1]) (vs := [i64 (sideO on : Nat), vr]) rfl rfl rfl rfl (Tk.t (Tk.t Tk.h)) (by simp) (by simp [Value.oneCell']; assumption) ?_
            (refine GO.nil ?_; refine kblock_n ?_; refine kblock_n ?_; refine kthen_n ?_; refine G.region ?_; refine GO.move rfl rfl ?_; refine GO.addi rfl rfl rfl (by omega) ?_; refine GO.assign rfl rfl ?_; refine GO.nil ?_; refine kthen_n ?_)
            refine ⟨⟨n + 1, K0, K', Z, v0, .pointer pk, o0, on, X0, X', r0, vr⟩, ⟨by show n + 1 ≤ l.length; omega, h0, ⟨hK', wn, cn, hrv⟩⟩, by dsimp only; omega, ?_, ImpS.sb ?_⟩
            · (refine SubE.c rfl rfl ?_; refine SubE.c rfl rfl ?_; refine SubE.c rfl rfl ?_; refine SubE.c rfl rfl ?_; exact SubE.n)
            · ((refine Sb.c (Tk.t (Tk.t (Tk.t (Tk.t Tk.h)))) ?_; refine Sb.c (Tk.t (Tk.t (Tk.t Tk.h))) ?_; refine Sb.c (Tk.t (Tk.t (Tk.t Tk.h))) ?_; refine Sb.c (Tk.t (Tk.t Tk.h)) ?_; refine Sb.c Tk.h ?_; refine Sb.c (Tk.t Tk.h) ?_); (refine Sb.s ?_; exact Sb.r))
        | false =>
          cases e5 : decide (d = 5) with
          | true =>
            rcases Int.emod_two_eq a with ha | ha
            · rw [ha]
              rcases Int.emod_two_eq bb with hb | hb
              · rw [hb]
                have rd0 : Rd (pt b4 (row [i64 (sideO o0 : Nat), r0, i64 (sideO o1 : Nat), r1] 31)) ⟨b4, 0, none⟩ (i64 (sideO o0 : Nat)) := Rd.row rfl
                have rd1 : Rd (pt b4 (row [i64 (sideO o0 : Nat), r0, i64 (sideO o1 : Nat), r1] 31)) ⟨b4, 1, none⟩ r0 := Rd.row rfl
                (refine GO.move rfl rfl ?_; refine GO.extract rfl rfl rfl ?_; refine GO.extract rfl rfl rfl ?_; refine GO.alloc rfl fun b10 => ?_; refine GO.assign rfl rfl ?_; refine GO.storeW rfl rfl Tk.h ⟨rfl, rfl⟩ (by simp [Value.oneCell']; assumption) ?_; refine GO.nil ?_; refine kthen_n ?_; refine G.seq ?_; refine G.region ?_; refine GO.fieldAddr rfl rfl ?_; refine GO.load1 rfl rfl rfl (Tk.t (Tk.t (Tk.t (Tk.t Tk.h)))) rfl ?_; refine GO.nil ?_; refine kthen_n ?_; refine G.block ?_; refine G.seq ?_; refine G.region ?_; refine GO.eqi rfl rfl rfl ?_; refine GO.assign rfl rfl ?_; refine GO.nil ?_; refine kthen_n ?_; refine G.condF rfl (by assumption) ?_; refine G.seq ?_; refine G.region ?_; refine GO.eqi rfl rfl rfl ?_; refine GO.assign rfl rfl ?_; refine GO.nil ?_; refine kthen_n ?_; refine G.condF rfl (by assumption) ?_; refine G.seq ?_; refine G.region ?_; refine GO.eqi rfl rfl rfl ?_; refine GO.assign rfl rfl ?_; refine GO.nil ?_; refine kthen_n ?_; refine G.condT rfl (by assumption) ?_)
                refine G.drawT 12 1072 [pt b4 (row [i64 (sideO o0 : Nat), r0, i64 (sideO o1 : Nat), r1] 31)] (pt b3 (row [v0, v1] 25) :: K0 :: K1 :: Z :: q :: F) (by kernel_rfl) (keys_of rfl) (ImpS.sb (by ((refine Sb.c (Tk.t (Tk.t (Tk.t (Tk.t (Tk.t (Tk.t (Tk.t (Tk.t Tk.h)))))))) ?_; refine Sb.c (Tk.t (Tk.t (Tk.t (Tk.t (Tk.t (Tk.t (Tk.t Tk.h))))))) ?_; refine Sb.c (Tk.t (Tk.t (Tk.t (Tk.t (Tk.t Tk.h))))) ?_; refine Sb.c (Tk.t (Tk.t (Tk.t (Tk.t (Tk.t Tk.h))))) ?_; refine Sb.c (Tk.t Tk.h) ?_; refine Sb.c (Tk.t (Tk.t Tk.h)) ?_); (refine Sb.s ?_; refine Sb.s ?_; refine Sb.s ?_; exact Sb.r)))) ?_
                ((apply GR.step rfl; focus (intro Z; refine GO.move rfl rfl ?_; exact KQ.z)); (apply GR.step rfl; focus (intro Z; refine GO.move rfl rfl ?_; exact KQ.z)); (apply GR.step rfl; focus (intro Z; refine GO.move rfl rfl ?_; exact KQ.z)); (apply GR.step rfl; focus (intro Z; refine GO.idxA (j := 0) rfl rfl rfl ⟨rfl, by decide⟩ ?_; exact KQ.z)); refine GR.skip rfl ?_; refine GR.skip rfl ?_; (apply GR.step rfl; focus (intro Z; refine GO.move rfl rfl ?_; exact KQ.z)); (apply GR.step rfl; focus (intro Z; refine GO.idxA (j := 0) rfl rfl rfl ⟨rfl, by decide⟩ ?_; exact KQ.z)); (apply GR.step rfl; focus (intro Z; refine GO.load2 rfl rfl rfl Tk.h (by assumption) (by assumption) ?_; exact KQ.z)); (apply GR.step rfl; focus (intro Z; refine GO.idxA (j := 0) rfl rfl rfl ⟨rfl, by decide⟩ ?_; exact KQ.z)); refine GR.skip rfl ?_; (apply GR.step rfl; focus (intro Z; refine GO.idxA (j := 0) rfl rfl rfl ⟨rfl, by decide⟩ ?_; exact KQ.z)); refine GR.nil ?_)
                (repeat refine GT.skip rfl ?_)
                refine GT.step rfl ?_
                refine GO.load1 rfl rfl rfl (Tk.t Tk.h) rfl ?_
                refine GO.nil ⟨rfl, _, pt b3 (row [v0, v1] 25) :: K0 :: K1 :: Z :: q :: F, rfl, ImpS.sb (by ((refine Sb.c Tk.h ?_; refine Sb.c Tk.h ?_; refine Sb.c Tk.h ?_; refine Sb.c Tk.h ?_; refine Sb.c Tk.h ?_; refine Sb.c Tk.h ?_); (exact Sb.r))), ?_⟩
                (repeat refine GT.skip rfl ?_)
                refine GT.step rfl ?_
                refine GO.call1 rfl rfl (kCopyO K0 v0 o0 h0.wf X0 h0.kp) (Tks.c (Tk.t (Tk.t Tk.h)) Tks.n) ?_
                rintro vk _ ⟨K', hK', rfl⟩
                obtain ⟨pk, rfl⟩ := hK'.ptr
                refine GO.nil ⟨rfl, _, pt b3 (row [v0, v1] 25) :: K' :: K0 :: K1 :: Z :: q :: F, rfl, ImpS.sb (by ((refine Sb.c (Tk.t (Tk.t Tk.h)) ?_; refine Sb.c (Tk.t (Tk.t Tk.h)) ?_; refine Sb.c Tk.h ?_; refine Sb.c Tk.h ?_; refine Sb.c Tk.h ?_; refine Sb.c Tk.h ?_; refine Sb.c Tk.h ?_); (exact Sb.r))), ?_⟩
                (repeat refine GT.skip rfl ?_)
                refine GT.step rfl ?_
                refine GO.store1 (l := [v0, v1]) rfl rfl rfl (Tk.t Tk.h) (by simp) ?_
                refine GO.nil ⟨rfl, .tuple #[], pt b3 (row [.pointer pk, v1] 25) :: K' :: K1 :: Z :: q :: F, rfl, ImpS.sb (by ((refine Sb.c (Tk.t Tk.h) ?_; refine Sb.c Tk.h ?_; refine Sb.c Tk.h ?_; refine Sb.c (Tk.t Tk.h) ?_; refine Sb.c (Tk.t Tk.h) ?_; refine Sb.c (Tk.t Tk.h) ?_); (refine Sb.s ?_; exact Sb.r))), ?_⟩
                (repeat refine GT.skip rfl ?_)
                refine GT.nil ?_
                refine GO.storeG (n := 2) (o := 0) (l := [i64 (sideO o0 : Nat), r0, i64 (sideO o1 : Nat), r1]) (vs := [i64 (sideO o0 : Nat), r0]) rfl rfl rfl rfl Tk.h (by simp) (by simp [Value.oneCell']; assumption) ?_
                (refine GO.nil ?_; refine kblock_n ?_; refine kblock_n ?_; refine kthen_n ?_; refine G.region ?_; refine GO.move rfl rfl ?_; refine GO.addi rfl rfl rfl (by omega) ?_; refine GO.assign rfl rfl ?_; refine GO.nil ?_; refine kthen_n ?_)
                refine ⟨⟨n + 1, K', K1, Z, .pointer pk, v1, o0, o1, X0, X1, r0, r1⟩, ⟨by show n + 1 ≤ l.length; omega, ⟨hK', h0.wf, h0.cl, h0.rf⟩, h1⟩, by dsimp only; omega, ?_, ImpS.sb ?_⟩
                · (refine SubE.c rfl rfl ?_; refine SubE.c rfl rfl ?_; refine SubE.c rfl rfl ?_; refine SubE.c rfl rfl ?_; exact SubE.n)
                · ((refine Sb.c (Tk.t (Tk.t Tk.h)) ?_; refine Sb.c (Tk.t (Tk.t Tk.h)) ?_; refine Sb.c (Tk.t (Tk.t Tk.h)) ?_; refine Sb.c (Tk.t Tk.h) ?_; refine Sb.c Tk.h ?_; refine Sb.c Tk.h ?_); (exact Sb.r))
              · rw [hb]
                have rd0 : Rd (pt b4 (row [i64 (sideO o0 : Nat), r0, i64 (sideO o1 : Nat), r1] 31)) ⟨b4, 0, none⟩ (i64 (sideO o0 : Nat)) := Rd.row rfl
                have rd1 : Rd (pt b4 (row [i64 (sideO o0 : Nat), r0, i64 (sideO o1 : Nat), r1] 31)) ⟨b4, 1, none⟩ r0 := Rd.row rfl
                (refine GO.move rfl rfl ?_; refine GO.extract rfl rfl rfl ?_; refine GO.extract rfl rfl rfl ?_; refine GO.alloc rfl fun b10 => ?_; refine GO.assign rfl rfl ?_; refine GO.storeW rfl rfl Tk.h ⟨rfl, rfl⟩ (by simp [Value.oneCell']; assumption) ?_; refine GO.nil ?_; refine kthen_n ?_; refine G.seq ?_; refine G.region ?_; refine GO.fieldAddr rfl rfl ?_; refine GO.load1 rfl rfl rfl (Tk.t (Tk.t (Tk.t (Tk.t Tk.h)))) rfl ?_; refine GO.nil ?_; refine kthen_n ?_; refine G.block ?_; refine G.seq ?_; refine G.region ?_; refine GO.eqi rfl rfl rfl ?_; refine GO.assign rfl rfl ?_; refine GO.nil ?_; refine kthen_n ?_; refine G.condF rfl (by assumption) ?_; refine G.seq ?_; refine G.region ?_; refine GO.eqi rfl rfl rfl ?_; refine GO.assign rfl rfl ?_; refine GO.nil ?_; refine kthen_n ?_; refine G.condF rfl (by assumption) ?_; refine G.seq ?_; refine G.region ?_; refine GO.eqi rfl rfl rfl ?_; refine GO.assign rfl rfl ?_; refine GO.nil ?_; refine kthen_n ?_; refine G.condT rfl (by assumption) ?_)
                refine G.drawT 12 1072 [pt b4 (row [i64 (sideO o0 : Nat), r0, i64 (sideO o1 : Nat), r1] 31)] (pt b3 (row [v0, v1] 25) :: K0 :: K1 :: Z :: q :: F) (by kernel_rfl) (keys_of rfl) (ImpS.sb (by ((refine Sb.c (Tk.t (Tk.t (Tk.t (Tk.t (Tk.t (Tk.t (Tk.t (Tk.t Tk.h)))))))) ?_; refine Sb.c (Tk.t (Tk.t (Tk.t (Tk.t (Tk.t (Tk.t (Tk.t Tk.h))))))) ?_; refine Sb.c (Tk.t (Tk.t (Tk.t (Tk.t (Tk.t Tk.h))))) ?_; refine Sb.c (Tk.t (Tk.t (Tk.t (Tk.t (Tk.t Tk.h))))) ?_; refine Sb.c (Tk.t Tk.h) ?_; refine Sb.c (Tk.t (Tk.t Tk.h)) ?_); (refine Sb.s ?_; refine Sb.s ?_; refine Sb.s ?_; exact Sb.r)))) ?_
                ((apply GR.step rfl; focus (intro Z; refine GO.move rfl rfl ?_; exact KQ.z)); (apply GR.step rfl; focus (intro Z; refine GO.move rfl rfl ?_; exact KQ.z)); (apply GR.step rfl; focus (intro Z; refine GO.move rfl rfl ?_; exact KQ.z)); (apply GR.step rfl; focus (intro Z; refine GO.idxA (j := 0) rfl rfl rfl ⟨rfl, by decide⟩ ?_; exact KQ.z)); refine GR.skip rfl ?_; refine GR.skip rfl ?_; (apply GR.step rfl; focus (intro Z; refine GO.move rfl rfl ?_; exact KQ.z)); (apply GR.step rfl; focus (intro Z; refine GO.idxA (j := 0) rfl rfl rfl ⟨rfl, by decide⟩ ?_; exact KQ.z)); (apply GR.step rfl; focus (intro Z; refine GO.load2 rfl rfl rfl Tk.h (by assumption) (by assumption) ?_; exact KQ.z)); (apply GR.step rfl; focus (intro Z; refine GO.idxA (j := 1) rfl rfl rfl ⟨rfl, by decide⟩ ?_; exact KQ.z)); refine GR.skip rfl ?_; (apply GR.step rfl; focus (intro Z; refine GO.idxA (j := 1) rfl rfl rfl ⟨rfl, by decide⟩ ?_; exact KQ.z)); refine GR.nil ?_)
                (repeat refine GT.skip rfl ?_)
                refine GT.step rfl ?_
                refine GO.load1 rfl rfl rfl (Tk.t Tk.h) rfl ?_
                refine GO.nil ⟨rfl, _, pt b3 (row [v0, v1] 25) :: K0 :: K1 :: Z :: q :: F, rfl, ImpS.sb (by ((refine Sb.c Tk.h ?_; refine Sb.c Tk.h ?_; refine Sb.c Tk.h ?_; refine Sb.c Tk.h ?_; refine Sb.c Tk.h ?_; refine Sb.c Tk.h ?_); (exact Sb.r))), ?_⟩
                (repeat refine GT.skip rfl ?_)
                refine GT.step rfl ?_
                refine GO.call1 rfl rfl (kCopyO K0 v0 o0 h0.wf X0 h0.kp) (Tks.c (Tk.t (Tk.t Tk.h)) Tks.n) ?_
                rintro vk _ ⟨K', hK', rfl⟩
                obtain ⟨pk, rfl⟩ := hK'.ptr
                refine GO.nil ⟨rfl, _, pt b3 (row [v0, v1] 25) :: K' :: K0 :: K1 :: Z :: q :: F, rfl, ImpS.sb (by ((refine Sb.c (Tk.t (Tk.t Tk.h)) ?_; refine Sb.c (Tk.t (Tk.t Tk.h)) ?_; refine Sb.c Tk.h ?_; refine Sb.c Tk.h ?_; refine Sb.c Tk.h ?_; refine Sb.c Tk.h ?_; refine Sb.c Tk.h ?_); (exact Sb.r))), ?_⟩
                (repeat refine GT.skip rfl ?_)
                refine GT.step rfl ?_
                refine GO.store1 (l := [v0, v1]) rfl rfl rfl (Tk.t Tk.h) (by simp) ?_
                refine GO.nil ⟨rfl, .tuple #[], pt b3 (row [v0, .pointer pk] 25) :: K' :: K0 :: Z :: q :: F, rfl, ImpS.sb (by ((refine Sb.c (Tk.t Tk.h) ?_; refine Sb.c Tk.h ?_; refine Sb.c Tk.h ?_; refine Sb.c Tk.h ?_; refine Sb.c (Tk.t Tk.h) ?_; refine Sb.c (Tk.t Tk.h) ?_); (refine Sb.s ?_; exact Sb.r))), ?_⟩
                (repeat refine GT.skip rfl ?_)
                refine GT.nil ?_
                refine GO.storeG (n := 2) (o := 2) (l := [i64 (sideO o0 : Nat), r0, i64 (sideO o1 : Nat), r1]) (vs := [i64 (sideO o0 : Nat), r0]) rfl rfl rfl rfl Tk.h (by simp) (by simp [Value.oneCell']; assumption) ?_
                (refine GO.nil ?_; refine kblock_n ?_; refine kblock_n ?_; refine kthen_n ?_; refine G.region ?_; refine GO.move rfl rfl ?_; refine GO.addi rfl rfl rfl (by omega) ?_; refine GO.assign rfl rfl ?_; refine GO.nil ?_; refine kthen_n ?_)
                refine ⟨⟨n + 1, K0, K', Z, v0, .pointer pk, o0, o0, X0, X0, r0, r0⟩, ⟨by show n + 1 ≤ l.length; omega, h0, ⟨hK', h0.wf, h0.cl, h0.rf⟩⟩, by dsimp only; omega, ?_, ImpS.sb ?_⟩
                · (refine SubE.c rfl rfl ?_; refine SubE.c rfl rfl ?_; refine SubE.c rfl rfl ?_; refine SubE.c rfl rfl ?_; exact SubE.n)
                · ((refine Sb.c (Tk.t (Tk.t (Tk.t Tk.h))) ?_; refine Sb.c (Tk.t (Tk.t Tk.h)) ?_; refine Sb.c (Tk.t (Tk.t Tk.h)) ?_; refine Sb.c (Tk.t Tk.h) ?_; refine Sb.c Tk.h ?_; refine Sb.c Tk.h ?_); (exact Sb.r))
            · rw [ha]
              rcases Int.emod_two_eq bb with hb | hb
              · rw [hb]
                have rd0 : Rd (pt b4 (row [i64 (sideO o0 : Nat), r0, i64 (sideO o1 : Nat), r1] 31)) ⟨b4, 2, none⟩ (i64 (sideO o1 : Nat)) := Rd.row rfl
                have rd1 : Rd (pt b4 (row [i64 (sideO o0 : Nat), r0, i64 (sideO o1 : Nat), r1] 31)) ⟨b4, 3, none⟩ r1 := Rd.row rfl
                (refine GO.move rfl rfl ?_; refine GO.extract rfl rfl rfl ?_; refine GO.extract rfl rfl rfl ?_; refine GO.alloc rfl fun b10 => ?_; refine GO.assign rfl rfl ?_; refine GO.storeW rfl rfl Tk.h ⟨rfl, rfl⟩ (by simp [Value.oneCell']; assumption) ?_; refine GO.nil ?_; refine kthen_n ?_; refine G.seq ?_; refine G.region ?_; refine GO.fieldAddr rfl rfl ?_; refine GO.load1 rfl rfl rfl (Tk.t (Tk.t (Tk.t (Tk.t Tk.h)))) rfl ?_; refine GO.nil ?_; refine kthen_n ?_; refine G.block ?_; refine G.seq ?_; refine G.region ?_; refine GO.eqi rfl rfl rfl ?_; refine GO.assign rfl rfl ?_; refine GO.nil ?_; refine kthen_n ?_; refine G.condF rfl (by assumption) ?_; refine G.seq ?_; refine G.region ?_; refine GO.eqi rfl rfl rfl ?_; refine GO.assign rfl rfl ?_; refine GO.nil ?_; refine kthen_n ?_; refine G.condF rfl (by assumption) ?_; refine G.seq ?_; refine G.region ?_; refine GO.eqi rfl rfl rfl ?_; refine GO.assign rfl rfl ?_; refine GO.nil ?_; refine kthen_n ?_; refine G.condT rfl (by assumption) ?_)
                refine G.drawT 12 1072 [pt b4 (row [i64 (sideO o0 : Nat), r0, i64 (sideO o1 : Nat), r1] 31)] (pt b3 (row [v0, v1] 25) :: K0 :: K1 :: Z :: q :: F) (by kernel_rfl) (keys_of rfl) (ImpS.sb (by ((refine Sb.c (Tk.t (Tk.t (Tk.t (Tk.t (Tk.t (Tk.t (Tk.t (Tk.t Tk.h)))))))) ?_; refine Sb.c (Tk.t (Tk.t (Tk.t (Tk.t (Tk.t (Tk.t (Tk.t Tk.h))))))) ?_; refine Sb.c (Tk.t (Tk.t (Tk.t (Tk.t (Tk.t Tk.h))))) ?_; refine Sb.c (Tk.t (Tk.t (Tk.t (Tk.t (Tk.t Tk.h))))) ?_; refine Sb.c (Tk.t Tk.h) ?_; refine Sb.c (Tk.t (Tk.t Tk.h)) ?_); (refine Sb.s ?_; refine Sb.s ?_; refine Sb.s ?_; exact Sb.r)))) ?_
                ((apply GR.step rfl; focus (intro Z; refine GO.move rfl rfl ?_; exact KQ.z)); (apply GR.step rfl; focus (intro Z; refine GO.move rfl rfl ?_; exact KQ.z)); (apply GR.step rfl; focus (intro Z; refine GO.move rfl rfl ?_; exact KQ.z)); (apply GR.step rfl; focus (intro Z; refine GO.idxA (j := 1) rfl rfl rfl ⟨rfl, by decide⟩ ?_; exact KQ.z)); refine GR.skip rfl ?_; refine GR.skip rfl ?_; (apply GR.step rfl; focus (intro Z; refine GO.move rfl rfl ?_; exact KQ.z)); (apply GR.step rfl; focus (intro Z; refine GO.idxA (j := 1) rfl rfl rfl ⟨rfl, by decide⟩ ?_; exact KQ.z)); (apply GR.step rfl; focus (intro Z; refine GO.load2 rfl rfl rfl Tk.h (by assumption) (by assumption) ?_; exact KQ.z)); (apply GR.step rfl; focus (intro Z; refine GO.idxA (j := 0) rfl rfl rfl ⟨rfl, by decide⟩ ?_; exact KQ.z)); refine GR.skip rfl ?_; (apply GR.step rfl; focus (intro Z; refine GO.idxA (j := 0) rfl rfl rfl ⟨rfl, by decide⟩ ?_; exact KQ.z)); refine GR.nil ?_)
                (repeat refine GT.skip rfl ?_)
                refine GT.step rfl ?_
                refine GO.load1 rfl rfl rfl (Tk.t Tk.h) rfl ?_
                refine GO.nil ⟨rfl, _, pt b3 (row [v0, v1] 25) :: K0 :: K1 :: Z :: q :: F, rfl, ImpS.sb (by ((refine Sb.c Tk.h ?_; refine Sb.c Tk.h ?_; refine Sb.c Tk.h ?_; refine Sb.c Tk.h ?_; refine Sb.c Tk.h ?_; refine Sb.c Tk.h ?_); (exact Sb.r))), ?_⟩
                (repeat refine GT.skip rfl ?_)
                refine GT.step rfl ?_
                refine GO.call1 rfl rfl (kCopyO K1 v1 o1 h1.wf X1 h1.kp) (Tks.c (Tk.t (Tk.t (Tk.t Tk.h))) Tks.n) ?_
                rintro vk _ ⟨K', hK', rfl⟩
                obtain ⟨pk, rfl⟩ := hK'.ptr
                refine GO.nil ⟨rfl, _, pt b3 (row [v0, v1] 25) :: K' :: K0 :: K1 :: Z :: q :: F, rfl, ImpS.sb (by ((refine Sb.c (Tk.t (Tk.t Tk.h)) ?_; refine Sb.c (Tk.t (Tk.t Tk.h)) ?_; refine Sb.c Tk.h ?_; refine Sb.c (Tk.t Tk.h) ?_; refine Sb.c Tk.h ?_; refine Sb.c Tk.h ?_; refine Sb.c Tk.h ?_); (exact Sb.r))), ?_⟩
                (repeat refine GT.skip rfl ?_)
                refine GT.step rfl ?_
                refine GO.store1 (l := [v0, v1]) rfl rfl rfl (Tk.t Tk.h) (by simp) ?_
                refine GO.nil ⟨rfl, .tuple #[], pt b3 (row [.pointer pk, v1] 25) :: K' :: K1 :: Z :: q :: F, rfl, ImpS.sb (by ((refine Sb.c (Tk.t Tk.h) ?_; refine Sb.c Tk.h ?_; refine Sb.c Tk.h ?_; refine Sb.c (Tk.t Tk.h) ?_; refine Sb.c (Tk.t Tk.h) ?_; refine Sb.c (Tk.t Tk.h) ?_); (refine Sb.s ?_; exact Sb.r))), ?_⟩
                (repeat refine GT.skip rfl ?_)
                refine GT.nil ?_
                refine GO.storeG (n := 2) (o := 0) (l := [i64 (sideO o0 : Nat), r0, i64 (sideO o1 : Nat), r1]) (vs := [i64 (sideO o1 : Nat), r1]) rfl rfl rfl rfl Tk.h (by simp) (by simp [Value.oneCell']; assumption) ?_
                (refine GO.nil ?_; refine kblock_n ?_; refine kblock_n ?_; refine kthen_n ?_; refine G.region ?_; refine GO.move rfl rfl ?_; refine GO.addi rfl rfl rfl (by omega) ?_; refine GO.assign rfl rfl ?_; refine GO.nil ?_; refine kthen_n ?_)
                refine ⟨⟨n + 1, K', K1, Z, .pointer pk, v1, o1, o1, X1, X1, r1, r1⟩, ⟨by show n + 1 ≤ l.length; omega, ⟨hK', h1.wf, h1.cl, h1.rf⟩, h1⟩, by dsimp only; omega, ?_, ImpS.sb ?_⟩
                · (refine SubE.c rfl rfl ?_; refine SubE.c rfl rfl ?_; refine SubE.c rfl rfl ?_; refine SubE.c rfl rfl ?_; exact SubE.n)
                · ((refine Sb.c (Tk.t (Tk.t Tk.h)) ?_; refine Sb.c (Tk.t (Tk.t Tk.h)) ?_; refine Sb.c (Tk.t (Tk.t Tk.h)) ?_; refine Sb.c (Tk.t Tk.h) ?_; refine Sb.c Tk.h ?_; refine Sb.c Tk.h ?_); (exact Sb.r))
              · rw [hb]
                have rd0 : Rd (pt b4 (row [i64 (sideO o0 : Nat), r0, i64 (sideO o1 : Nat), r1] 31)) ⟨b4, 2, none⟩ (i64 (sideO o1 : Nat)) := Rd.row rfl
                have rd1 : Rd (pt b4 (row [i64 (sideO o0 : Nat), r0, i64 (sideO o1 : Nat), r1] 31)) ⟨b4, 3, none⟩ r1 := Rd.row rfl
                (refine GO.move rfl rfl ?_; refine GO.extract rfl rfl rfl ?_; refine GO.extract rfl rfl rfl ?_; refine GO.alloc rfl fun b10 => ?_; refine GO.assign rfl rfl ?_; refine GO.storeW rfl rfl Tk.h ⟨rfl, rfl⟩ (by simp [Value.oneCell']; assumption) ?_; refine GO.nil ?_; refine kthen_n ?_; refine G.seq ?_; refine G.region ?_; refine GO.fieldAddr rfl rfl ?_; refine GO.load1 rfl rfl rfl (Tk.t (Tk.t (Tk.t (Tk.t Tk.h)))) rfl ?_; refine GO.nil ?_; refine kthen_n ?_; refine G.block ?_; refine G.seq ?_; refine G.region ?_; refine GO.eqi rfl rfl rfl ?_; refine GO.assign rfl rfl ?_; refine GO.nil ?_; refine kthen_n ?_; refine G.condF rfl (by assumption) ?_; refine G.seq ?_; refine G.region ?_; refine GO.eqi rfl rfl rfl ?_; refine GO.assign rfl rfl ?_; refine GO.nil ?_; refine kthen_n ?_; refine G.condF rfl (by assumption) ?_; refine G.seq ?_; refine G.region ?_; refine GO.eqi rfl rfl rfl ?_; refine GO.assign rfl rfl ?_; refine GO.nil ?_; refine kthen_n ?_; refine G.condT rfl (by assumption) ?_)
                refine G.drawT 12 1072 [pt b4 (row [i64 (sideO o0 : Nat), r0, i64 (sideO o1 : Nat), r1] 31)] (pt b3 (row [v0, v1] 25) :: K0 :: K1 :: Z :: q :: F) (by kernel_rfl) (keys_of rfl) (ImpS.sb (by ((refine Sb.c (Tk.t (Tk.t (Tk.t (Tk.t (Tk.t (Tk.t (Tk.t (Tk.t Tk.h)))))))) ?_; refine Sb.c (Tk.t (Tk.t (Tk.t (Tk.t (Tk.t (Tk.t (Tk.t Tk.h))))))) ?_; refine Sb.c (Tk.t (Tk.t (Tk.t (Tk.t (Tk.t Tk.h))))) ?_; refine Sb.c (Tk.t (Tk.t (Tk.t (Tk.t (Tk.t Tk.h))))) ?_; refine Sb.c (Tk.t Tk.h) ?_; refine Sb.c (Tk.t (Tk.t Tk.h)) ?_); (refine Sb.s ?_; refine Sb.s ?_; refine Sb.s ?_; exact Sb.r)))) ?_
                ((apply GR.step rfl; focus (intro Z; refine GO.move rfl rfl ?_; exact KQ.z)); (apply GR.step rfl; focus (intro Z; refine GO.move rfl rfl ?_; exact KQ.z)); (apply GR.step rfl; focus (intro Z; refine GO.move rfl rfl ?_; exact KQ.z)); (apply GR.step rfl; focus (intro Z; refine GO.idxA (j := 1) rfl rfl rfl ⟨rfl, by decide⟩ ?_; exact KQ.z)); refine GR.skip rfl ?_; refine GR.skip rfl ?_; (apply GR.step rfl; focus (intro Z; refine GO.move rfl rfl ?_; exact KQ.z)); (apply GR.step rfl; focus (intro Z; refine GO.idxA (j := 1) rfl rfl rfl ⟨rfl, by decide⟩ ?_; exact KQ.z)); (apply GR.step rfl; focus (intro Z; refine GO.load2 rfl rfl rfl Tk.h (by assumption) (by assumption) ?_; exact KQ.z)); (apply GR.step rfl; focus (intro Z; refine GO.idxA (j := 1) rfl rfl rfl ⟨rfl, by decide⟩ ?_; exact KQ.z)); refine GR.skip rfl ?_; (apply GR.step rfl; focus (intro Z; refine GO.idxA (j := 1) rfl rfl rfl ⟨rfl, by decide⟩ ?_; exact KQ.z)); refine GR.nil ?_)
                (repeat refine GT.skip rfl ?_)
                refine GT.step rfl ?_
                refine GO.load1 rfl rfl rfl (Tk.t Tk.h) rfl ?_
                refine GO.nil ⟨rfl, _, pt b3 (row [v0, v1] 25) :: K0 :: K1 :: Z :: q :: F, rfl, ImpS.sb (by ((refine Sb.c Tk.h ?_; refine Sb.c Tk.h ?_; refine Sb.c Tk.h ?_; refine Sb.c Tk.h ?_; refine Sb.c Tk.h ?_; refine Sb.c Tk.h ?_); (exact Sb.r))), ?_⟩
                (repeat refine GT.skip rfl ?_)
                refine GT.step rfl ?_
                refine GO.call1 rfl rfl (kCopyO K1 v1 o1 h1.wf X1 h1.kp) (Tks.c (Tk.t (Tk.t (Tk.t Tk.h))) Tks.n) ?_
                rintro vk _ ⟨K', hK', rfl⟩
                obtain ⟨pk, rfl⟩ := hK'.ptr
                refine GO.nil ⟨rfl, _, pt b3 (row [v0, v1] 25) :: K' :: K0 :: K1 :: Z :: q :: F, rfl, ImpS.sb (by ((refine Sb.c (Tk.t (Tk.t Tk.h)) ?_; refine Sb.c (Tk.t (Tk.t Tk.h)) ?_; refine Sb.c Tk.h ?_; refine Sb.c (Tk.t Tk.h) ?_; refine Sb.c Tk.h ?_; refine Sb.c Tk.h ?_; refine Sb.c Tk.h ?_); (exact Sb.r))), ?_⟩
                (repeat refine GT.skip rfl ?_)
                refine GT.step rfl ?_
                refine GO.store1 (l := [v0, v1]) rfl rfl rfl (Tk.t Tk.h) (by simp) ?_
                refine GO.nil ⟨rfl, .tuple #[], pt b3 (row [v0, .pointer pk] 25) :: K' :: K0 :: Z :: q :: F, rfl, ImpS.sb (by ((refine Sb.c (Tk.t Tk.h) ?_; refine Sb.c Tk.h ?_; refine Sb.c Tk.h ?_; refine Sb.c Tk.h ?_; refine Sb.c (Tk.t Tk.h) ?_; refine Sb.c (Tk.t Tk.h) ?_); (refine Sb.s ?_; exact Sb.r))), ?_⟩
                (repeat refine GT.skip rfl ?_)
                refine GT.nil ?_
                refine GO.storeG (n := 2) (o := 2) (l := [i64 (sideO o0 : Nat), r0, i64 (sideO o1 : Nat), r1]) (vs := [i64 (sideO o1 : Nat), r1]) rfl rfl rfl rfl Tk.h (by simp) (by simp [Value.oneCell']; assumption) ?_
                (refine GO.nil ?_; refine kblock_n ?_; refine kblock_n ?_; refine kthen_n ?_; refine G.region ?_; refine GO.move rfl rfl ?_; refine GO.addi rfl rfl rfl (by omega) ?_; refine GO.assign rfl rfl ?_; refine GO.nil ?_; refine kthen_n ?_)
                refine ⟨⟨n + 1, K0, K', Z, v0, .pointer pk, o0, o1, X0, X1, r0, r1⟩, ⟨by show n + 1 ≤ l.length; omega, h0, ⟨hK', h1.wf, h1.cl, h1.rf⟩⟩, by dsimp only; omega, ?_, ImpS.sb ?_⟩
                · (refine SubE.c rfl rfl ?_; refine SubE.c rfl rfl ?_; refine SubE.c rfl rfl ?_; refine SubE.c rfl rfl ?_; exact SubE.n)
                · ((refine Sb.c (Tk.t (Tk.t (Tk.t Tk.h))) ?_; refine Sb.c (Tk.t (Tk.t Tk.h)) ?_; refine Sb.c (Tk.t (Tk.t Tk.h)) ?_; refine Sb.c (Tk.t Tk.h) ?_; refine Sb.c Tk.h ?_; refine Sb.c Tk.h ?_); (exact Sb.r))
          | false =>
            rcases Int.emod_two_eq a with ha | ha
            · rw [ha]
              have rd0 : Rd (pt b4 (row [i64 (sideO o0 : Nat), r0, i64 (sideO o1 : Nat), r1] 31)) ⟨b4, 0, none⟩ (i64 (sideO o0 : Nat)) := Rd.row rfl
              have rd1 : Rd (pt b4 (row [i64 (sideO o0 : Nat), r0, i64 (sideO o1 : Nat), r1] 31)) ⟨b4, 1, none⟩ (r0) := Rd.row rfl

              have hD := done_spec q hq K0 Z p1 v0 (refV (sideO o0) r0) (.pointer pm) (refV (sideO g) x1) o0 g h0.wf wg X0 h0.cl h0.kp h0.rf hz1 hp1 d a bb i j s (.slice au L.length cu) rfl
              (refine GO.move rfl rfl ?_; refine GO.extract rfl rfl rfl ?_; refine GO.extract rfl rfl rfl ?_; refine GO.alloc rfl fun b10 => ?_; refine GO.assign rfl rfl ?_; refine GO.storeW rfl rfl Tk.h ⟨rfl, rfl⟩ (by simp [Value.oneCell']; assumption) ?_; refine GO.nil ?_; refine kthen_n ?_; refine G.seq ?_; refine G.region ?_; refine GO.fieldAddr rfl rfl ?_; refine GO.load1 rfl rfl rfl (Tk.t (Tk.t (Tk.t (Tk.t Tk.h)))) rfl ?_; refine GO.nil ?_; refine kthen_n ?_; refine G.block ?_; refine G.seq ?_; refine G.region ?_; refine GO.eqi rfl rfl rfl ?_; refine GO.assign rfl rfl ?_; refine GO.nil ?_; refine kthen_n ?_; refine G.condF rfl (by assumption) ?_; refine G.seq ?_; refine G.region ?_; refine GO.eqi rfl rfl rfl ?_; refine GO.assign rfl rfl ?_; refine GO.nil ?_; refine kthen_n ?_; refine G.condF rfl (by assumption) ?_; refine G.seq ?_; refine G.region ?_; refine GO.eqi rfl rfl rfl ?_; refine GO.assign rfl rfl ?_; refine GO.nil ?_; refine kthen_n ?_; refine G.condF rfl (by assumption) ?_; refine G.seq ?_)
              refine G.drawW 16 65024 7 [pt b3 (row [v0, v1] 25), pt b4 (row [i64 (sideO o0 : Nat), r0, i64 (sideO o1 : Nat), r1] 31), pt b6 (row [i64 d, i64 a, i64 bb, i64 i, i64 j, i64 s, .slice au L.length cu] 34), pt b10 (row [i64 (sideO g : Nat), x1] 28)] (K0 :: Z :: p1 :: q :: K1 :: F)
                (fun L' H' => ∃ K' Z' on X' vr b19, WfM on ∧ CloR on X' ∧ KeepO K' v0 on X' ∧ RefO Z' (refV (sideO on) vr) on ∧ vr.oneCell' = true ∧ Sup Z Z' ∧ SubE [(0, .slice (some ⟨b0, oo, none⟩) l.length cap0), (3, ptrV b3), (4, ptrV b4), (5, i64 (n : Nat)), (7, i64 0), (19, ptrV b19), (20, .bool true)] L' ∧ ImpS H' (pt b19 (row [i64 (sideO on : Nat), vr] 30) :: K' :: Z' :: q :: K1 :: pt b3 (row [v0, v1] 25) :: pt b4 (row [i64 (sideO o0 : Nat), r0, i64 (sideO o1 : Nat), r1] 31) :: F)) (by kernel_rfl) (by kernel_rfl) (keys_of rfl) (ImpS.sb (by ((refine Sb.c (Tk.t (Tk.t (Tk.t (Tk.t (Tk.t (Tk.t (Tk.t Tk.h))))))) ?_; refine Sb.c (Tk.t (Tk.t (Tk.t (Tk.t (Tk.t (Tk.t (Tk.t Tk.h))))))) ?_; refine Sb.c (Tk.t (Tk.t (Tk.t (Tk.t Tk.h)))) ?_; refine Sb.c Tk.h ?_; refine Sb.c (Tk.t (Tk.t (Tk.t Tk.h))) ?_; refine Sb.c Tk.h ?_; refine Sb.c Tk.h ?_; refine Sb.c Tk.h ?_; refine Sb.c Tk.h ?_); (exact Sb.r)))) ?_ ?_
              · ((apply GR.step rfl; focus (intro Z; refine GO.move rfl rfl ?_; exact KQ.z)); (apply GR.step rfl; focus (intro Z; refine GO.idxA (j := 0) rfl rfl rfl ⟨rfl, by decide⟩ ?_; exact KQ.z)); (apply GR.step rfl; focus (intro Z; refine GO.load1 rfl rfl rfl Tk.h rfl ?_; exact KQ.z)); (apply GR.step rfl; focus (intro Z; refine GO.move rfl rfl ?_; exact KQ.z)); (apply GR.step rfl; focus (intro Z; refine GO.idxA (j := 0) rfl rfl rfl ⟨rfl, by decide⟩ ?_; exact KQ.z)); (apply GR.step rfl; focus (intro Z; refine GO.load2 rfl rfl rfl (Tk.t Tk.h) (by assumption) (by assumption) ?_; exact KQ.z)); (apply GR.step rfl; focus (intro Z; refine GO.loadW rfl rfl rfl (Tk.t (Tk.t Tk.h)) rfl ?_; exact KQ.z)); (apply GR.step rfl; focus (intro Z; refine GO.move rfl rfl ?_; exact KQ.z)); (apply GR.step rfl; focus (intro Z; refine GO.loadW rfl rfl rfl (Tk.t (Tk.t (Tk.t Tk.h))) rfl ?_; exact KQ.z)); refine GR.skip rfl ?_; refine GR.skip rfl ?_; refine GR.skip rfl ?_; refine GR.skip rfl ?_; refine GR.skip rfl ?_; refine GR.skip rfl ?_; refine GR.skip rfl ?_; refine GR.nil ?_)
                refine GW.two (i1 := 9) (i2 := 13) (by kernel_rfl) rfl rfl ?_ ?_
                · skip
                  refine GO.call5 rfl rfl rfl rfl rfl rfl (hD) (Tks.c (Tk.t (Tk.t (Tk.t (Tk.t Tk.h)))) (Tks.c (Tk.t (Tk.t (Tk.t (Tk.t Tk.h)))) (Tks.c (Tk.t (Tk.t (Tk.t (Tk.t Tk.h)))) (Tks.c (Tk.t (Tk.t (Tk.t (Tk.t Tk.h)))) Tks.n)))) ?_
                  rintro _ _ ⟨rv, K', Z', on, X', rfl, hw', hc', hk', hr', hs', rfl⟩
                  obtain ⟨vr, rfl, hone⟩ := hr'.slR
                  refine GO.nil ⟨rfl, _, K' :: Z' :: q :: K1 :: F, rfl, ImpS.sb (by ((refine Sb.c (Tk.t (Tk.t (Tk.t Tk.h))) ?_; refine Sb.c (Tk.t (Tk.t (Tk.t Tk.h))) ?_; refine Sb.c (Tk.t (Tk.t (Tk.t Tk.h))) ?_; refine Sb.c (Tk.t (Tk.t (Tk.t Tk.h))) ?_; refine Sb.c Tk.h ?_; refine Sb.c Tk.h ?_; refine Sb.c Tk.h ?_; refine Sb.c Tk.h ?_); (exact Sb.r))), ?_⟩
                  refine GW.two (i1 := 10) (i2 := 13) (by kernel_rfl) rfl rfl ?_ ?_
                  · skip
                    refine GO.move rfl rfl ?_
                    refine GO.nil ⟨rfl, _, _, rfl, ImpS.refl, ?_⟩
                    refine GW.three (i1 := 11) (i2 := 12) (i3 := 13) (by kernel_rfl) rfl rfl rfl ?_ ?_ ?_
                    · skip
                      refine GO.extract rfl rfl rfl ?_
                      refine GO.nil ⟨rfl, _, _, rfl, ImpS.refl, ?_⟩
                      refine GW.two (i1 := 12) (i2 := 13) (by kernel_rfl) rfl rfl ?_ ?_
                      · skip
                        refine GO.extract rfl rfl rfl ?_
                        refine GO.nil ⟨rfl, _, _, rfl, ImpS.refl, ?_⟩
                        refine GW.one (i := 13) (by kernel_rfl) rfl ?_
                        refine GO.alloc rfl fun b19 => ?_
                        refine GO.nil ⟨rfl, _, pt b19 (row [i64 0, .slice none 0 0] 30) :: K' :: Z' :: q :: K1 :: F, rfl, ImpS.sb (by ((refine Sb.c (Tk.t Tk.h) ?_; refine Sb.c (Tk.t Tk.h) ?_; refine Sb.c (Tk.t Tk.h) ?_; refine Sb.c (Tk.t Tk.h) ?_; refine Sb.c Tk.h ?_; refine Sb.c Tk.h ?_; refine Sb.c Tk.h ?_; refine Sb.c Tk.h ?_; refine Sb.c Tk.h ?_); (exact Sb.r))), ?_⟩
                        refine GW.one (i := 14) (by kernel_rfl) rfl ?_
                        refine GO.storeW rfl rfl (Tk.t (Tk.t (Tk.t (Tk.t Tk.h)))) ⟨rfl, rfl⟩ (by simp [Value.oneCell']; assumption) ?_
                        refine GO.nil ⟨rfl, .tuple #[], pt b19 (row [i64 (sideO on : Nat), vr] 30) :: K' :: Z' :: q :: K1 :: F, rfl, ImpS.sb (by ((refine Sb.c (Tk.t Tk.h) ?_; refine Sb.c (Tk.t Tk.h) ?_; refine Sb.c (Tk.t Tk.h) ?_; refine Sb.c (Tk.t Tk.h) ?_; refine Sb.c Tk.h ?_; refine Sb.c Tk.h ?_; refine Sb.c Tk.h ?_; refine Sb.c Tk.h ?_; refine Sb.c Tk.h ?_); (exact Sb.r))), ?_⟩
                        refine GW.one (i := 15) (by kernel_rfl) rfl ?_
                        refine GO.assign rfl rfl ?_
                        refine GO.nil ⟨rfl, _, _, rfl, ImpS.refl, ?_⟩
                        refine GW.nil ⟨K', Z', on, X', vr, b19, hw', hc', hk', hr', hone, hs', by (refine SubE.c rfl rfl ?_; refine SubE.c rfl rfl ?_; refine SubE.c rfl rfl ?_; refine SubE.c rfl rfl ?_; refine SubE.c rfl rfl ?_; refine SubE.c rfl rfl ?_; refine SubE.c rfl rfl ?_; exact SubE.n), ImpS.sb (by ((refine Sb.c (Tk.t (Tk.t (Tk.t (Tk.t Tk.h)))) ?_; refine Sb.c (Tk.t (Tk.t (Tk.t (Tk.t Tk.h)))) ?_; refine Sb.c (Tk.t (Tk.t (Tk.t (Tk.t Tk.h)))) ?_; refine Sb.c (Tk.t (Tk.t (Tk.t (Tk.t Tk.h)))) ?_; refine Sb.c (Tk.t (Tk.t (Tk.t (Tk.t Tk.h)))) ?_; refine Sb.c Tk.h ?_; refine Sb.c Tk.h ?_); (refine Sb.s ?_; refine Sb.s ?_; exact Sb.r)))⟩
                      · skip
                        refine GO.alloc rfl fun b19 => ?_
                        refine GO.nil ⟨rfl, _, pt b19 (row [i64 0, .slice none 0 0] 30) :: K' :: Z' :: q :: K1 :: F, rfl, ImpS.sb (by ((refine Sb.c (Tk.t Tk.h) ?_; refine Sb.c (Tk.t Tk.h) ?_; refine Sb.c (Tk.t Tk.h) ?_; refine Sb.c (Tk.t Tk.h) ?_; refine Sb.c Tk.h ?_; refine Sb.c Tk.h ?_; refine Sb.c Tk.h ?_; refine Sb.c Tk.h ?_; refine Sb.c Tk.h ?_); (exact Sb.r))), ?_⟩
                        refine GW.two (i1 := 12) (i2 := 14) (by kernel_rfl) rfl rfl ?_ ?_
                        · skip
                          refine GO.extract rfl rfl rfl ?_
                          refine GO.nil ⟨rfl, _, _, rfl, ImpS.refl, ?_⟩
                          refine GW.one (i := 14) (by kernel_rfl) rfl ?_
                          refine GO.storeW rfl rfl (Tk.t (Tk.t (Tk.t (Tk.t Tk.h)))) ⟨rfl, rfl⟩ (by simp [Value.oneCell']; assumption) ?_
                          refine GO.nil ⟨rfl, .tuple #[], pt b19 (row [i64 (sideO on : Nat), vr] 30) :: K' :: Z' :: q :: K1 :: F, rfl, ImpS.sb (by ((refine Sb.c (Tk.t Tk.h) ?_; refine Sb.c (Tk.t Tk.h) ?_; refine Sb.c (Tk.t Tk.h) ?_; refine Sb.c (Tk.t Tk.h) ?_; refine Sb.c Tk.h ?_; refine Sb.c Tk.h ?_; refine Sb.c Tk.h ?_; refine Sb.c Tk.h ?_; refine Sb.c Tk.h ?_); (exact Sb.r))), ?_⟩
                          refine GW.one (i := 15) (by kernel_rfl) rfl ?_
                          refine GO.assign rfl rfl ?_
                          refine GO.nil ⟨rfl, _, _, rfl, ImpS.refl, ?_⟩
                          refine GW.nil ⟨K', Z', on, X', vr, b19, hw', hc', hk', hr', hone, hs', by (refine SubE.c rfl rfl ?_; refine SubE.c rfl rfl ?_; refine SubE.c rfl rfl ?_; refine SubE.c rfl rfl ?_; refine SubE.c rfl rfl ?_; refine SubE.c rfl rfl ?_; refine SubE.c rfl rfl ?_; exact SubE.n), ImpS.sb (by ((refine Sb.c (Tk.t (Tk.t (Tk.t (Tk.t Tk.h)))) ?_; refine Sb.c (Tk.t (Tk.t (Tk.t (Tk.t Tk.h)))) ?_; refine Sb.c (Tk.t (Tk.t (Tk.t (Tk.t Tk.h)))) ?_; refine Sb.c (Tk.t (Tk.t (Tk.t (Tk.t Tk.h)))) ?_; refine Sb.c (Tk.t (Tk.t (Tk.t (Tk.t Tk.h)))) ?_; refine Sb.c Tk.h ?_; refine Sb.c Tk.h ?_); (refine Sb.s ?_; refine Sb.s ?_; exact Sb.r)))⟩
                        · skip
                          refine GO.storeW rfl rfl (Tk.t (Tk.t (Tk.t (Tk.t Tk.h)))) ⟨rfl, rfl⟩ (by simp [Value.oneCell']; assumption) ?_
                          refine GO.nil ⟨rfl, .tuple #[], pt b19 (row [i64 (sideO on : Nat), vr] 30) :: K' :: Z' :: q :: K1 :: F, rfl, ImpS.sb (by ((refine Sb.c (Tk.t Tk.h) ?_; refine Sb.c (Tk.t Tk.h) ?_; refine Sb.c (Tk.t Tk.h) ?_; refine Sb.c (Tk.t Tk.h) ?_; refine Sb.c Tk.h ?_; refine Sb.c Tk.h ?_; refine Sb.c Tk.h ?_; refine Sb.c Tk.h ?_; refine Sb.c Tk.h ?_); (exact Sb.r))), ?_⟩
                          refine GW.one (i := 12) (by kernel_rfl) rfl ?_
                          refine GO.extract rfl rfl rfl ?_
                          refine GO.nil ⟨rfl, _, _, rfl, ImpS.refl, ?_⟩
                          refine GW.one (i := 15) (by kernel_rfl) rfl ?_
                          refine GO.assign rfl rfl ?_
                          refine GO.nil ⟨rfl, _, _, rfl, ImpS.refl, ?_⟩
                          refine GW.nil ⟨K', Z', on, X', vr, b19, hw', hc', hk', hr', hone, hs', by (refine SubE.c rfl rfl ?_; refine SubE.c rfl rfl ?_; refine SubE.c rfl rfl ?_; refine SubE.c rfl rfl ?_; refine SubE.c rfl rfl ?_; refine SubE.c rfl rfl ?_; refine SubE.c rfl rfl ?_; exact SubE.n), ImpS.sb (by ((refine Sb.c (Tk.t (Tk.t (Tk.t (Tk.t Tk.h)))) ?_; refine Sb.c (Tk.t (Tk.t (Tk.t (Tk.t Tk.h)))) ?_; refine Sb.c (Tk.t (Tk.t (Tk.t (Tk.t Tk.h)))) ?_; refine Sb.c (Tk.t (Tk.t (Tk.t (Tk.t Tk.h)))) ?_; refine Sb.c (Tk.t (Tk.t (Tk.t (Tk.t Tk.h)))) ?_; refine Sb.c Tk.h ?_; refine Sb.c Tk.h ?_); (refine Sb.s ?_; refine Sb.s ?_; exact Sb.r)))⟩
                    · skip
                      refine GO.extract rfl rfl rfl ?_
                      refine GO.nil ⟨rfl, _, _, rfl, ImpS.refl, ?_⟩
                      refine GW.two (i1 := 11) (i2 := 13) (by kernel_rfl) rfl rfl ?_ ?_
                      · skip
                        refine GO.extract rfl rfl rfl ?_
                        refine GO.nil ⟨rfl, _, _, rfl, ImpS.refl, ?_⟩
                        refine GW.one (i := 13) (by kernel_rfl) rfl ?_
                        refine GO.alloc rfl fun b19 => ?_
                        refine GO.nil ⟨rfl, _, pt b19 (row [i64 0, .slice none 0 0] 30) :: K' :: Z' :: q :: K1 :: F, rfl, ImpS.sb (by ((refine Sb.c (Tk.t Tk.h) ?_; refine Sb.c (Tk.t Tk.h) ?_; refine Sb.c (Tk.t Tk.h) ?_; refine Sb.c (Tk.t Tk.h) ?_; refine Sb.c Tk.h ?_; refine Sb.c Tk.h ?_; refine Sb.c Tk.h ?_; refine Sb.c Tk.h ?_; refine Sb.c Tk.h ?_); (exact Sb.r))), ?_⟩
                        refine GW.one (i := 14) (by kernel_rfl) rfl ?_
                        refine GO.storeW rfl rfl (Tk.t (Tk.t (Tk.t (Tk.t Tk.h)))) ⟨rfl, rfl⟩ (by simp [Value.oneCell']; assumption) ?_
                        refine GO.nil ⟨rfl, .tuple #[], pt b19 (row [i64 (sideO on : Nat), vr] 30) :: K' :: Z' :: q :: K1 :: F, rfl, ImpS.sb (by ((refine Sb.c (Tk.t Tk.h) ?_; refine Sb.c (Tk.t Tk.h) ?_; refine Sb.c (Tk.t Tk.h) ?_; refine Sb.c (Tk.t Tk.h) ?_; refine Sb.c Tk.h ?_; refine Sb.c Tk.h ?_; refine Sb.c Tk.h ?_; refine Sb.c Tk.h ?_; refine Sb.c Tk.h ?_); (exact Sb.r))), ?_⟩
                        refine GW.one (i := 15) (by kernel_rfl) rfl ?_
                        refine GO.assign rfl rfl ?_
                        refine GO.nil ⟨rfl, _, _, rfl, ImpS.refl, ?_⟩
                        refine GW.nil ⟨K', Z', on, X', vr, b19, hw', hc', hk', hr', hone, hs', by (refine SubE.c rfl rfl ?_; refine SubE.c rfl rfl ?_; refine SubE.c rfl rfl ?_; refine SubE.c rfl rfl ?_; refine SubE.c rfl rfl ?_; refine SubE.c rfl rfl ?_; refine SubE.c rfl rfl ?_; exact SubE.n), ImpS.sb (by ((refine Sb.c (Tk.t (Tk.t (Tk.t (Tk.t Tk.h)))) ?_; refine Sb.c (Tk.t (Tk.t (Tk.t (Tk.t Tk.h)))) ?_; refine Sb.c (Tk.t (Tk.t (Tk.t (Tk.t Tk.h)))) ?_; refine Sb.c (Tk.t (Tk.t (Tk.t (Tk.t Tk.h)))) ?_; refine Sb.c (Tk.t (Tk.t (Tk.t (Tk.t Tk.h)))) ?_; refine Sb.c Tk.h ?_; refine Sb.c Tk.h ?_); (refine Sb.s ?_; refine Sb.s ?_; exact Sb.r)))⟩
                      · skip
                        refine GO.alloc rfl fun b19 => ?_
                        refine GO.nil ⟨rfl, _, pt b19 (row [i64 0, .slice none 0 0] 30) :: K' :: Z' :: q :: K1 :: F, rfl, ImpS.sb (by ((refine Sb.c (Tk.t Tk.h) ?_; refine Sb.c (Tk.t Tk.h) ?_; refine Sb.c (Tk.t Tk.h) ?_; refine Sb.c (Tk.t Tk.h) ?_; refine Sb.c Tk.h ?_; refine Sb.c Tk.h ?_; refine Sb.c Tk.h ?_; refine Sb.c Tk.h ?_; refine Sb.c Tk.h ?_); (exact Sb.r))), ?_⟩
                        refine GW.one (i := 11) (by kernel_rfl) rfl ?_
                        refine GO.extract rfl rfl rfl ?_
                        refine GO.nil ⟨rfl, _, _, rfl, ImpS.refl, ?_⟩
                        refine GW.one (i := 14) (by kernel_rfl) rfl ?_
                        refine GO.storeW rfl rfl (Tk.t (Tk.t (Tk.t (Tk.t Tk.h)))) ⟨rfl, rfl⟩ (by simp [Value.oneCell']; assumption) ?_
                        refine GO.nil ⟨rfl, .tuple #[], pt b19 (row [i64 (sideO on : Nat), vr] 30) :: K' :: Z' :: q :: K1 :: F, rfl, ImpS.sb (by ((refine Sb.c (Tk.t Tk.h) ?_; refine Sb.c (Tk.t Tk.h) ?_; refine Sb.c (Tk.t Tk.h) ?_; refine Sb.c (Tk.t Tk.h) ?_; refine Sb.c Tk.h ?_; refine Sb.c Tk.h ?_; refine Sb.c Tk.h ?_; refine Sb.c Tk.h ?_; refine Sb.c Tk.h ?_); (exact Sb.r))), ?_⟩
                        refine GW.one (i := 15) (by kernel_rfl) rfl ?_
                        refine GO.assign rfl rfl ?_
                        refine GO.nil ⟨rfl, _, _, rfl, ImpS.refl, ?_⟩
                        refine GW.nil ⟨K', Z', on, X', vr, b19, hw', hc', hk', hr', hone, hs', by (refine SubE.c rfl rfl ?_; refine SubE.c rfl rfl ?_; refine SubE.c rfl rfl ?_; refine SubE.c rfl rfl ?_; refine SubE.c rfl rfl ?_; refine SubE.c rfl rfl ?_; refine SubE.c rfl rfl ?_; exact SubE.n), ImpS.sb (by ((refine Sb.c (Tk.t (Tk.t (Tk.t (Tk.t Tk.h)))) ?_; refine Sb.c (Tk.t (Tk.t (Tk.t (Tk.t Tk.h)))) ?_; refine Sb.c (Tk.t (Tk.t (Tk.t (Tk.t Tk.h)))) ?_; refine Sb.c (Tk.t (Tk.t (Tk.t (Tk.t Tk.h)))) ?_; refine Sb.c (Tk.t (Tk.t (Tk.t (Tk.t Tk.h)))) ?_; refine Sb.c Tk.h ?_; refine Sb.c Tk.h ?_); (refine Sb.s ?_; refine Sb.s ?_; exact Sb.r)))⟩
                    · skip
                      refine GO.alloc rfl fun b19 => ?_
                      refine GO.nil ⟨rfl, _, pt b19 (row [i64 0, .slice none 0 0] 30) :: K' :: Z' :: q :: K1 :: F, rfl, ImpS.sb (by ((refine Sb.c (Tk.t Tk.h) ?_; refine Sb.c (Tk.t Tk.h) ?_; refine Sb.c (Tk.t Tk.h) ?_; refine Sb.c (Tk.t Tk.h) ?_; refine Sb.c Tk.h ?_; refine Sb.c Tk.h ?_; refine Sb.c Tk.h ?_; refine Sb.c Tk.h ?_; refine Sb.c Tk.h ?_); (exact Sb.r))), ?_⟩
                      refine GW.two (i1 := 11) (i2 := 12) (by kernel_rfl) rfl rfl ?_ ?_
                      · skip
                        refine GO.extract rfl rfl rfl ?_
                        refine GO.nil ⟨rfl, _, _, rfl, ImpS.refl, ?_⟩
                        refine GW.two (i1 := 12) (i2 := 14) (by kernel_rfl) rfl rfl ?_ ?_
                        · skip
                          refine GO.extract rfl rfl rfl ?_
                          refine GO.nil ⟨rfl, _, _, rfl, ImpS.refl, ?_⟩
                          refine GW.one (i := 14) (by kernel_rfl) rfl ?_
                          refine GO.storeW rfl rfl (Tk.t (Tk.t (Tk.t (Tk.t Tk.h)))) ⟨rfl, rfl⟩ (by simp [Value.oneCell']; assumption) ?_
                          refine GO.nil ⟨rfl, .tuple #[], pt b19 (row [i64 (sideO on : Nat), vr] 30) :: K' :: Z' :: q :: K1 :: F, rfl, ImpS.sb (by ((refine Sb.c (Tk.t Tk.h) ?_; refine Sb.c (Tk.t Tk.h) ?_; refine Sb.c (Tk.t Tk.h) ?_; refine Sb.c (Tk.t Tk.h) ?_; refine Sb.c Tk.h ?_; refine Sb.c Tk.h ?_; refine Sb.c Tk.h ?_; refine Sb.c Tk.h ?_; refine Sb.c Tk.h ?_); (exact Sb.r))), ?_⟩
                          refine GW.one (i := 15) (by kernel_rfl) rfl ?_
                          refine GO.assign rfl rfl ?_
                          refine GO.nil ⟨rfl, _, _, rfl, ImpS.refl, ?_⟩
                          refine GW.nil ⟨K', Z', on, X', vr, b19, hw', hc', hk', hr', hone, hs', by (refine SubE.c rfl rfl ?_; refine SubE.c rfl rfl ?_; refine SubE.c rfl rfl ?_; refine SubE.c rfl rfl ?_; refine SubE.c rfl rfl ?_; refine SubE.c rfl rfl ?_; refine SubE.c rfl rfl ?_; exact SubE.n), ImpS.sb (by ((refine Sb.c (Tk.t (Tk.t (Tk.t (Tk.t Tk.h)))) ?_; refine Sb.c (Tk.t (Tk.t (Tk.t (Tk.t Tk.h)))) ?_; refine Sb.c (Tk.t (Tk.t (Tk.t (Tk.t Tk.h)))) ?_; refine Sb.c (Tk.t (Tk.t (Tk.t (Tk.t Tk.h)))) ?_; refine Sb.c (Tk.t (Tk.t (Tk.t (Tk.t Tk.h)))) ?_; refine Sb.c Tk.h ?_; refine Sb.c Tk.h ?_); (refine Sb.s ?_; refine Sb.s ?_; exact Sb.r)))⟩
                        · skip
                          refine GO.storeW rfl rfl (Tk.t (Tk.t (Tk.t (Tk.t Tk.h)))) ⟨rfl, rfl⟩ (by simp [Value.oneCell']; assumption) ?_
                          refine GO.nil ⟨rfl, .tuple #[], pt b19 (row [i64 (sideO on : Nat), vr] 30) :: K' :: Z' :: q :: K1 :: F, rfl, ImpS.sb (by ((refine Sb.c (Tk.t Tk.h) ?_; refine Sb.c (Tk.t Tk.h) ?_; refine Sb.c (Tk.t Tk.h) ?_; refine Sb.c (Tk.t Tk.h) ?_; refine Sb.c Tk.h ?_; refine Sb.c Tk.h ?_; refine Sb.c Tk.h ?_; refine Sb.c Tk.h ?_; refine Sb.c Tk.h ?_); (exact Sb.r))), ?_⟩
                          refine GW.one (i := 12) (by kernel_rfl) rfl ?_
                          refine GO.extract rfl rfl rfl ?_
                          refine GO.nil ⟨rfl, _, _, rfl, ImpS.refl, ?_⟩
                          refine GW.one (i := 15) (by kernel_rfl) rfl ?_
                          refine GO.assign rfl rfl ?_
                          refine GO.nil ⟨rfl, _, _, rfl, ImpS.refl, ?_⟩
                          refine GW.nil ⟨K', Z', on, X', vr, b19, hw', hc', hk', hr', hone, hs', by (refine SubE.c rfl rfl ?_; refine SubE.c rfl rfl ?_; refine SubE.c rfl rfl ?_; refine SubE.c rfl rfl ?_; refine SubE.c rfl rfl ?_; refine SubE.c rfl rfl ?_; refine SubE.c rfl rfl ?_; exact SubE.n), ImpS.sb (by ((refine Sb.c (Tk.t (Tk.t (Tk.t (Tk.t Tk.h)))) ?_; refine Sb.c (Tk.t (Tk.t (Tk.t (Tk.t Tk.h)))) ?_; refine Sb.c (Tk.t (Tk.t (Tk.t (Tk.t Tk.h)))) ?_; refine Sb.c (Tk.t (Tk.t (Tk.t (Tk.t Tk.h)))) ?_; refine Sb.c (Tk.t (Tk.t (Tk.t (Tk.t Tk.h)))) ?_; refine Sb.c Tk.h ?_; refine Sb.c Tk.h ?_); (refine Sb.s ?_; refine Sb.s ?_; exact Sb.r)))⟩
                      · skip
                        refine GO.extract rfl rfl rfl ?_
                        refine GO.nil ⟨rfl, _, _, rfl, ImpS.refl, ?_⟩
                        refine GW.one (i := 11) (by kernel_rfl) rfl ?_
                        refine GO.extract rfl rfl rfl ?_
                        refine GO.nil ⟨rfl, _, _, rfl, ImpS.refl, ?_⟩
                        refine GW.one (i := 14) (by kernel_rfl) rfl ?_
                        refine GO.storeW rfl rfl (Tk.t (Tk.t (Tk.t (Tk.t Tk.h)))) ⟨rfl, rfl⟩ (by simp [Value.oneCell']; assumption) ?_
                        refine GO.nil ⟨rfl, .tuple #[], pt b19 (row [i64 (sideO on : Nat), vr] 30) :: K' :: Z' :: q :: K1 :: F, rfl, ImpS.sb (by ((refine Sb.c (Tk.t Tk.h) ?_; refine Sb.c (Tk.t Tk.h) ?_; refine Sb.c (Tk.t Tk.h) ?_; refine Sb.c (Tk.t Tk.h) ?_; refine Sb.c Tk.h ?_; refine Sb.c Tk.h ?_; refine Sb.c Tk.h ?_; refine Sb.c Tk.h ?_; refine Sb.c Tk.h ?_); (exact Sb.r))), ?_⟩
                        refine GW.one (i := 15) (by kernel_rfl) rfl ?_
                        refine GO.assign rfl rfl ?_
                        refine GO.nil ⟨rfl, _, _, rfl, ImpS.refl, ?_⟩
                        refine GW.nil ⟨K', Z', on, X', vr, b19, hw', hc', hk', hr', hone, hs', by (refine SubE.c rfl rfl ?_; refine SubE.c rfl rfl ?_; refine SubE.c rfl rfl ?_; refine SubE.c rfl rfl ?_; refine SubE.c rfl rfl ?_; refine SubE.c rfl rfl ?_; refine SubE.c rfl rfl ?_; exact SubE.n), ImpS.sb (by ((refine Sb.c (Tk.t (Tk.t (Tk.t (Tk.t Tk.h)))) ?_; refine Sb.c (Tk.t (Tk.t (Tk.t (Tk.t Tk.h)))) ?_; refine Sb.c (Tk.t (Tk.t (Tk.t (Tk.t Tk.h)))) ?_; refine Sb.c (Tk.t (Tk.t (Tk.t (Tk.t Tk.h)))) ?_; refine Sb.c (Tk.t (Tk.t (Tk.t (Tk.t Tk.h)))) ?_; refine Sb.c Tk.h ?_; refine Sb.c Tk.h ?_); (refine Sb.s ?_; refine Sb.s ?_; exact Sb.r)))⟩
                  · skip
                    refine GO.alloc rfl fun b19 => ?_
                    refine GO.nil ⟨rfl, _, pt b19 (row [i64 0, .slice none 0 0] 30) :: K' :: Z' :: q :: K1 :: F, rfl, ImpS.sb (by ((refine Sb.c (Tk.t Tk.h) ?_; refine Sb.c (Tk.t Tk.h) ?_; refine Sb.c (Tk.t Tk.h) ?_; refine Sb.c (Tk.t Tk.h) ?_; refine Sb.c Tk.h ?_; refine Sb.c Tk.h ?_; refine Sb.c Tk.h ?_; refine Sb.c Tk.h ?_; refine Sb.c Tk.h ?_); (exact Sb.r))), ?_⟩
                    refine GW.one (i := 10) (by kernel_rfl) rfl ?_
                    refine GO.move rfl rfl ?_
                    refine GO.nil ⟨rfl, _, _, rfl, ImpS.refl, ?_⟩
                    refine GW.two (i1 := 11) (i2 := 12) (by kernel_rfl) rfl rfl ?_ ?_
                    · skip
                      refine GO.extract rfl rfl rfl ?_
                      refine GO.nil ⟨rfl, _, _, rfl, ImpS.refl, ?_⟩
                      refine GW.two (i1 := 12) (i2 := 14) (by kernel_rfl) rfl rfl ?_ ?_
                      · skip
                        refine GO.extract rfl rfl rfl ?_
                        refine GO.nil ⟨rfl, _, _, rfl, ImpS.refl, ?_⟩
                        refine GW.one (i := 14) (by kernel_rfl) rfl ?_
                        refine GO.storeW rfl rfl (Tk.t (Tk.t (Tk.t (Tk.t Tk.h)))) ⟨rfl, rfl⟩ (by simp [Value.oneCell']; assumption) ?_
                        refine GO.nil ⟨rfl, .tuple #[], pt b19 (row [i64 (sideO on : Nat), vr] 30) :: K' :: Z' :: q :: K1 :: F, rfl, ImpS.sb (by ((refine Sb.c (Tk.t Tk.h) ?_; refine Sb.c (Tk.t Tk.h) ?_; refine Sb.c (Tk.t Tk.h) ?_; refine Sb.c (Tk.t Tk.h) ?_; refine Sb.c Tk.h ?_; refine Sb.c Tk.h ?_; refine Sb.c Tk.h ?_; refine Sb.c Tk.h ?_; refine Sb.c Tk.h ?_); (exact Sb.r))), ?_⟩
                        refine GW.one (i := 15) (by kernel_rfl) rfl ?_
                        refine GO.assign rfl rfl ?_
                        refine GO.nil ⟨rfl, _, _, rfl, ImpS.refl, ?_⟩
                        refine GW.nil ⟨K', Z', on, X', vr, b19, hw', hc', hk', hr', hone, hs', by (refine SubE.c rfl rfl ?_; refine SubE.c rfl rfl ?_; refine SubE.c rfl rfl ?_; refine SubE.c rfl rfl ?_; refine SubE.c rfl rfl ?_; refine SubE.c rfl rfl ?_; refine SubE.c rfl rfl ?_; exact SubE.n), ImpS.sb (by ((refine Sb.c (Tk.t (Tk.t (Tk.t (Tk.t Tk.h)))) ?_; refine Sb.c (Tk.t (Tk.t (Tk.t (Tk.t Tk.h)))) ?_; refine Sb.c (Tk.t (Tk.t (Tk.t (Tk.t Tk.h)))) ?_; refine Sb.c (Tk.t (Tk.t (Tk.t (Tk.t Tk.h)))) ?_; refine Sb.c (Tk.t (Tk.t (Tk.t (Tk.t Tk.h)))) ?_; refine Sb.c Tk.h ?_; refine Sb.c Tk.h ?_); (refine Sb.s ?_; refine Sb.s ?_; exact Sb.r)))⟩
                      · skip
                        refine GO.storeW rfl rfl (Tk.t (Tk.t (Tk.t (Tk.t Tk.h)))) ⟨rfl, rfl⟩ (by simp [Value.oneCell']; assumption) ?_
                        refine GO.nil ⟨rfl, .tuple #[], pt b19 (row [i64 (sideO on : Nat), vr] 30) :: K' :: Z' :: q :: K1 :: F, rfl, ImpS.sb (by ((refine Sb.c (Tk.t Tk.h) ?_; refine Sb.c (Tk.t Tk.h) ?_; refine Sb.c (Tk.t Tk.h) ?_; refine Sb.c (Tk.t Tk.h) ?_; refine Sb.c Tk.h ?_; refine Sb.c Tk.h ?_; refine Sb.c Tk.h ?_; refine Sb.c Tk.h ?_; refine Sb.c Tk.h ?_); (exact Sb.r))), ?_⟩
                        refine GW.one (i := 12) (by kernel_rfl) rfl ?_
                        refine GO.extract rfl rfl rfl ?_
                        refine GO.nil ⟨rfl, _, _, rfl, ImpS.refl, ?_⟩
                        refine GW.one (i := 15) (by kernel_rfl) rfl ?_
                        refine GO.assign rfl rfl ?_
                        refine GO.nil ⟨rfl, _, _, rfl, ImpS.refl, ?_⟩
                        refine GW.nil ⟨K', Z', on, X', vr, b19, hw', hc', hk', hr', hone, hs', by (refine SubE.c rfl rfl ?_; refine SubE.c rfl rfl ?_; refine SubE.c rfl rfl ?_; refine SubE.c rfl rfl ?_; refine SubE.c rfl rfl ?_; refine SubE.c rfl rfl ?_; refine SubE.c rfl rfl ?_; exact SubE.n), ImpS.sb (by ((refine Sb.c (Tk.t (Tk.t (Tk.t (Tk.t Tk.h)))) ?_; refine Sb.c (Tk.t (Tk.t (Tk.t (Tk.t Tk.h)))) ?_; refine Sb.c (Tk.t (Tk.t (Tk.t (Tk.t Tk.h)))) ?_; refine Sb.c (Tk.t (Tk.t (Tk.t (Tk.t Tk.h)))) ?_; refine Sb.c (Tk.t (Tk.t (Tk.t (Tk.t Tk.h)))) ?_; refine Sb.c Tk.h ?_; refine Sb.c Tk.h ?_); (refine Sb.s ?_; refine Sb.s ?_; exact Sb.r)))⟩
                    · skip
                      refine GO.extract rfl rfl rfl ?_
                      refine GO.nil ⟨rfl, _, _, rfl, ImpS.refl, ?_⟩
                      refine GW.one (i := 11) (by kernel_rfl) rfl ?_
                      refine GO.extract rfl rfl rfl ?_
                      refine GO.nil ⟨rfl, _, _, rfl, ImpS.refl, ?_⟩
                      refine GW.one (i := 14) (by kernel_rfl) rfl ?_
                      refine GO.storeW rfl rfl (Tk.t (Tk.t (Tk.t (Tk.t Tk.h)))) ⟨rfl, rfl⟩ (by simp [Value.oneCell']; assumption) ?_
                      refine GO.nil ⟨rfl, .tuple #[], pt b19 (row [i64 (sideO on : Nat), vr] 30) :: K' :: Z' :: q :: K1 :: F, rfl, ImpS.sb (by ((refine Sb.c (Tk.t Tk.h) ?_; refine Sb.c (Tk.t Tk.h) ?_; refine Sb.c (Tk.t Tk.h) ?_; refine Sb.c (Tk.t Tk.h) ?_; refine Sb.c Tk.h ?_; refine Sb.c Tk.h ?_; refine Sb.c Tk.h ?_; refine Sb.c Tk.h ?_; refine Sb.c Tk.h ?_); (exact Sb.r))), ?_⟩
                      refine GW.one (i := 15) (by kernel_rfl) rfl ?_
                      refine GO.assign rfl rfl ?_
                      refine GO.nil ⟨rfl, _, _, rfl, ImpS.refl, ?_⟩
                      refine GW.nil ⟨K', Z', on, X', vr, b19, hw', hc', hk', hr', hone, hs', by (refine SubE.c rfl rfl ?_; refine SubE.c rfl rfl ?_; refine SubE.c rfl rfl ?_; refine SubE.c rfl rfl ?_; refine SubE.c rfl rfl ?_; refine SubE.c rfl rfl ?_; refine SubE.c rfl rfl ?_; exact SubE.n), ImpS.sb (by ((refine Sb.c (Tk.t (Tk.t (Tk.t (Tk.t Tk.h)))) ?_; refine Sb.c (Tk.t (Tk.t (Tk.t (Tk.t Tk.h)))) ?_; refine Sb.c (Tk.t (Tk.t (Tk.t (Tk.t Tk.h)))) ?_; refine Sb.c (Tk.t (Tk.t (Tk.t (Tk.t Tk.h)))) ?_; refine Sb.c (Tk.t (Tk.t (Tk.t (Tk.t Tk.h)))) ?_; refine Sb.c Tk.h ?_; refine Sb.c Tk.h ?_); (refine Sb.s ?_; refine Sb.s ?_; exact Sb.r)))⟩
                · skip
                  refine GO.alloc rfl fun b19 => ?_
                  refine GO.nil ⟨rfl, _, pt b19 (row [i64 0, .slice none 0 0] 30) :: K0 :: Z :: p1 :: q :: K1 :: F, rfl, ImpS.sb (by ((refine Sb.c (Tk.t Tk.h) ?_; refine Sb.c (Tk.t Tk.h) ?_; refine Sb.c (Tk.t Tk.h) ?_; refine Sb.c (Tk.t Tk.h) ?_; refine Sb.c Tk.h ?_; refine Sb.c Tk.h ?_; refine Sb.c Tk.h ?_; refine Sb.c Tk.h ?_; refine Sb.c Tk.h ?_; refine Sb.c Tk.h ?_); (exact Sb.r))), ?_⟩
                  refine GW.one (i := 9) (by kernel_rfl) rfl ?_
                  refine GO.call5 rfl rfl rfl rfl rfl rfl (hD) (Tks.c (Tk.t (Tk.t (Tk.t (Tk.t (Tk.t Tk.h))))) (Tks.c (Tk.t (Tk.t (Tk.t (Tk.t (Tk.t Tk.h))))) (Tks.c (Tk.t (Tk.t (Tk.t (Tk.t (Tk.t Tk.h))))) (Tks.c (Tk.t (Tk.t (Tk.t (Tk.t (Tk.t Tk.h))))) Tks.n)))) ?_
                  rintro _ _ ⟨rv, K', Z', on, X', rfl, hw', hc', hk', hr', hs', rfl⟩
                  obtain ⟨vr, rfl, hone⟩ := hr'.slR
                  refine GO.nil ⟨rfl, _, pt b19 (row [i64 0, .slice none 0 0] 30) :: K' :: Z' :: q :: K1 :: F, rfl, ImpS.sb (by ((refine Sb.c (Tk.t (Tk.t (Tk.t Tk.h))) ?_; refine Sb.c (Tk.t (Tk.t (Tk.t Tk.h))) ?_; refine Sb.c (Tk.t (Tk.t (Tk.t Tk.h))) ?_; refine Sb.c (Tk.t (Tk.t (Tk.t Tk.h))) ?_; refine Sb.c (Tk.t (Tk.t (Tk.t Tk.h))) ?_; refine Sb.c Tk.h ?_; refine Sb.c Tk.h ?_; refine Sb.c Tk.h ?_; refine Sb.c Tk.h ?_); (exact Sb.r))), ?_⟩
                  refine GW.one (i := 10) (by kernel_rfl) rfl ?_
                  refine GO.move rfl rfl ?_
                  refine GO.nil ⟨rfl, _, _, rfl, ImpS.refl, ?_⟩
                  refine GW.two (i1 := 11) (i2 := 12) (by kernel_rfl) rfl rfl ?_ ?_
                  · skip
                    refine GO.extract rfl rfl rfl ?_
                    refine GO.nil ⟨rfl, _, _, rfl, ImpS.refl, ?_⟩
                    refine GW.two (i1 := 12) (i2 := 14) (by kernel_rfl) rfl rfl ?_ ?_
                    · skip
                      refine GO.extract rfl rfl rfl ?_
                      refine GO.nil ⟨rfl, _, _, rfl, ImpS.refl, ?_⟩
                      refine GW.one (i := 14) (by kernel_rfl) rfl ?_
                      refine GO.storeW rfl rfl (Tk.t (Tk.t (Tk.t (Tk.t Tk.h)))) ⟨rfl, rfl⟩ (by simp [Value.oneCell']; assumption) ?_
                      refine GO.nil ⟨rfl, .tuple #[], pt b19 (row [i64 (sideO on : Nat), vr] 30) :: K' :: Z' :: q :: K1 :: F, rfl, ImpS.sb (by ((refine Sb.c (Tk.t Tk.h) ?_; refine Sb.c (Tk.t Tk.h) ?_; refine Sb.c (Tk.t Tk.h) ?_; refine Sb.c (Tk.t Tk.h) ?_; refine Sb.c Tk.h ?_; refine Sb.c Tk.h ?_; refine Sb.c Tk.h ?_; refine Sb.c Tk.h ?_; refine Sb.c Tk.h ?_); (exact Sb.r))), ?_⟩
                      refine GW.one (i := 15) (by kernel_rfl) rfl ?_
                      refine GO.assign rfl rfl ?_
                      refine GO.nil ⟨rfl, _, _, rfl, ImpS.refl, ?_⟩
                      refine GW.nil ⟨K', Z', on, X', vr, b19, hw', hc', hk', hr', hone, hs', by (refine SubE.c rfl rfl ?_; refine SubE.c rfl rfl ?_; refine SubE.c rfl rfl ?_; refine SubE.c rfl rfl ?_; refine SubE.c rfl rfl ?_; refine SubE.c rfl rfl ?_; refine SubE.c rfl rfl ?_; exact SubE.n), ImpS.sb (by ((refine Sb.c (Tk.t (Tk.t (Tk.t (Tk.t Tk.h)))) ?_; refine Sb.c (Tk.t (Tk.t (Tk.t (Tk.t Tk.h)))) ?_; refine Sb.c (Tk.t (Tk.t (Tk.t (Tk.t Tk.h)))) ?_; refine Sb.c (Tk.t (Tk.t (Tk.t (Tk.t Tk.h)))) ?_; refine Sb.c (Tk.t (Tk.t (Tk.t (Tk.t Tk.h)))) ?_; refine Sb.c Tk.h ?_; refine Sb.c Tk.h ?_); (refine Sb.s ?_; refine Sb.s ?_; exact Sb.r)))⟩
                    · skip
                      refine GO.storeW rfl rfl (Tk.t (Tk.t (Tk.t (Tk.t Tk.h)))) ⟨rfl, rfl⟩ (by simp [Value.oneCell']; assumption) ?_
                      refine GO.nil ⟨rfl, .tuple #[], pt b19 (row [i64 (sideO on : Nat), vr] 30) :: K' :: Z' :: q :: K1 :: F, rfl, ImpS.sb (by ((refine Sb.c (Tk.t Tk.h) ?_; refine Sb.c (Tk.t Tk.h) ?_; refine Sb.c (Tk.t Tk.h) ?_; refine Sb.c (Tk.t Tk.h) ?_; refine Sb.c Tk.h ?_; refine Sb.c Tk.h ?_; refine Sb.c Tk.h ?_; refine Sb.c Tk.h ?_; refine Sb.c Tk.h ?_); (exact Sb.r))), ?_⟩
                      refine GW.one (i := 12) (by kernel_rfl) rfl ?_
                      refine GO.extract rfl rfl rfl ?_
                      refine GO.nil ⟨rfl, _, _, rfl, ImpS.refl, ?_⟩
                      refine GW.one (i := 15) (by kernel_rfl) rfl ?_
                      refine GO.assign rfl rfl ?_
                      refine GO.nil ⟨rfl, _, _, rfl, ImpS.refl, ?_⟩
                      refine GW.nil ⟨K', Z', on, X', vr, b19, hw', hc', hk', hr', hone, hs', by (refine SubE.c rfl rfl ?_; refine SubE.c rfl rfl ?_; refine SubE.c rfl rfl ?_; refine SubE.c rfl rfl ?_; refine SubE.c rfl rfl ?_; refine SubE.c rfl rfl ?_; refine SubE.c rfl rfl ?_; exact SubE.n), ImpS.sb (by ((refine Sb.c (Tk.t (Tk.t (Tk.t (Tk.t Tk.h)))) ?_; refine Sb.c (Tk.t (Tk.t (Tk.t (Tk.t Tk.h)))) ?_; refine Sb.c (Tk.t (Tk.t (Tk.t (Tk.t Tk.h)))) ?_; refine Sb.c (Tk.t (Tk.t (Tk.t (Tk.t Tk.h)))) ?_; refine Sb.c (Tk.t (Tk.t (Tk.t (Tk.t Tk.h)))) ?_; refine Sb.c Tk.h ?_; refine Sb.c Tk.h ?_); (refine Sb.s ?_; refine Sb.s ?_; exact Sb.r)))⟩
                  · skip
                    refine GO.extract rfl rfl rfl ?_
                    refine GO.nil ⟨rfl, _, _, rfl, ImpS.refl, ?_⟩
                    refine GW.one (i := 11) (by kernel_rfl) rfl ?_
                    refine GO.extract rfl rfl rfl ?_
                    refine GO.nil ⟨rfl, _, _, rfl, ImpS.refl, ?_⟩
                    refine GW.one (i := 14) (by kernel_rfl) rfl ?_
                    refine GO.storeW rfl rfl (Tk.t (Tk.t (Tk.t (Tk.t Tk.h)))) ⟨rfl, rfl⟩ (by simp [Value.oneCell']; assumption) ?_
                    refine GO.nil ⟨rfl, .tuple #[], pt b19 (row [i64 (sideO on : Nat), vr] 30) :: K' :: Z' :: q :: K1 :: F, rfl, ImpS.sb (by ((refine Sb.c (Tk.t Tk.h) ?_; refine Sb.c (Tk.t Tk.h) ?_; refine Sb.c (Tk.t Tk.h) ?_; refine Sb.c (Tk.t Tk.h) ?_; refine Sb.c Tk.h ?_; refine Sb.c Tk.h ?_; refine Sb.c Tk.h ?_; refine Sb.c Tk.h ?_; refine Sb.c Tk.h ?_); (exact Sb.r))), ?_⟩
                    refine GW.one (i := 15) (by kernel_rfl) rfl ?_
                    refine GO.assign rfl rfl ?_
                    refine GO.nil ⟨rfl, _, _, rfl, ImpS.refl, ?_⟩
                    refine GW.nil ⟨K', Z', on, X', vr, b19, hw', hc', hk', hr', hone, hs', by (refine SubE.c rfl rfl ?_; refine SubE.c rfl rfl ?_; refine SubE.c rfl rfl ?_; refine SubE.c rfl rfl ?_; refine SubE.c rfl rfl ?_; refine SubE.c rfl rfl ?_; refine SubE.c rfl rfl ?_; exact SubE.n), ImpS.sb (by ((refine Sb.c (Tk.t (Tk.t (Tk.t (Tk.t Tk.h)))) ?_; refine Sb.c (Tk.t (Tk.t (Tk.t (Tk.t Tk.h)))) ?_; refine Sb.c (Tk.t (Tk.t (Tk.t (Tk.t Tk.h)))) ?_; refine Sb.c (Tk.t (Tk.t (Tk.t (Tk.t Tk.h)))) ?_; refine Sb.c (Tk.t (Tk.t (Tk.t (Tk.t Tk.h)))) ?_; refine Sb.c Tk.h ?_; refine Sb.c Tk.h ?_); (refine Sb.s ?_; refine Sb.s ?_; exact Sb.r)))⟩
              · rintro L' H' ⟨K', Z', on, X', vr, b19, hw', hc', hk', hr', hone, hs', hL', hH'⟩
                refine GO.keep hH' (GO.sub hL' Sb.r ?_)
                (refine GO.nil ?_; refine kthen_n ?_; refine G.seq ?_; refine G.seq ?_; refine G.region ?_; refine GO.move rfl rfl ?_; refine GO.not rfl rfl ?_; refine GO.nil ?_; refine kthen_n ?_; refine G.condF rfl rfl ?_; refine G.skip ?_; refine kthen_n ?_; refine G.region ?_; refine GO.move rfl rfl ?_; refine GO.loadW rfl rfl rfl Tk.h rfl ?_; refine GO.idxA (j := 0) rfl rfl rfl ⟨rfl, by decide⟩ ?_)
                refine GO.storeG (n := 2) (o := 0) (l := [i64 (sideO o0 : Nat), r0, i64 (sideO o1 : Nat), r1]) (vs := [i64 (sideO on : Nat), vr]) rfl rfl rfl rfl (Tk.t (Tk.t (Tk.t (Tk.t (Tk.t (Tk.t Tk.h)))))) (by simp) (by simp [Value.oneCell']; assumption) ?_
                (refine GO.nil ?_; refine kblock_n ?_; refine kblock_n ?_; refine kthen_n ?_; refine G.region ?_; refine GO.move rfl rfl ?_; refine GO.addi rfl rfl rfl (by omega) ?_; refine GO.assign rfl rfl ?_; refine GO.nil ?_; refine kthen_n ?_)
                refine ⟨⟨n + 1, K', K1, Z', v0, v1, on, o1, X', X1, vr, r1⟩, ⟨by show n + 1 ≤ l.length; omega, ⟨hk', hw', hc', hr'⟩, h1.sup hs'⟩, by dsimp only; omega, ?_, ImpS.sb ?_⟩
                · (refine SubE.c rfl rfl ?_; refine SubE.c rfl rfl ?_; refine SubE.c rfl rfl ?_; refine SubE.c rfl rfl ?_; exact SubE.n)
                · ((refine Sb.c (Tk.t (Tk.t Tk.h)) ?_; refine Sb.c (Tk.t (Tk.t (Tk.t (Tk.t Tk.h)))) ?_; refine Sb.c (Tk.t (Tk.t Tk.h)) ?_; refine Sb.c (Tk.t (Tk.t (Tk.t Tk.h))) ?_; refine Sb.c Tk.h ?_; refine Sb.c (Tk.t Tk.h) ?_); (refine Sb.s ?_; exact Sb.r))
            · rw [ha]
              have rd0 : Rd (pt b4 (row [i64 (sideO o0 : Nat), r0, i64 (sideO o1 : Nat), r1] 31)) ⟨b4, 2, none⟩ (i64 (sideO o1 : Nat)) := Rd.row rfl
              have rd1 : Rd (pt b4 (row [i64 (sideO o0 : Nat), r0, i64 (sideO o1 : Nat), r1] 31)) ⟨b4, 3, none⟩ (r1) := Rd.row rfl

              have hD := done_spec q hq K1 Z p1 v1 (refV (sideO o1) r1) (.pointer pm) (refV (sideO g) x1) o1 g h1.wf wg X1 h1.cl h1.kp h1.rf hz1 hp1 d a bb i j s (.slice au L.length cu) rfl
              (refine GO.move rfl rfl ?_; refine GO.extract rfl rfl rfl ?_; refine GO.extract rfl rfl rfl ?_; refine GO.alloc rfl fun b10 => ?_; refine GO.assign rfl rfl ?_; refine GO.storeW rfl rfl Tk.h ⟨rfl, rfl⟩ (by simp [Value.oneCell']; assumption) ?_; refine GO.nil ?_; refine kthen_n ?_; refine G.seq ?_; refine G.region ?_; refine GO.fieldAddr rfl rfl ?_; refine GO.load1 rfl rfl rfl (Tk.t (Tk.t (Tk.t (Tk.t Tk.h)))) rfl ?_; refine GO.nil ?_; refine kthen_n ?_; refine G.block ?_; refine G.seq ?_; refine G.region ?_; refine GO.eqi rfl rfl rfl ?_; refine GO.assign rfl rfl ?_; refine GO.nil ?_; refine kthen_n ?_; refine G.condF rfl (by assumption) ?_; refine G.seq ?_; refine G.region ?_; refine GO.eqi rfl rfl rfl ?_; refine GO.assign rfl rfl ?_; refine GO.nil ?_; refine kthen_n ?_; refine G.condF rfl (by assumption) ?_; refine G.seq ?_; refine G.region ?_; refine GO.eqi rfl rfl rfl ?_; refine GO.assign rfl rfl ?_; refine GO.nil ?_; refine kthen_n ?_; refine G.condF rfl (by assumption) ?_; refine G.seq ?_)
              refine G.drawW 16 65024 7 [pt b3 (row [v0, v1] 25), pt b4 (row [i64 (sideO o0 : Nat), r0, i64 (sideO o1 : Nat), r1] 31), pt b6 (row [i64 d, i64 a, i64 bb, i64 i, i64 j, i64 s, .slice au L.length cu] 34), pt b10 (row [i64 (sideO g : Nat), x1] 28)] (K1 :: Z :: p1 :: q :: K0 :: F)
                (fun L' H' => ∃ K' Z' on X' vr b19, WfM on ∧ CloR on X' ∧ KeepO K' v1 on X' ∧ RefO Z' (refV (sideO on) vr) on ∧ vr.oneCell' = true ∧ Sup Z Z' ∧ SubE [(0, .slice (some ⟨b0, oo, none⟩) l.length cap0), (3, ptrV b3), (4, ptrV b4), (5, i64 (n : Nat)), (7, i64 1), (19, ptrV b19), (20, .bool true)] L' ∧ ImpS H' (pt b19 (row [i64 (sideO on : Nat), vr] 30) :: K' :: Z' :: q :: K0 :: pt b3 (row [v0, v1] 25) :: pt b4 (row [i64 (sideO o0 : Nat), r0, i64 (sideO o1 : Nat), r1] 31) :: F)) (by kernel_rfl) (by kernel_rfl) (keys_of rfl) (ImpS.sb (by ((refine Sb.c (Tk.t (Tk.t (Tk.t (Tk.t (Tk.t (Tk.t (Tk.t Tk.h))))))) ?_; refine Sb.c (Tk.t (Tk.t (Tk.t (Tk.t (Tk.t (Tk.t (Tk.t Tk.h))))))) ?_; refine Sb.c (Tk.t (Tk.t (Tk.t (Tk.t Tk.h)))) ?_; refine Sb.c Tk.h ?_; refine Sb.c (Tk.t (Tk.t (Tk.t (Tk.t Tk.h)))) ?_; refine Sb.c Tk.h ?_; refine Sb.c Tk.h ?_; refine Sb.c Tk.h ?_; refine Sb.c Tk.h ?_); (exact Sb.r)))) ?_ ?_
              · ((apply GR.step rfl; focus (intro Z; refine GO.move rfl rfl ?_; exact KQ.z)); (apply GR.step rfl; focus (intro Z; refine GO.idxA (j := 1) rfl rfl rfl ⟨rfl, by decide⟩ ?_; exact KQ.z)); (apply GR.step rfl; focus (intro Z; refine GO.load1 rfl rfl rfl Tk.h rfl ?_; exact KQ.z)); (apply GR.step rfl; focus (intro Z; refine GO.move rfl rfl ?_; exact KQ.z)); (apply GR.step rfl; focus (intro Z; refine GO.idxA (j := 1) rfl rfl rfl ⟨rfl, by decide⟩ ?_; exact KQ.z)); (apply GR.step rfl; focus (intro Z; refine GO.load2 rfl rfl rfl (Tk.t Tk.h) (by assumption) (by assumption) ?_; exact KQ.z)); (apply GR.step rfl; focus (intro Z; refine GO.loadW rfl rfl rfl (Tk.t (Tk.t Tk.h)) rfl ?_; exact KQ.z)); (apply GR.step rfl; focus (intro Z; refine GO.move rfl rfl ?_; exact KQ.z)); (apply GR.step rfl; focus (intro Z; refine GO.loadW rfl rfl rfl (Tk.t (Tk.t (Tk.t Tk.h))) rfl ?_; exact KQ.z)); refine GR.skip rfl ?_; refine GR.skip rfl ?_; refine GR.skip rfl ?_; refine GR.skip rfl ?_; refine GR.skip rfl ?_; refine GR.skip rfl ?_; refine GR.skip rfl ?_; refine GR.nil ?_)
                refine GW.two (i1 := 9) (i2 := 13) (by kernel_rfl) rfl rfl ?_ ?_
                · skip
                  refine GO.call5 rfl rfl rfl rfl rfl rfl (hD) (Tks.c (Tk.t (Tk.t (Tk.t (Tk.t Tk.h)))) (Tks.c (Tk.t (Tk.t (Tk.t (Tk.t Tk.h)))) (Tks.c (Tk.t (Tk.t (Tk.t (Tk.t Tk.h)))) (Tks.c (Tk.t (Tk.t (Tk.t (Tk.t Tk.h)))) Tks.n)))) ?_
                  rintro _ _ ⟨rv, K', Z', on, X', rfl, hw', hc', hk', hr', hs', rfl⟩
                  obtain ⟨vr, rfl, hone⟩ := hr'.slR
                  refine GO.nil ⟨rfl, _, K' :: Z' :: q :: K0 :: F, rfl, ImpS.sb (by ((refine Sb.c (Tk.t (Tk.t (Tk.t Tk.h))) ?_; refine Sb.c (Tk.t (Tk.t (Tk.t Tk.h))) ?_; refine Sb.c (Tk.t (Tk.t (Tk.t Tk.h))) ?_; refine Sb.c (Tk.t (Tk.t (Tk.t Tk.h))) ?_; refine Sb.c Tk.h ?_; refine Sb.c Tk.h ?_; refine Sb.c Tk.h ?_; refine Sb.c Tk.h ?_); (exact Sb.r))), ?_⟩
                  refine GW.two (i1 := 10) (i2 := 13) (by kernel_rfl) rfl rfl ?_ ?_
                  · skip
                    refine GO.move rfl rfl ?_
                    refine GO.nil ⟨rfl, _, _, rfl, ImpS.refl, ?_⟩
                    refine GW.three (i1 := 11) (i2 := 12) (i3 := 13) (by kernel_rfl) rfl rfl rfl ?_ ?_ ?_
                    · skip
                      refine GO.extract rfl rfl rfl ?_
                      refine GO.nil ⟨rfl, _, _, rfl, ImpS.refl, ?_⟩
                      refine GW.two (i1 := 12) (i2 := 13) (by kernel_rfl) rfl rfl ?_ ?_
                      · skip
                        refine GO.extract rfl rfl rfl ?_
                        refine GO.nil ⟨rfl, _, _, rfl, ImpS.refl, ?_⟩
                        refine GW.one (i := 13) (by kernel_rfl) rfl ?_
                        refine GO.alloc rfl fun b19 => ?_
                        refine GO.nil ⟨rfl, _, pt b19 (row [i64 0, .slice none 0 0] 30) :: K' :: Z' :: q :: K0 :: F, rfl, ImpS.sb (by ((refine Sb.c (Tk.t Tk.h) ?_; refine Sb.c (Tk.t Tk.h) ?_; refine Sb.c (Tk.t Tk.h) ?_; refine Sb.c (Tk.t Tk.h) ?_; refine Sb.c Tk.h ?_; refine Sb.c Tk.h ?_; refine Sb.c Tk.h ?_; refine Sb.c Tk.h ?_; refine Sb.c Tk.h ?_); (exact Sb.r))), ?_⟩
                        refine GW.one (i := 14) (by kernel_rfl) rfl ?_
                        refine GO.storeW rfl rfl (Tk.t (Tk.t (Tk.t (Tk.t Tk.h)))) ⟨rfl, rfl⟩ (by simp [Value.oneCell']; assumption) ?_
                        refine GO.nil ⟨rfl, .tuple #[], pt b19 (row [i64 (sideO on : Nat), vr] 30) :: K' :: Z' :: q :: K0 :: F, rfl, ImpS.sb (by ((refine Sb.c (Tk.t Tk.h) ?_; refine Sb.c (Tk.t Tk.h) ?_; refine Sb.c (Tk.t Tk.h) ?_; refine Sb.c (Tk.t Tk.h) ?_; refine Sb.c Tk.h ?_; refine Sb.c Tk.h ?_; refine Sb.c Tk.h ?_; refine Sb.c Tk.h ?_; refine Sb.c Tk.h ?_); (exact Sb.r))), ?_⟩
                        refine GW.one (i := 15) (by kernel_rfl) rfl ?_
                        refine GO.assign rfl rfl ?_
                        refine GO.nil ⟨rfl, _, _, rfl, ImpS.refl, ?_⟩
                        refine GW.nil ⟨K', Z', on, X', vr, b19, hw', hc', hk', hr', hone, hs', by (refine SubE.c rfl rfl ?_; refine SubE.c rfl rfl ?_; refine SubE.c rfl rfl ?_; refine SubE.c rfl rfl ?_; refine SubE.c rfl rfl ?_; refine SubE.c rfl rfl ?_; refine SubE.c rfl rfl ?_; exact SubE.n), ImpS.sb (by ((refine Sb.c (Tk.t (Tk.t (Tk.t (Tk.t Tk.h)))) ?_; refine Sb.c (Tk.t (Tk.t (Tk.t (Tk.t Tk.h)))) ?_; refine Sb.c (Tk.t (Tk.t (Tk.t (Tk.t Tk.h)))) ?_; refine Sb.c (Tk.t (Tk.t (Tk.t (Tk.t Tk.h)))) ?_; refine Sb.c (Tk.t (Tk.t (Tk.t (Tk.t Tk.h)))) ?_; refine Sb.c Tk.h ?_; refine Sb.c Tk.h ?_); (refine Sb.s ?_; refine Sb.s ?_; exact Sb.r)))⟩
                      · skip
                        refine GO.alloc rfl fun b19 => ?_
                        refine GO.nil ⟨rfl, _, pt b19 (row [i64 0, .slice none 0 0] 30) :: K' :: Z' :: q :: K0 :: F, rfl, ImpS.sb (by ((refine Sb.c (Tk.t Tk.h) ?_; refine Sb.c (Tk.t Tk.h) ?_; refine Sb.c (Tk.t Tk.h) ?_; refine Sb.c (Tk.t Tk.h) ?_; refine Sb.c Tk.h ?_; refine Sb.c Tk.h ?_; refine Sb.c Tk.h ?_; refine Sb.c Tk.h ?_; refine Sb.c Tk.h ?_); (exact Sb.r))), ?_⟩
                        refine GW.two (i1 := 12) (i2 := 14) (by kernel_rfl) rfl rfl ?_ ?_
                        · skip
                          refine GO.extract rfl rfl rfl ?_
                          refine GO.nil ⟨rfl, _, _, rfl, ImpS.refl, ?_⟩
                          refine GW.one (i := 14) (by kernel_rfl) rfl ?_
                          refine GO.storeW rfl rfl (Tk.t (Tk.t (Tk.t (Tk.t Tk.h)))) ⟨rfl, rfl⟩ (by simp [Value.oneCell']; assumption) ?_
                          refine GO.nil ⟨rfl, .tuple #[], pt b19 (row [i64 (sideO on : Nat), vr] 30) :: K' :: Z' :: q :: K0 :: F, rfl, ImpS.sb (by ((refine Sb.c (Tk.t Tk.h) ?_; refine Sb.c (Tk.t Tk.h) ?_; refine Sb.c (Tk.t Tk.h) ?_; refine Sb.c (Tk.t Tk.h) ?_; refine Sb.c Tk.h ?_; refine Sb.c Tk.h ?_; refine Sb.c Tk.h ?_; refine Sb.c Tk.h ?_; refine Sb.c Tk.h ?_); (exact Sb.r))), ?_⟩
                          refine GW.one (i := 15) (by kernel_rfl) rfl ?_
                          refine GO.assign rfl rfl ?_
                          refine GO.nil ⟨rfl, _, _, rfl, ImpS.refl, ?_⟩
                          refine GW.nil ⟨K', Z', on, X', vr, b19, hw', hc', hk', hr', hone, hs', by (refine SubE.c rfl rfl ?_; refine SubE.c rfl rfl ?_; refine SubE.c rfl rfl ?_; refine SubE.c rfl rfl ?_; refine SubE.c rfl rfl ?_; refine SubE.c rfl rfl ?_; refine SubE.c rfl rfl ?_; exact SubE.n), ImpS.sb (by ((refine Sb.c (Tk.t (Tk.t (Tk.t (Tk.t Tk.h)))) ?_; refine Sb.c (Tk.t (Tk.t (Tk.t (Tk.t Tk.h)))) ?_; refine Sb.c (Tk.t (Tk.t (Tk.t (Tk.t Tk.h)))) ?_; refine Sb.c (Tk.t (Tk.t (Tk.t (Tk.t Tk.h)))) ?_; refine Sb.c (Tk.t (Tk.t (Tk.t (Tk.t Tk.h)))) ?_; refine Sb.c Tk.h ?_; refine Sb.c Tk.h ?_); (refine Sb.s ?_; refine Sb.s ?_; exact Sb.r)))⟩
                        · skip
                          refine GO.storeW rfl rfl (Tk.t (Tk.t (Tk.t (Tk.t Tk.h)))) ⟨rfl, rfl⟩ (by simp [Value.oneCell']; assumption) ?_
                          refine GO.nil ⟨rfl, .tuple #[], pt b19 (row [i64 (sideO on : Nat), vr] 30) :: K' :: Z' :: q :: K0 :: F, rfl, ImpS.sb (by ((refine Sb.c (Tk.t Tk.h) ?_; refine Sb.c (Tk.t Tk.h) ?_; refine Sb.c (Tk.t Tk.h) ?_; refine Sb.c (Tk.t Tk.h) ?_; refine Sb.c Tk.h ?_; refine Sb.c Tk.h ?_; refine Sb.c Tk.h ?_; refine Sb.c Tk.h ?_; refine Sb.c Tk.h ?_); (exact Sb.r))), ?_⟩
                          refine GW.one (i := 12) (by kernel_rfl) rfl ?_
                          refine GO.extract rfl rfl rfl ?_
                          refine GO.nil ⟨rfl, _, _, rfl, ImpS.refl, ?_⟩
                          refine GW.one (i := 15) (by kernel_rfl) rfl ?_
                          refine GO.assign rfl rfl ?_
                          refine GO.nil ⟨rfl, _, _, rfl, ImpS.refl, ?_⟩
                          refine GW.nil ⟨K', Z', on, X', vr, b19, hw', hc', hk', hr', hone, hs', by (refine SubE.c rfl rfl ?_; refine SubE.c rfl rfl ?_; refine SubE.c rfl rfl ?_; refine SubE.c rfl rfl ?_; refine SubE.c rfl rfl ?_; refine SubE.c rfl rfl ?_; refine SubE.c rfl rfl ?_; exact SubE.n), ImpS.sb (by ((refine Sb.c (Tk.t (Tk.t (Tk.t (Tk.t Tk.h)))) ?_; refine Sb.c (Tk.t (Tk.t (Tk.t (Tk.t Tk.h)))) ?_; refine Sb.c (Tk.t (Tk.t (Tk.t (Tk.t Tk.h)))) ?_; refine Sb.c (Tk.t (Tk.t (Tk.t (Tk.t Tk.h)))) ?_; refine Sb.c (Tk.t (Tk.t (Tk.t (Tk.t Tk.h)))) ?_; refine Sb.c Tk.h ?_; refine Sb.c Tk.h ?_); (refine Sb.s ?_; refine Sb.s ?_; exact Sb.r)))⟩
                    · skip
                      refine GO.extract rfl rfl rfl ?_
                      refine GO.nil ⟨rfl, _, _, rfl, ImpS.refl, ?_⟩
                      refine GW.two (i1 := 11) (i2 := 13) (by kernel_rfl) rfl rfl ?_ ?_
                      · skip
                        refine GO.extract rfl rfl rfl ?_
                        refine GO.nil ⟨rfl, _, _, rfl, ImpS.refl, ?_⟩
                        refine GW.one (i := 13) (by kernel_rfl) rfl ?_
                        refine GO.alloc rfl fun b19 => ?_
                        refine GO.nil ⟨rfl, _, pt b19 (row [i64 0, .slice none 0 0] 30) :: K' :: Z' :: q :: K0 :: F, rfl, ImpS.sb (by ((refine Sb.c (Tk.t Tk.h) ?_; refine Sb.c (Tk.t Tk.h) ?_; refine Sb.c (Tk.t Tk.h) ?_; refine Sb.c (Tk.t Tk.h) ?_; refine Sb.c Tk.h ?_; refine Sb.c Tk.h ?_; refine Sb.c Tk.h ?_; refine Sb.c Tk.h ?_; refine Sb.c Tk.h ?_); (exact Sb.r))), ?_⟩
                        refine GW.one (i := 14) (by kernel_rfl) rfl ?_
                        refine GO.storeW rfl rfl (Tk.t (Tk.t (Tk.t (Tk.t Tk.h)))) ⟨rfl, rfl⟩ (by simp [Value.oneCell']; assumption) ?_
                        refine GO.nil ⟨rfl, .tuple #[], pt b19 (row [i64 (sideO on : Nat), vr] 30) :: K' :: Z' :: q :: K0 :: F, rfl, ImpS.sb (by ((refine Sb.c (Tk.t Tk.h) ?_; refine Sb.c (Tk.t Tk.h) ?_; refine Sb.c (Tk.t Tk.h) ?_; refine Sb.c (Tk.t Tk.h) ?_; refine Sb.c Tk.h ?_; refine Sb.c Tk.h ?_; refine Sb.c Tk.h ?_; refine Sb.c Tk.h ?_; refine Sb.c Tk.h ?_); (exact Sb.r))), ?_⟩
                        refine GW.one (i := 15) (by kernel_rfl) rfl ?_
                        refine GO.assign rfl rfl ?_
                        refine GO.nil ⟨rfl, _, _, rfl, ImpS.refl, ?_⟩
                        refine GW.nil ⟨K', Z', on, X', vr, b19, hw', hc', hk', hr', hone, hs', by (refine SubE.c rfl rfl ?_; refine SubE.c rfl rfl ?_; refine SubE.c rfl rfl ?_; refine SubE.c rfl rfl ?_; refine SubE.c rfl rfl ?_; refine SubE.c rfl rfl ?_; refine SubE.c rfl rfl ?_; exact SubE.n), ImpS.sb (by ((refine Sb.c (Tk.t (Tk.t (Tk.t (Tk.t Tk.h)))) ?_; refine Sb.c (Tk.t (Tk.t (Tk.t (Tk.t Tk.h)))) ?_; refine Sb.c (Tk.t (Tk.t (Tk.t (Tk.t Tk.h)))) ?_; refine Sb.c (Tk.t (Tk.t (Tk.t (Tk.t Tk.h)))) ?_; refine Sb.c (Tk.t (Tk.t (Tk.t (Tk.t Tk.h)))) ?_; refine Sb.c Tk.h ?_; refine Sb.c Tk.h ?_); (refine Sb.s ?_; refine Sb.s ?_; exact Sb.r)))⟩
                      · skip
                        refine GO.alloc rfl fun b19 => ?_
                        refine GO.nil ⟨rfl, _, pt b19 (row [i64 0, .slice none 0 0] 30) :: K' :: Z' :: q :: K0 :: F, rfl, ImpS.sb (by ((refine Sb.c (Tk.t Tk.h) ?_; refine Sb.c (Tk.t Tk.h) ?_; refine Sb.c (Tk.t Tk.h) ?_; refine Sb.c (Tk.t Tk.h) ?_; refine Sb.c Tk.h ?_; refine Sb.c Tk.h ?_; refine Sb.c Tk.h ?_; refine Sb.c Tk.h ?_; refine Sb.c Tk.h ?_); (exact Sb.r))), ?_⟩
                        refine GW.one (i := 11) (by kernel_rfl) rfl ?_
                        refine GO.extract rfl rfl rfl ?_
                        refine GO.nil ⟨rfl, _, _, rfl, ImpS.refl, ?_⟩
                        refine GW.one (i := 14) (by kernel_rfl) rfl ?_
                        refine GO.storeW rfl rfl (Tk.t (Tk.t (Tk.t (Tk.t Tk.h)))) ⟨rfl, rfl⟩ (by simp [Value.oneCell']; assumption) ?_
                        refine GO.nil ⟨rfl, .tuple #[], pt b19 (row [i64 (sideO on : Nat), vr] 30) :: K' :: Z' :: q :: K0 :: F, rfl, ImpS.sb (by ((refine Sb.c (Tk.t Tk.h) ?_; refine Sb.c (Tk.t Tk.h) ?_; refine Sb.c (Tk.t Tk.h) ?_; refine Sb.c (Tk.t Tk.h) ?_; refine Sb.c Tk.h ?_; refine Sb.c Tk.h ?_; refine Sb.c Tk.h ?_; refine Sb.c Tk.h ?_; refine Sb.c Tk.h ?_); (exact Sb.r))), ?_⟩
                        refine GW.one (i := 15) (by kernel_rfl) rfl ?_
                        refine GO.assign rfl rfl ?_
                        refine GO.nil ⟨rfl, _, _, rfl, ImpS.refl, ?_⟩
                        refine GW.nil ⟨K', Z', on, X', vr, b19, hw', hc', hk', hr', hone, hs', by (refine SubE.c rfl rfl ?_; refine SubE.c rfl rfl ?_; refine SubE.c rfl rfl ?_; refine SubE.c rfl rfl ?_; refine SubE.c rfl rfl ?_; refine SubE.c rfl rfl ?_; refine SubE.c rfl rfl ?_; exact SubE.n), ImpS.sb (by ((refine Sb.c (Tk.t (Tk.t (Tk.t (Tk.t Tk.h)))) ?_; refine Sb.c (Tk.t (Tk.t (Tk.t (Tk.t Tk.h)))) ?_; refine Sb.c (Tk.t (Tk.t (Tk.t (Tk.t Tk.h)))) ?_; refine Sb.c (Tk.t (Tk.t (Tk.t (Tk.t Tk.h)))) ?_; refine Sb.c (Tk.t (Tk.t (Tk.t (Tk.t Tk.h)))) ?_; refine Sb.c Tk.h ?_; refine Sb.c Tk.h ?_); (refine Sb.s ?_; refine Sb.s ?_; exact Sb.r)))⟩
                    · skip
                      refine GO.alloc rfl fun b19 => ?_
                      refine GO.nil ⟨rfl, _, pt b19 (row [i64 0, .slice none 0 0] 30) :: K' :: Z' :: q :: K0 :: F, rfl, ImpS.sb (by ((refine Sb.c (Tk.t Tk.h) ?_; refine Sb.c (Tk.t Tk.h) ?_; refine Sb.c (Tk.t Tk.h) ?_; refine Sb.c (Tk.t Tk.h) ?_; refine Sb.c Tk.h ?_; refine Sb.c Tk.h ?_; refine Sb.c Tk.h ?_; refine Sb.c Tk.h ?_; refine Sb.c Tk.h ?_); (exact Sb.r))), ?_⟩
                      refine GW.two (i1 := 11) (i2 := 12) (by kernel_rfl) rfl rfl ?_ ?_
                      · skip
                        refine GO.extract rfl rfl rfl ?_
                        refine GO.nil ⟨rfl, _, _, rfl, ImpS.refl, ?_⟩
                        refine GW.two (i1 := 12) (i2 := 14) (by kernel_rfl) rfl rfl ?_ ?_
                        · skip
                          refine GO.extract rfl rfl rfl ?_
                          refine GO.nil ⟨rfl, _, _, rfl, ImpS.refl, ?_⟩
                          refine GW.one (i := 14) (by kernel_rfl) rfl ?_
                          refine GO.storeW rfl rfl (Tk.t (Tk.t (Tk.t (Tk.t Tk.h)))) ⟨rfl, rfl⟩ (by simp [Value.oneCell']; assumption) ?_
                          refine GO.nil ⟨rfl, .tuple #[], pt b19 (row [i64 (sideO on : Nat), vr] 30) :: K' :: Z' :: q :: K0 :: F, rfl, ImpS.sb (by ((refine Sb.c (Tk.t Tk.h) ?_; refine Sb.c (Tk.t Tk.h) ?_; refine Sb.c (Tk.t Tk.h) ?_; refine Sb.c (Tk.t Tk.h) ?_; refine Sb.c Tk.h ?_; refine Sb.c Tk.h ?_; refine Sb.c Tk.h ?_; refine Sb.c Tk.h ?_; refine Sb.c Tk.h ?_); (exact Sb.r))), ?_⟩
                          refine GW.one (i := 15) (by kernel_rfl) rfl ?_
                          refine GO.assign rfl rfl ?_
                          refine GO.nil ⟨rfl, _, _, rfl, ImpS.refl, ?_⟩
                          refine GW.nil ⟨K', Z', on, X', vr, b19, hw', hc', hk', hr', hone, hs', by (refine SubE.c rfl rfl ?_; refine SubE.c rfl rfl ?_; refine SubE.c rfl rfl ?_; refine SubE.c rfl rfl ?_; refine SubE.c rfl rfl ?_; refine SubE.c rfl rfl ?_; refine SubE.c rfl rfl ?_; exact SubE.n), ImpS.sb (by ((refine Sb.c (Tk.t (Tk.t (Tk.t (Tk.t Tk.h)))) ?_; refine Sb.c (Tk.t (Tk.t (Tk.t (Tk.t Tk.h)))) ?_; refine Sb.c (Tk.t (Tk.t (Tk.t (Tk.t Tk.h)))) ?_; refine Sb.c (Tk.t (Tk.t (Tk.t (Tk.t Tk.h)))) ?_; refine Sb.c (Tk.t (Tk.t (Tk.t (Tk.t Tk.h)))) ?_; refine Sb.c Tk.h ?_; refine Sb.c Tk.h ?_); (refine Sb.s ?_; refine Sb.s ?_; exact Sb.r)))⟩
                        · skip
                          refine GO.storeW rfl rfl (Tk.t (Tk.t (Tk.t (Tk.t Tk.h)))) ⟨rfl, rfl⟩ (by simp [Value.oneCell']; assumption) ?_
                          refine GO.nil ⟨rfl, .tuple #[], pt b19 (row [i64 (sideO on : Nat), vr] 30) :: K' :: Z' :: q :: K0 :: F, rfl, ImpS.sb (by ((refine Sb.c (Tk.t Tk.h) ?_; refine Sb.c (Tk.t Tk.h) ?_; refine Sb.c (Tk.t Tk.h) ?_; refine Sb.c (Tk.t Tk.h) ?_; refine Sb.c Tk.h ?_; refine Sb.c Tk.h ?_; refine Sb.c Tk.h ?_; refine Sb.c Tk.h ?_; refine Sb.c Tk.h ?_); (exact Sb.r))), ?_⟩
                          refine GW.one (i := 12) (by kernel_rfl) rfl ?_
                          refine GO.extract rfl rfl rfl ?_
                          refine GO.nil ⟨rfl, _, _, rfl, ImpS.refl, ?_⟩
                          refine GW.one (i := 15) (by kernel_rfl) rfl ?_
                          refine GO.assign rfl rfl ?_
                          refine GO.nil ⟨rfl, _, _, rfl, ImpS.refl, ?_⟩
                          refine GW.nil ⟨K', Z', on, X', vr, b19, hw', hc', hk', hr', hone, hs', by (refine SubE.c rfl rfl ?_; refine SubE.c rfl rfl ?_; refine SubE.c rfl rfl ?_; refine SubE.c rfl rfl ?_; refine SubE.c rfl rfl ?_; refine SubE.c rfl rfl ?_; refine SubE.c rfl rfl ?_; exact SubE.n), ImpS.sb (by ((refine Sb.c (Tk.t (Tk.t (Tk.t (Tk.t Tk.h)))) ?_; refine Sb.c (Tk.t (Tk.t (Tk.t (Tk.t Tk.h)))) ?_; refine Sb.c (Tk.t (Tk.t (Tk.t (Tk.t Tk.h)))) ?_; refine Sb.c (Tk.t (Tk.t (Tk.t (Tk.t Tk.h)))) ?_; refine Sb.c (Tk.t (Tk.t (Tk.t (Tk.t Tk.h)))) ?_; refine Sb.c Tk.h ?_; refine Sb.c Tk.h ?_); (refine Sb.s ?_; refine Sb.s ?_; exact Sb.r)))⟩
                      · skip
                        refine GO.extract rfl rfl rfl ?_
                        refine GO.nil ⟨rfl, _, _, rfl, ImpS.refl, ?_⟩
                        refine GW.one (i := 11) (by kernel_rfl) rfl ?_
                        refine GO.extract rfl rfl rfl ?_
                        refine GO.nil ⟨rfl, _, _, rfl, ImpS.refl, ?_⟩
                        refine GW.one (i := 14) (by kernel_rfl) rfl ?_
                        refine GO.storeW rfl rfl (Tk.t (Tk.t (Tk.t (Tk.t Tk.h)))) ⟨rfl, rfl⟩ (by simp [Value.oneCell']; assumption) ?_
                        refine GO.nil ⟨rfl, .tuple #[], pt b19 (row [i64 (sideO on : Nat), vr] 30) :: K' :: Z' :: q :: K0 :: F, rfl, ImpS.sb (by ((refine Sb.c (Tk.t Tk.h) ?_; refine Sb.c (Tk.t Tk.h) ?_; refine Sb.c (Tk.t Tk.h) ?_; refine Sb.c (Tk.t Tk.h) ?_; refine Sb.c Tk.h ?_; refine Sb.c Tk.h ?_; refine Sb.c Tk.h ?_; refine Sb.c Tk.h ?_; refine Sb.c Tk.h ?_); (exact Sb.r))), ?_⟩
                        refine GW.one (i := 15) (by kernel_rfl) rfl ?_
                        refine GO.assign rfl rfl ?_
                        refine GO.nil ⟨rfl, _, _, rfl, ImpS.refl, ?_⟩
                        refine GW.nil ⟨K', Z', on, X', vr, b19, hw', hc', hk', hr', hone, hs', by (refine SubE.c rfl rfl ?_; refine SubE.c rfl rfl ?_; refine SubE.c rfl rfl ?_; refine SubE.c rfl rfl ?_; refine SubE.c rfl rfl ?_; refine SubE.c rfl rfl ?_; refine SubE.c rfl rfl ?_; exact SubE.n), ImpS.sb (by ((refine Sb.c (Tk.t (Tk.t (Tk.t (Tk.t Tk.h)))) ?_; refine Sb.c (Tk.t (Tk.t (Tk.t (Tk.t Tk.h)))) ?_; refine Sb.c (Tk.t (Tk.t (Tk.t (Tk.t Tk.h)))) ?_; refine Sb.c (Tk.t (Tk.t (Tk.t (Tk.t Tk.h)))) ?_; refine Sb.c (Tk.t (Tk.t (Tk.t (Tk.t Tk.h)))) ?_; refine Sb.c Tk.h ?_; refine Sb.c Tk.h ?_); (refine Sb.s ?_; refine Sb.s ?_; exact Sb.r)))⟩
                  · skip
                    refine GO.alloc rfl fun b19 => ?_
                    refine GO.nil ⟨rfl, _, pt b19 (row [i64 0, .slice none 0 0] 30) :: K' :: Z' :: q :: K0 :: F, rfl, ImpS.sb (by ((refine Sb.c (Tk.t Tk.h) ?_; refine Sb.c (Tk.t Tk.h) ?_; refine Sb.c (Tk.t Tk.h) ?_; refine Sb.c (Tk.t Tk.h) ?_; refine Sb.c Tk.h ?_; refine Sb.c Tk.h ?_; refine Sb.c Tk.h ?_; refine Sb.c Tk.h ?_; refine Sb.c Tk.h ?_); (exact Sb.r))), ?_⟩
                    refine GW.one (i := 10) (by kernel_rfl) rfl ?_
                    refine GO.move rfl rfl ?_
                    refine GO.nil ⟨rfl, _, _, rfl, ImpS.refl, ?_⟩
                    refine GW.two (i1 := 11) (i2 := 12) (by kernel_rfl) rfl rfl ?_ ?_
                    · skip
                      refine GO.extract rfl rfl rfl ?_
                      refine GO.nil ⟨rfl, _, _, rfl, ImpS.refl, ?_⟩
                      refine GW.two (i1 := 12) (i2 := 14) (by kernel_rfl) rfl rfl ?_ ?_
                      · skip
                        refine GO.extract rfl rfl rfl ?_
                        refine GO.nil ⟨rfl, _, _, rfl, ImpS.refl, ?_⟩
                        refine GW.one (i := 14) (by kernel_rfl) rfl ?_
                        refine GO.storeW rfl rfl (Tk.t (Tk.t (Tk.t (Tk.t Tk.h)))) ⟨rfl, rfl⟩ (by simp [Value.oneCell']; assumption) ?_
                        refine GO.nil ⟨rfl, .tuple #[], pt b19 (row [i64 (sideO on : Nat), vr] 30) :: K' :: Z' :: q :: K0 :: F, rfl, ImpS.sb (by ((refine Sb.c (Tk.t Tk.h) ?_; refine Sb.c (Tk.t Tk.h) ?_; refine Sb.c (Tk.t Tk.h) ?_; refine Sb.c (Tk.t Tk.h) ?_; refine Sb.c Tk.h ?_; refine Sb.c Tk.h ?_; refine Sb.c Tk.h ?_; refine Sb.c Tk.h ?_; refine Sb.c Tk.h ?_); (exact Sb.r))), ?_⟩
                        refine GW.one (i := 15) (by kernel_rfl) rfl ?_
                        refine GO.assign rfl rfl ?_
                        refine GO.nil ⟨rfl, _, _, rfl, ImpS.refl, ?_⟩
                        refine GW.nil ⟨K', Z', on, X', vr, b19, hw', hc', hk', hr', hone, hs', by (refine SubE.c rfl rfl ?_; refine SubE.c rfl rfl ?_; refine SubE.c rfl rfl ?_; refine SubE.c rfl rfl ?_; refine SubE.c rfl rfl ?_; refine SubE.c rfl rfl ?_; refine SubE.c rfl rfl ?_; exact SubE.n), ImpS.sb (by ((refine Sb.c (Tk.t (Tk.t (Tk.t (Tk.t Tk.h)))) ?_; refine Sb.c (Tk.t (Tk.t (Tk.t (Tk.t Tk.h)))) ?_; refine Sb.c (Tk.t (Tk.t (Tk.t (Tk.t Tk.h)))) ?_; refine Sb.c (Tk.t (Tk.t (Tk.t (Tk.t Tk.h)))) ?_; refine Sb.c (Tk.t (Tk.t (Tk.t (Tk.t Tk.h)))) ?_; refine Sb.c Tk.h ?_; refine Sb.c Tk.h ?_); (refine Sb.s ?_; refine Sb.s ?_; exact Sb.r)))⟩
                      · skip
                        refine GO.storeW rfl rfl (Tk.t (Tk.t (Tk.t (Tk.t Tk.h)))) ⟨rfl, rfl⟩ (by simp [Value.oneCell']; assumption) ?_
                        refine GO.nil ⟨rfl, .tuple #[], pt b19 (row [i64 (sideO on : Nat), vr] 30) :: K' :: Z' :: q :: K0 :: F, rfl, ImpS.sb (by ((refine Sb.c (Tk.t Tk.h) ?_; refine Sb.c (Tk.t Tk.h) ?_; refine Sb.c (Tk.t Tk.h) ?_; refine Sb.c (Tk.t Tk.h) ?_; refine Sb.c Tk.h ?_; refine Sb.c Tk.h ?_; refine Sb.c Tk.h ?_; refine Sb.c Tk.h ?_; refine Sb.c Tk.h ?_); (exact Sb.r))), ?_⟩
                        refine GW.one (i := 12) (by kernel_rfl) rfl ?_
                        refine GO.extract rfl rfl rfl ?_
                        refine GO.nil ⟨rfl, _, _, rfl, ImpS.refl, ?_⟩
                        refine GW.one (i := 15) (by kernel_rfl) rfl ?_
                        refine GO.assign rfl rfl ?_
                        refine GO.nil ⟨rfl, _, _, rfl, ImpS.refl, ?_⟩
                        refine GW.nil ⟨K', Z', on, X', vr, b19, hw', hc', hk', hr', hone, hs', by (refine SubE.c rfl rfl ?_; refine SubE.c rfl rfl ?_; refine SubE.c rfl rfl ?_; refine SubE.c rfl rfl ?_; refine SubE.c rfl rfl ?_; refine SubE.c rfl rfl ?_; refine SubE.c rfl rfl ?_; exact SubE.n), ImpS.sb (by ((refine Sb.c (Tk.t (Tk.t (Tk.t (Tk.t Tk.h)))) ?_; refine Sb.c (Tk.t (Tk.t (Tk.t (Tk.t Tk.h)))) ?_; refine Sb.c (Tk.t (Tk.t (Tk.t (Tk.t Tk.h)))) ?_; refine Sb.c (Tk.t (Tk.t (Tk.t (Tk.t Tk.h)))) ?_; refine Sb.c (Tk.t (Tk.t (Tk.t (Tk.t Tk.h)))) ?_; refine Sb.c Tk.h ?_; refine Sb.c Tk.h ?_); (refine Sb.s ?_; refine Sb.s ?_; exact Sb.r)))⟩
                    · skip
                      refine GO.extract rfl rfl rfl ?_
                      refine GO.nil ⟨rfl, _, _, rfl, ImpS.refl, ?_⟩
                      refine GW.one (i := 11) (by kernel_rfl) rfl ?_
                      refine GO.extract rfl rfl rfl ?_
                      refine GO.nil ⟨rfl, _, _, rfl, ImpS.refl, ?_⟩
                      refine GW.one (i := 14) (by kernel_rfl) rfl ?_
                      refine GO.storeW rfl rfl (Tk.t (Tk.t (Tk.t (Tk.t Tk.h)))) ⟨rfl, rfl⟩ (by simp [Value.oneCell']; assumption) ?_
                      refine GO.nil ⟨rfl, .tuple #[], pt b19 (row [i64 (sideO on : Nat), vr] 30) :: K' :: Z' :: q :: K0 :: F, rfl, ImpS.sb (by ((refine Sb.c (Tk.t Tk.h) ?_; refine Sb.c (Tk.t Tk.h) ?_; refine Sb.c (Tk.t Tk.h) ?_; refine Sb.c (Tk.t Tk.h) ?_; refine Sb.c Tk.h ?_; refine Sb.c Tk.h ?_; refine Sb.c Tk.h ?_; refine Sb.c Tk.h ?_; refine Sb.c Tk.h ?_); (exact Sb.r))), ?_⟩
                      refine GW.one (i := 15) (by kernel_rfl) rfl ?_
                      refine GO.assign rfl rfl ?_
                      refine GO.nil ⟨rfl, _, _, rfl, ImpS.refl, ?_⟩
                      refine GW.nil ⟨K', Z', on, X', vr, b19, hw', hc', hk', hr', hone, hs', by (refine SubE.c rfl rfl ?_; refine SubE.c rfl rfl ?_; refine SubE.c rfl rfl ?_; refine SubE.c rfl rfl ?_; refine SubE.c rfl rfl ?_; refine SubE.c rfl rfl ?_; refine SubE.c rfl rfl ?_; exact SubE.n), ImpS.sb (by ((refine Sb.c (Tk.t (Tk.t (Tk.t (Tk.t Tk.h)))) ?_; refine Sb.c (Tk.t (Tk.t (Tk.t (Tk.t Tk.h)))) ?_; refine Sb.c (Tk.t (Tk.t (Tk.t (Tk.t Tk.h)))) ?_; refine Sb.c (Tk.t (Tk.t (Tk.t (Tk.t Tk.h)))) ?_; refine Sb.c (Tk.t (Tk.t (Tk.t (Tk.t Tk.h)))) ?_; refine Sb.c Tk.h ?_; refine Sb.c Tk.h ?_); (refine Sb.s ?_; refine Sb.s ?_; exact Sb.r)))⟩
                · skip
                  refine GO.alloc rfl fun b19 => ?_
                  refine GO.nil ⟨rfl, _, pt b19 (row [i64 0, .slice none 0 0] 30) :: K1 :: Z :: p1 :: q :: K0 :: F, rfl, ImpS.sb (by ((refine Sb.c (Tk.t Tk.h) ?_; refine Sb.c (Tk.t Tk.h) ?_; refine Sb.c (Tk.t Tk.h) ?_; refine Sb.c (Tk.t Tk.h) ?_; refine Sb.c Tk.h ?_; refine Sb.c Tk.h ?_; refine Sb.c Tk.h ?_; refine Sb.c Tk.h ?_; refine Sb.c Tk.h ?_; refine Sb.c Tk.h ?_); (exact Sb.r))), ?_⟩
                  refine GW.one (i := 9) (by kernel_rfl) rfl ?_
                  refine GO.call5 rfl rfl rfl rfl rfl rfl (hD) (Tks.c (Tk.t (Tk.t (Tk.t (Tk.t (Tk.t Tk.h))))) (Tks.c (Tk.t (Tk.t (Tk.t (Tk.t (Tk.t Tk.h))))) (Tks.c (Tk.t (Tk.t (Tk.t (Tk.t (Tk.t Tk.h))))) (Tks.c (Tk.t (Tk.t (Tk.t (Tk.t (Tk.t Tk.h))))) Tks.n)))) ?_
                  rintro _ _ ⟨rv, K', Z', on, X', rfl, hw', hc', hk', hr', hs', rfl⟩
                  obtain ⟨vr, rfl, hone⟩ := hr'.slR
                  refine GO.nil ⟨rfl, _, pt b19 (row [i64 0, .slice none 0 0] 30) :: K' :: Z' :: q :: K0 :: F, rfl, ImpS.sb (by ((refine Sb.c (Tk.t (Tk.t (Tk.t Tk.h))) ?_; refine Sb.c (Tk.t (Tk.t (Tk.t Tk.h))) ?_; refine Sb.c (Tk.t (Tk.t (Tk.t Tk.h))) ?_; refine Sb.c (Tk.t (Tk.t (Tk.t Tk.h))) ?_; refine Sb.c (Tk.t (Tk.t (Tk.t Tk.h))) ?_; refine Sb.c Tk.h ?_; refine Sb.c Tk.h ?_; refine Sb.c Tk.h ?_; refine Sb.c Tk.h ?_); (exact Sb.r))), ?_⟩
                  refine GW.one (i := 10) (by kernel_rfl) rfl ?_
                  refine GO.move rfl rfl ?_
                  refine GO.nil ⟨rfl, _, _, rfl, ImpS.refl, ?_⟩
                  refine GW.two (i1 := 11) (i2 := 12) (by kernel_rfl) rfl rfl ?_ ?_
                  · skip
                    refine GO.extract rfl rfl rfl ?_
                    refine GO.nil ⟨rfl, _, _, rfl, ImpS.refl, ?_⟩
                    refine GW.two (i1 := 12) (i2 := 14) (by kernel_rfl) rfl rfl ?_ ?_
                    · skip
                      refine GO.extract rfl rfl rfl ?_
                      refine GO.nil ⟨rfl, _, _, rfl, ImpS.refl, ?_⟩
                      refine GW.one (i := 14) (by kernel_rfl) rfl ?_
                      refine GO.storeW rfl rfl (Tk.t (Tk.t (Tk.t (Tk.t Tk.h)))) ⟨rfl, rfl⟩ (by simp [Value.oneCell']; assumption) ?_
                      refine GO.nil ⟨rfl, .tuple #[], pt b19 (row [i64 (sideO on : Nat), vr] 30) :: K' :: Z' :: q :: K0 :: F, rfl, ImpS.sb (by ((refine Sb.c (Tk.t Tk.h) ?_; refine Sb.c (Tk.t Tk.h) ?_; refine Sb.c (Tk.t Tk.h) ?_; refine Sb.c (Tk.t Tk.h) ?_; refine Sb.c Tk.h ?_; refine Sb.c Tk.h ?_; refine Sb.c Tk.h ?_; refine Sb.c Tk.h ?_; refine Sb.c Tk.h ?_); (exact Sb.r))), ?_⟩
                      refine GW.one (i := 15) (by kernel_rfl) rfl ?_
                      refine GO.assign rfl rfl ?_
                      refine GO.nil ⟨rfl, _, _, rfl, ImpS.refl, ?_⟩
                      refine GW.nil ⟨K', Z', on, X', vr, b19, hw', hc', hk', hr', hone, hs', by (refine SubE.c rfl rfl ?_; refine SubE.c rfl rfl ?_; refine SubE.c rfl rfl ?_; refine SubE.c rfl rfl ?_; refine SubE.c rfl rfl ?_; refine SubE.c rfl rfl ?_; refine SubE.c rfl rfl ?_; exact SubE.n), ImpS.sb (by ((refine Sb.c (Tk.t (Tk.t (Tk.t (Tk.t Tk.h)))) ?_; refine Sb.c (Tk.t (Tk.t (Tk.t (Tk.t Tk.h)))) ?_; refine Sb.c (Tk.t (Tk.t (Tk.t (Tk.t Tk.h)))) ?_; refine Sb.c (Tk.t (Tk.t (Tk.t (Tk.t Tk.h)))) ?_; refine Sb.c (Tk.t (Tk.t (Tk.t (Tk.t Tk.h)))) ?_; refine Sb.c Tk.h ?_; refine Sb.c Tk.h ?_); (refine Sb.s ?_; refine Sb.s ?_; exact Sb.r)))⟩
                    · skip
                      refine GO.storeW rfl rfl (Tk.t (Tk.t (Tk.t (Tk.t Tk.h)))) ⟨rfl, rfl⟩ (by simp [Value.oneCell']; assumption) ?_
                      refine GO.nil ⟨rfl, .tuple #[], pt b19 (row [i64 (sideO on : Nat), vr] 30) :: K' :: Z' :: q :: K0 :: F, rfl, ImpS.sb (by ((refine Sb.c (Tk.t Tk.h) ?_; refine Sb.c (Tk.t Tk.h) ?_; refine Sb.c (Tk.t Tk.h) ?_; refine Sb.c (Tk.t Tk.h) ?_; refine Sb.c Tk.h ?_; refine Sb.c Tk.h ?_; refine Sb.c Tk.h ?_; refine Sb.c Tk.h ?_; refine Sb.c Tk.h ?_); (exact Sb.r))), ?_⟩
                      refine GW.one (i := 12) (by kernel_rfl) rfl ?_
                      refine GO.extract rfl rfl rfl ?_
                      refine GO.nil ⟨rfl, _, _, rfl, ImpS.refl, ?_⟩
                      refine GW.one (i := 15) (by kernel_rfl) rfl ?_
                      refine GO.assign rfl rfl ?_
                      refine GO.nil ⟨rfl, _, _, rfl, ImpS.refl, ?_⟩
                      refine GW.nil ⟨K', Z', on, X', vr, b19, hw', hc', hk', hr', hone, hs', by (refine SubE.c rfl rfl ?_; refine SubE.c rfl rfl ?_; refine SubE.c rfl rfl ?_; refine SubE.c rfl rfl ?_; refine SubE.c rfl rfl ?_; refine SubE.c rfl rfl ?_; refine SubE.c rfl rfl ?_; exact SubE.n), ImpS.sb (by ((refine Sb.c (Tk.t (Tk.t (Tk.t (Tk.t Tk.h)))) ?_; refine Sb.c (Tk.t (Tk.t (Tk.t (Tk.t Tk.h)))) ?_; refine Sb.c (Tk.t (Tk.t (Tk.t (Tk.t Tk.h)))) ?_; refine Sb.c (Tk.t (Tk.t (Tk.t (Tk.t Tk.h)))) ?_; refine Sb.c (Tk.t (Tk.t (Tk.t (Tk.t Tk.h)))) ?_; refine Sb.c Tk.h ?_; refine Sb.c Tk.h ?_); (refine Sb.s ?_; refine Sb.s ?_; exact Sb.r)))⟩
                  · skip
                    refine GO.extract rfl rfl rfl ?_
                    refine GO.nil ⟨rfl, _, _, rfl, ImpS.refl, ?_⟩
                    refine GW.one (i := 11) (by kernel_rfl) rfl ?_
                    refine GO.extract rfl rfl rfl ?_
                    refine GO.nil ⟨rfl, _, _, rfl, ImpS.refl, ?_⟩
                    refine GW.one (i := 14) (by kernel_rfl) rfl ?_
                    refine GO.storeW rfl rfl (Tk.t (Tk.t (Tk.t (Tk.t Tk.h)))) ⟨rfl, rfl⟩ (by simp [Value.oneCell']; assumption) ?_
                    refine GO.nil ⟨rfl, .tuple #[], pt b19 (row [i64 (sideO on : Nat), vr] 30) :: K' :: Z' :: q :: K0 :: F, rfl, ImpS.sb (by ((refine Sb.c (Tk.t Tk.h) ?_; refine Sb.c (Tk.t Tk.h) ?_; refine Sb.c (Tk.t Tk.h) ?_; refine Sb.c (Tk.t Tk.h) ?_; refine Sb.c Tk.h ?_; refine Sb.c Tk.h ?_; refine Sb.c Tk.h ?_; refine Sb.c Tk.h ?_; refine Sb.c Tk.h ?_); (exact Sb.r))), ?_⟩
                    refine GW.one (i := 15) (by kernel_rfl) rfl ?_
                    refine GO.assign rfl rfl ?_
                    refine GO.nil ⟨rfl, _, _, rfl, ImpS.refl, ?_⟩
                    refine GW.nil ⟨K', Z', on, X', vr, b19, hw', hc', hk', hr', hone, hs', by (refine SubE.c rfl rfl ?_; refine SubE.c rfl rfl ?_; refine SubE.c rfl rfl ?_; refine SubE.c rfl rfl ?_; refine SubE.c rfl rfl ?_; refine SubE.c rfl rfl ?_; refine SubE.c rfl rfl ?_; exact SubE.n), ImpS.sb (by ((refine Sb.c (Tk.t (Tk.t (Tk.t (Tk.t Tk.h)))) ?_; refine Sb.c (Tk.t (Tk.t (Tk.t (Tk.t Tk.h)))) ?_; refine Sb.c (Tk.t (Tk.t (Tk.t (Tk.t Tk.h)))) ?_; refine Sb.c (Tk.t (Tk.t (Tk.t (Tk.t Tk.h)))) ?_; refine Sb.c (Tk.t (Tk.t (Tk.t (Tk.t Tk.h)))) ?_; refine Sb.c Tk.h ?_; refine Sb.c Tk.h ?_); (refine Sb.s ?_; refine Sb.s ?_; exact Sb.r)))⟩
              · rintro L' H' ⟨K', Z', on, X', vr, b19, hw', hc', hk', hr', hone, hs', hL', hH'⟩
                refine GO.keep hH' (GO.sub hL' Sb.r ?_)
                (refine GO.nil ?_; refine kthen_n ?_; refine G.seq ?_; refine G.seq ?_; refine G.region ?_; refine GO.move rfl rfl ?_; refine GO.not rfl rfl ?_; refine GO.nil ?_; refine kthen_n ?_; refine G.condF rfl rfl ?_; refine G.skip ?_; refine kthen_n ?_; refine G.region ?_; refine GO.move rfl rfl ?_; refine GO.loadW rfl rfl rfl Tk.h rfl ?_; refine GO.idxA (j := 1) rfl rfl rfl ⟨rfl, by decide⟩ ?_)
                refine GO.storeG (n := 2) (o := 2) (l := [i64 (sideO o0 : Nat), r0, i64 (sideO o1 : Nat), r1]) (vs := [i64 (sideO on : Nat), vr]) rfl rfl rfl rfl (Tk.t (Tk.t (Tk.t (Tk.t (Tk.t (Tk.t Tk.h)))))) (by simp) (by simp [Value.oneCell']; assumption) ?_
                (refine GO.nil ?_; refine kblock_n ?_; refine kblock_n ?_; refine kthen_n ?_; refine G.region ?_; refine GO.move rfl rfl ?_; refine GO.addi rfl rfl rfl (by omega) ?_; refine GO.assign rfl rfl ?_; refine GO.nil ?_; refine kthen_n ?_)
                refine ⟨⟨n + 1, K0, K', Z', v0, v1, o0, on, X0, X', r0, vr⟩, ⟨by show n + 1 ≤ l.length; omega, h0.sup hs', ⟨hk', hw', hc', hr'⟩⟩, by dsimp only; omega, ?_, ImpS.sb ?_⟩
                · (refine SubE.c rfl rfl ?_; refine SubE.c rfl rfl ?_; refine SubE.c rfl rfl ?_; refine SubE.c rfl rfl ?_; exact SubE.n)
                · ((refine Sb.c (Tk.t (Tk.t (Tk.t (Tk.t (Tk.t Tk.h))))) ?_; refine Sb.c (Tk.t (Tk.t Tk.h)) ?_; refine Sb.c (Tk.t (Tk.t Tk.h)) ?_; refine Sb.c (Tk.t (Tk.t (Tk.t Tk.h))) ?_; refine Sb.c Tk.h ?_; refine Sb.c (Tk.t Tk.h) ?_); (refine Sb.s ?_; exact Sb.r))
  · have hA := look_spec q hq K0 Z v0 (refV (sideO o0) r0) o0 h0.wf X0 h0.cl h0.kp h0.rf
    have g0 : Rd (pt b4 (row [i64 (sideO o0 : Nat), r0, i64 (sideO o1 : Nat), r1] 31)) ⟨b4, 0 + 0 * 2, none⟩ (i64 (sideO o0 : Nat)) := Rd.row rfl
    have g1 : Rd (pt b4 (row [i64 (sideO o0 : Nat), r0, i64 (sideO o1 : Nat), r1] 31)) ⟨b4, 0 + 0 * 2 + 1, none⟩ r0 := Rd.row rfl
    have g2 : Rd (pt b4 (row [i64 (sideO o0 : Nat), r0, i64 (sideO o1 : Nat), r1] 31)) ⟨b4, 0 + 1 * 2, none⟩ (i64 (sideO o1 : Nat)) := Rd.row rfl
    have g3 : Rd (pt b4 (row [i64 (sideO o0 : Nat), r0, i64 (sideO o1 : Nat), r1] 31)) ⟨b4, 0 + 1 * 2 + 1, none⟩ r1 := Rd.row rfl
    (refine G.exit ?_; refine kthen_x ?_; refine kthen_x ?_; refine kblock_x ?_; refine kthen_n ?_; refine G.seq ?_; refine G.region ?_; refine GO.idxA (j := 0) rfl rfl rfl ⟨rfl, by decide⟩ ?_; refine GO.load1 rfl rfl rfl (Tk.t (Tk.t (Tk.t Tk.h))) rfl ?_; refine GO.idxA (j := 0) rfl rfl rfl ⟨rfl, by decide⟩ ?_; refine GO.load2 rfl rfl rfl (Tk.t (Tk.t (Tk.t (Tk.t Tk.h)))) (by assumption) (by assumption) ?_)
    refine GO.call2 rfl rfl rfl (hA) (Tks.c Tk.h (Tks.c (Tk.t Tk.h) (Tks.c (Tk.t (Tk.t (Tk.t Tk.h))) Tks.n))) ?_
    rintro _ _ ⟨rfl, Z', hs, rfl⟩
    (refine GO.move rfl rfl ?_; refine GO.gT rfl rfl rfl ?_; refine GO.idxA (j := 1) rfl rfl rfl ⟨rfl, by decide⟩ ?_; refine GO.gT rfl rfl rfl ?_; refine GO.load1 rfl rfl rfl (Tk.t (Tk.t (Tk.t (Tk.t Tk.h)))) rfl ?_; refine GO.gT rfl rfl rfl ?_; refine GO.idxA (j := 1) rfl rfl rfl ⟨rfl, by decide⟩ ?_; refine GO.gT rfl rfl rfl ?_; refine GO.load2 rfl rfl rfl (Tk.t (Tk.t (Tk.t (Tk.t (Tk.t Tk.h))))) (by assumption) (by assumption) ?_; refine GO.gT rfl rfl rfl ?_)
    refine GO.call2 rfl rfl rfl (look_spec q hq K1 Z' v1 (refV (sideO o1) r1) o1 h1.wf X1 h1.cl h1.kp (h1.rf.sup hs)) (Tks.c (Tk.t (Tk.t (Tk.t Tk.h))) (Tks.c (Tk.t Tk.h) (Tks.c (Tk.t Tk.h) Tks.n))) ?_
    rintro _ _ ⟨rfl, Z'', hs2, rfl⟩
    (refine GO.pickT rfl rfl rfl ?_; refine GO.move rfl rfl ?_; refine GO.gT rfl rfl rfl ?_)
    refine GO.call0 rfl (hawake_spec q) (Tks.c (Tk.t (Tk.t Tk.h)) Tks.n) ?_
    rintro _ _ ⟨rfl, rfl⟩
    (refine GO.pickT rfl rfl rfl ?_; refine GO.assign rfl rfl ?_; refine GO.nil ?_; refine kthen_n ?_; refine G.ret ?_)
    refine KF2.r1 rfl (RV.t rfl) ⟨rfl, rfl⟩ (ImpS.sb ?_)
    ((refine Sb.c Tk.h ?_); (refine Sb.s ?_; refine Sb.s ?_; refine Sb.s ?_; refine Sb.s ?_; refine Sb.s ?_; exact Sb.r))
end Go.Proofs.YtpfcgfgkmgnaaaaDoor
namespace Go.Proofs.YtpfcgfgkmgnaaaaDoor
open Go Go.ChangeShapes Go.WideShapes Go.ChangeAt Go.RowKit Go.Deep
theorem two_of {α : Type} {l : List α} (h : l.length = 2) : ∃ x y, l = [x, y] := by
  cases l with
  | nil => cases h
  | cons x l => cases l with
    | nil => cases h
    | cons y l => cases l with
      | nil => exact ⟨x, y, rfl⟩
      | cons z l => simp at h
theorem wf_le {n : Int} (h : (Lit.int .i64 n).wf = true) : ¬ 9223372036854775807 < n := by
  unfold Lit.wf at h
  rw [Bool.and_eq_true] at h
  have h2 := of_decide_eq_true h.2
  rw [show IntKind.i64.max = 9223372036854775807 by rfl] at h2
  omega
section
variable {H : Type} {enc : TypeId × Value → H} {w : World} {base : Nat} {spare : Nat → Bool} {held : Bool}
theorem open_cellsC {fuel : Nat} {v : Value} {x : DataW H × List MemPlace} (h : DataW.trod enc Tryd.prog w base spare held fuel 26 [v] = some x) :
    ∃ cs : List (Int × Int), SlC (init w) v cs := by
  obtain ⟨cs, ⟨a, cap, rfl, h1, h2⟩, _⟩ := open_cells h
  refine ⟨cs, a, cap, rfl, ?_, h2⟩
  rcases open_slice_fields Tryd.underlying26 Tryd.underlying63 (by kernel_rfl) (by kernel_rfl) h with ⟨hc, _⟩ | ⟨a', len, cap', m, D, Pl, hc, _, hl, _⟩
  · simp only [List.cons.injEq, and_true] at hc
    injection hc with _ e1 e2
    omega
  · simp only [List.cons.injEq, and_true] at hc
    injection hc with _ e1 e2
    omega
theorem open_grid {fuel : Nat} {cs : Array Value} {x : DataW H × List MemPlace} (h : DataW.trod enc Tryd.prog w base spare held fuel 32 (Value.agg cs).cells.toList = some x) :
    ∃ g : Int × List Cl, GridR (init w) (.agg cs) g := by
  have hC : Tryd.prog.cellsOf 32 = 2 := by kernel_rfl
  have hC3 : Tryd.prog.cellsOf 3 = 1 := by kernel_rfl
  have hCp : Tryd.prog.cellsOf 26 = 1 := by kernel_rfl
  obtain ⟨ys, n, _, rfl, hl, hyl, hf⟩ := DataW.trod_struct Tryd.underlying32 h
  have hcs : (Value.agg cs).cells = cs := rfl
  rw [hcs] at hl hf
  rw [hC] at hl
  obtain ⟨c0, c1, e⟩ := two_of hl
  obtain rfl : cs = [c0, c1].toArray := by rw [← e]
  have f0 := hf 0 { name := "Side", type := 3, offset := 0, embedded := false, tag := "", pkgPath := "", byteOffset := 0 } rfl
  have f1 := hf 1 { name := "Cells", type := 26, offset := 1, embedded := false, tag := "", pkgPath := "", byteOffset := 8 } rfl
  dsimp only at f0 f1
  rw [hC3] at f0
  rw [hCp] at f1
  have y0 : ∃ y, ys[0]? = some y := ⟨ys[0]'(by rw [hyl]; decide), List.getElem?_eq_getElem _⟩
  have y1 : ∃ y, ys[1]? = some y := ⟨ys[1]'(by rw [hyl]; decide), List.getElem?_eq_getElem _⟩
  obtain ⟨y0, g0⟩ := y0
  obtain ⟨y1, g1⟩ := y1
  rw [g0] at f0
  rw [g1] at f1
  obtain ⟨k, hk, _⟩ := DataW.trod_int Tryd.underlying3 f0
  have hk : c0 = i64 k := by simpa using hk
  subst hk
  obtain ⟨ps, h1⟩ := open_cellsC f1
  exact ⟨(k, ps), c1, rfl, h1⟩
end
end Go.Proofs.YtpfcgfgkmgnaaaaDoor
namespace Go.Proofs.YtpfcgfgkmgnaaaaDoor
open Go Go.ChangeShapes Go.WideShapes Go.ChangeAt Go.RowKit Go.Deep
theorem one_more {α : Type} {l : List α} {n : Nat} (h : l.length = n + 1) : ∃ x m, l = x :: m ∧ m.length = n := by
  cases l with
  | nil => cases h
  | cons x m => exact ⟨x, m, rfl, by simpa using h⟩
theorem seven_of {α : Type} {l : List α} (h : l.length = 7) : ∃ a b c d e f g, l = [a, b, c, d, e, f, g] := by
  obtain ⟨a, l1, e1, h1⟩ := one_more h
  obtain ⟨b, l2, e2, h2⟩ := one_more h1
  obtain ⟨c, l3, e3, h3⟩ := one_more h2
  obtain ⟨d, l4, e4, h4⟩ := one_more h3
  obtain ⟨e, l5, e5, h5⟩ := one_more h4
  obtain ⟨x, y, e6⟩ := two_of h5
  exact ⟨a, b, c, d, e, x, y, by rw [e1, e2, e3, e4, e5, e6]⟩
section
variable {H : Type} {enc : TypeId × Value → H} {w : World} {base : Nat} {spare : Nat → Bool} {held : Bool}
theorem open_op {fuel : Nat} {cs : List Value} {x : DataW H × List MemPlace} (h : DataW.trod enc Tryd.prog w base spare held fuel 34 cs = some x) :
    ∃ (p : OpS) (l : List Cl), cs = p.vs ∧ SlC (init w) p.u l := by
  have hC : Tryd.prog.cellsOf 34 = 7 := by kernel_rfl
  have hCi : Tryd.prog.cellsOf 3 = 1 := by kernel_rfl
  have hCg : Tryd.prog.cellsOf 32 = 2 := by kernel_rfl
  obtain ⟨ys, n, _, rfl, hl, hyl, hf⟩ := DataW.trod_struct Tryd.underlying34 h
  rw [hC] at hl
  obtain ⟨c0, c1, c2, c3, c4, c5, c6, rfl⟩ := seven_of hl
  have f0 := hf 0 { name := "Do", type := 3, offset := 0, embedded := false, tag := "", pkgPath := "", byteOffset := 0 } rfl
  have f1 := hf 1 { name := "A", type := 3, offset := 1, embedded := false, tag := "", pkgPath := "", byteOffset := 8 } rfl
  have f2 := hf 2 { name := "B", type := 3, offset := 2, embedded := false, tag := "", pkgPath := "", byteOffset := 16 } rfl
  have f3 := hf 3 { name := "I", type := 3, offset := 3, embedded := false, tag := "", pkgPath := "", byteOffset := 24 } rfl
  have f4 := hf 4 { name := "J", type := 3, offset := 4, embedded := false, tag := "", pkgPath := "", byteOffset := 32 } rfl
  have f5 := hf 5 { name := "G", type := 32, offset := 5, embedded := false, tag := "", pkgPath := "", byteOffset := 40 } rfl
  dsimp only at f0 f1 f2 f3 f4 f5
  rw [hCi] at f0 f1 f2 f3 f4
  rw [hCg] at f5
  have hy : ∀ k, k < 6 → ∃ y, ys[k]? = some y := fun k hk => ⟨ys[k]'(by rw [hyl]; exact hk), List.getElem?_eq_getElem _⟩
  obtain ⟨y0, g0⟩ := hy 0 (by decide)
  obtain ⟨y1, g1⟩ := hy 1 (by decide)
  obtain ⟨y2, g2⟩ := hy 2 (by decide)
  obtain ⟨y3, g3⟩ := hy 3 (by decide)
  obtain ⟨y4, g4⟩ := hy 4 (by decide)
  obtain ⟨y5, g5⟩ := hy 5 (by decide)
  rw [g0] at f0
  rw [g1] at f1
  rw [g2] at f2
  rw [g3] at f3
  rw [g4] at f4
  rw [g5] at f5
  obtain ⟨k0, h0, _⟩ := DataW.trod_int Tryd.underlying3 f0
  obtain ⟨k1, h1, _⟩ := DataW.trod_int Tryd.underlying3 f1
  obtain ⟨k2, h2, _⟩ := DataW.trod_int Tryd.underlying3 f2
  obtain ⟨k3, h3, _⟩ := DataW.trod_int Tryd.underlying3 f3
  obtain ⟨k4, h4, _⟩ := DataW.trod_int Tryd.underlying3 f4
  have e0 : c0 = i64 k0 := by simpa using h0
  have e1 : c1 = i64 k1 := by simpa using h1
  have e2 : c2 = i64 k2 := by simpa using h2
  have e3 : c3 = i64 k3 := by simpa using h3
  have e4 : c4 = i64 k4 := by simpa using h4
  clear h0 h1 h2 h3 h4
  subst e0 e1 e2 e3 e4
  obtain ⟨⟨s, l⟩, u, hg, hu⟩ := open_grid (cs := [c5, c6].toArray) f5
  obtain ⟨rfl, rfl⟩ : c5 = i64 s ∧ c6 = u := by simpa using hg
  exact ⟨⟨k0, k1, k2, k3, k4, s, c6⟩, l, rfl, hu⟩
theorem open_ops {fuel : Nat} {v : Value} {x : DataW H × List MemPlace} (h : DataW.trod enc Tryd.prog w base spare held fuel 22 [v] = some x) :
    ∃ (l : List OpS) (cs : Nat → List Cl), OpsR (init w) v l cs := by
  rcases open_slice Tryd.underlying22 h with ⟨hc, _⟩ | ⟨a, len, cap, m, n, D, Pl, hc, hb, hl, hm, hmm, hx, hi⟩
  · simp only [List.cons.injEq, and_true] at hc
    subst hc
    exact ⟨[], fun _ => [], ⟨⟨none, 0, rfl, rfl, fun h => by simp at h⟩, fun k p hk => by simp at hk⟩⟩
  · simp only [List.cons.injEq, and_true] at hc
    subst hc
    have hC : Tryd.prog.cellsOf 34 = 7 := by kernel_rfl
    have key : ∀ i, ∃ y : OpS × List Cl, i < len → (∀ j u, y.1.vs[j]? = some u → w.cell? (a.add (i * 7 + j)) = some u) ∧ SlC (init w) y.1.u y.2 := by
      intro i
      by_cases hil : i < len
      · obtain ⟨cs', hc', ht⟩ := hi i (by rw [hmm]; split <;> omega)
        rw [hC] at hc'
        obtain ⟨_, hcl, hat⟩ := World.cells?_some hc'
        obtain ⟨p, l, rfl, hu⟩ := open_op ht
        refine ⟨(p, l), fun _ => ⟨fun j u hj => ?_, hu⟩⟩
        have hj7 : j < 7 := (List.getElem?_eq_some_iff.1 hj).1
        have := hat j hj7
        rw [← Go.Deep.add_add, this]
        exact hj
      · exact ⟨(⟨0, 0, 0, 0, 0, 0, .slice none 0 0⟩, []), fun h => absurd h hil⟩
    obtain ⟨f, hf⟩ := Classical.axiomOfChoice key
    have hlen : ((List.range len).map fun i => (f i).1).length = len := by simp
    have hget : ∀ k, k < len → ((List.range len).map fun i => (f i).1)[k]? = some (f k).1 := fun k hk => by rw [List.getElem?_map, List.getElem?_range hk]; rfl
    refine ⟨(List.range len).map fun i => (f i).1, fun i => (f i).2, ⟨⟨some a, cap, by rw [hlen], opsV_len _, fun hpos => ?_⟩, fun k p hk => ?_⟩⟩
    · rw [hlen] at hpos
      obtain ⟨b, o, sp⟩ := a
      have hsp : sp = none := by
        have := (hf 0 hpos).1 0 _ rfl
        simpa [Addr.add] using World.cell?_spot this
      subst hsp
      refine ⟨b, o, rfl, fun j u hj => ?_⟩
      have hjl : j < len * 7 := by
        have := (List.getElem?_eq_some_iff.1 hj).1
        rw [opsV_len, hlen] at this; exact this
      have hg := opsV_get (hget (j / 7) (by omega)) (Nat.mod_lt j (by decide))
      have hh := (hf (j / 7) (by omega)).1 (j % 7)
      rw [show j / 7 * 7 + j % 7 = j by omega] at hg hh
      rw [hg] at hj
      have hc := hh u hj
      rw [add_plain] at hc
      exact Rd.init hc
    · have hkl : k < len := by
        have := (List.getElem?_eq_some_iff.1 hk).1
        rw [hlen] at this; exact this
      rw [hget k hkl] at hk
      injection hk with hk
      subst hk
      exact (hf k hkl).2
end
end Go.Proofs.YtpfcgfgkmgnaaaaDoor
