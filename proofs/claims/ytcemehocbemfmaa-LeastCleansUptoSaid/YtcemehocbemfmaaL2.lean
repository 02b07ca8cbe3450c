/-
  least.Clean.
-/
import Derived.Test.YtcemehocbemfmaaL1
import Derived.Test.YtcemehocbemfmaaLB
import Derived.Test.YtcemehocbemfmaaLV
namespace Go.Proofs.Ytcemehocbemfmaa
open Go
attribute [local irreducible] G GO GR GT Fn FnV pt init exs pur sat own ImpS
set_option maxHeartbeats 2000000 in
theorem cloneS_spec (q : HP) (v : Value) (ss : List SymD) (hv : SymsR q v ss) (hz : ss.length * 16 ≤ 140737488355328) : Fn Try.prog 37 #[v] [q] (fun r Q => ∃ z, SymsR z r ss ∧ Q = [z, q]) := by
  obtain ⟨a, cap, rfl⟩ := hv.form
  refine Fn.mk Try.func37 rfl rfl fun w0 F => ?_
  (refine G.seq ?_; refine G.region ?_; refine GO.assign rfl rfl ?_; refine GO.nil ?_; refine kthen_n ?_; refine G.seq ?_; refine G.seq ?_; refine G.region ?_; refine GO.move rfl rfl ?_)
  refine GO.eqNilS rfl rfl ?_
  cases a with
  | none =>
    have hss : ss = [] := by
      obtain ⟨a', cap', e, _, hr⟩ := hv
      injection e with e1 _ _
      subst e1
      cases ss with
      | nil => rfl
      | cons s ss => obtain ⟨b, o, h, _⟩ := hr (by simp); cases h
    subst hss
    refine GO.imp (H' := pur True :: _) (fun l w s => sat_pur.2 ⟨trivial, s⟩) ?_
    (refine GO.nil ?_; refine kthen_n ?_; refine G.condT rfl rfl ?_; refine G.seq ?_; refine G.region ?_; refine GO.assign rfl rfl ?_; refine GO.nil ?_; refine kthen_n ?_; refine G.ret ?_; refine kthen_r ?_)
    refine KF.r1 rfl (RV.t rfl) ⟨pur True, ⟨none, 0, rfl, rfl, fun h => by simp at h⟩, rfl⟩ ?_
    ((refine Sb.c Tk.h ?_; refine Sb.c Tk.h ?_); (exact Sb.r))
  | some a =>
    (refine GO.nil ?_; refine kthen_n ?_; refine G.condF rfl rfl ?_; refine G.skip ?_; refine kthen_n ?_; refine G.seq ?_; refine G.region ?_)
    refine GO.buildSlice0 rfl fun v5 => ?_
    (refine GO.move rfl rfl ?_)
    refine GO.appendFrom (m := ss.length) (q := q) rfl rfl rfl Tk.h Tk.h hv (symsV_one _) ⟨by decide, rfl⟩ (by unfold maxLen; omega) (by omega) fun v7 => ?_
    rw [List.nil_append, Nat.zero_add ss.length]
    refine GO.ownRd Tk.h fun q5 h5 => ?_
    (refine GO.assign rfl rfl ?_; refine GO.nil ?_; refine kthen_n ?_; refine G.ret ?_)
    refine KF.r1 rfl (RV.t rfl) ⟨q5, h5, rfl⟩ ?_
    ((refine Sb.c Tk.h ?_; refine Sb.c Tk.h ?_); (exact Sb.r))
abbrev cleM (n bo bp : Nat) (o : Nat → Bool) : List HP := [pt bp (row [.slice (some ⟨bo, 0, none⟩) n n] 25), pt bo (row (boolsV o n) 4)]
theorem cleanp_spec (o : Nat → Bool) (n bo bp : Nat) (x : Int × Value) (hx : 0 ≤ x.1 ∧ x.1 < n) :
    Fn Try.prog 39 #[pvV x, .pointer (some ⟨bp, 0, none⟩)] (cleM n bo bp o) (fun r Q => r = .bool (!o x.1.toNat) ∧ Q = cleM n bo bp o) := by
  obtain ⟨h, u⟩ := x
  obtain ⟨h1, h2⟩ := hx
  dsimp only at h1 h2
  obtain ⟨h, rfl⟩ := Int.eq_ofNat_of_zero_le h1
  have hkn : h < n := by omega
  refine Fn.mk Try.func39 rfl rfl fun w0 F => ?_
  (refine G.seq ?_; refine G.region ?_; refine GO.box rfl rfl rfl fun b2 => ?_; refine GO.assign rfl rfl ?_; refine GO.nil ?_; refine kthen_n ?_; refine G.seq ?_; refine G.region ?_; refine GO.load1 rfl rfl rfl (Tk.t Tk.h) rfl ?_; refine GO.fieldAddr rfl rfl ?_; refine GO.load1 rfl rfl rfl Tk.h rfl ?_; refine GO.idxS rfl rfl rfl ⟨rfl, by omega⟩ ?_; refine GO.load1 rfl rfl rfl (Tk.t (Tk.t Tk.h)) (rowV_get1 (by assumption)) ?_; refine GO.not rfl rfl ?_; refine GO.assign rfl rfl ?_; refine GO.nil ?_; refine kthen_n ?_; refine G.ret ?_)
  refine KF.r1 rfl (RV.t rfl) ⟨rfl, rfl⟩ ?_
  ((refine Sb.c (Tk.t Tk.h) ?_; refine Sb.c (Tk.t Tk.h) ?_); (refine Sb.s ?_; exact Sb.r))
/-- Which productions have a word, by a set. -/
def keepF (o : Nat → Bool) (p : ProdD) : Bool := p.2.all (symHas o true)
theorem okC_filter {C : CnfD} (f : ProdD → Bool) (h : okC C = true) : okC ⟨C.nts, C.prods.filter f⟩ = true := by
  unfold okC at h ⊢
  simp only [Bool.and_eq_true, List.all_eq_true] at h ⊢
  exact ⟨h.1, fun p hp => h.2 p (List.mem_filter.1 hp).1⟩
theorem fits_filter {C : CnfD} (f : ProdD → Bool) (h : Fits C) : Fits ⟨C.nts, C.prods.filter f⟩ :=
  ⟨by have := List.length_filter_le f C.prods; have := h.1; show (C.prods.filter f).length * 32 ≤ _; omega, fun p hp => h.2 p (List.mem_filter.1 hp).1⟩
theorem filter_take {α : Type} {f : α → Bool} {l : List α} {k : Nat} {x : α} (h : l[k]? = some x) : (l.take (k + 1)).filter f = (l.take k).filter f ++ if f x then [x] else [] := by
  rw [List.take_add_one, h, List.filter_append]
  cases hf : f x <;> simp [hf]
def CleanR (C : CnfD) (fr : List Int) (q : HP) (r : Value) (Q : List HP) : Prop :=
  (okC C = true ∧ inAll C.nts.toNat fr = true ∧ ∃ o1 o2 cs z, Reach (cloStep true) C.prods (fun _ => false) o1 ∧ (∀ p ∈ C.prods, (cloStep true o1 p).2 = false) ∧
      Reach useStep (C.prods.filter (keepF o1)) (setOf fr) o2 ∧ (∀ p ∈ C.prods.filter (keepF o1), (useStep o2 p).2 = false) ∧
      r = .tuple [cs, i64 0].toArray ∧ CnfR z cs ⟨C.nts, (C.prods.filter (keepF o1)).filter fun p => o2 p.1.toNat⟩ ∧ Q = [z, q]) ∨
  (okC C = true ∧ inAll C.nts.toNat fr = false ∧ r = .tuple [.agg [i64 0, .slice none 0 0].toArray, i64 2].toArray ∧ Q = [q]) ∨
  (okC C = false ∧ r = .tuple [.agg [i64 0, .slice none 0 0].toArray, i64 220].toArray ∧ Q = [q])
set_option maxHeartbeats 8000000 in
set_option maxRecDepth 20000 in
theorem clean_spec (q : HP) (v fv : Value) (C : CnfD) (fr : List Int) (hv : CnfR q v C) (hz : Fits C) (hfr : IntsR q fv fr) (hfl : fr.length ≤ 9223372036854775807) : Fn Try.prog 23 #[v, fv] [q] (CleanR C fr q) := by
  have hv0 := hv
  have hz1 := hz.1
  obtain ⟨pv, rfl, hp⟩ := hv
  obtain ⟨a0, cap0, rfl⟩ := hp.form
  refine Fn.mk Try.func23 rfl rfl fun w0 F => ?_
  (refine G.seq ?_; refine G.region ?_; refine GO.box rfl rfl rfl fun b2 => ?_; refine GO.alloc rfl fun b4 => ?_; refine GO.assign rfl rfl ?_; refine GO.nil ?_; refine kthen_n ?_; refine G.seq ?_; refine G.region ?_; refine GO.loadW rfl rfl rfl (Tk.t Tk.h) rfl ?_)
  refine GO.call1 rfl rfl (fruitful_spec q _ C hv0 hz) (Tks.c (Tk.t (Tk.t Tk.h)) Tks.n) ?_
  rintro _ _ (⟨hok, x1, o1, rfl, hR1, hS1, rfl⟩ | ⟨hok, rfl, rfl⟩)
  · obtain ⟨⟨hn1, hn2⟩, hin⟩ := okC_in hok
    obtain ⟨n, hn⟩ := Int.eq_ofNat_of_zero_le (show 0 ≤ C.nts by omega)
    have hnn : C.nts.toNat = n := by omega
    rw [hn] at hin
    rw [hnn]
    (refine GO.move rfl rfl ?_; refine GO.extract rfl rfl rfl ?_; refine GO.extract rfl rfl rfl ?_; refine GO.assign rfl rfl ?_; refine GO.assign rfl rfl ?_; refine GO.nil ?_; refine kthen_n ?_; refine G.seq ?_; refine G.seq ?_; refine G.region ?_; refine GO.move rfl rfl ?_; refine GO.neF rfl rfl rfl rfl ?_; refine GO.nil ?_; refine kthen_n ?_; refine G.condF rfl rfl ?_; refine G.skip ?_; refine kthen_n ?_; refine G.seq ?_; refine G.region ?_; refine GO.fieldAddr rfl rfl ?_; refine GO.load1 rfl rfl rfl (Tk.t (Tk.t (Tk.t Tk.h))) rfl ?_)
    refine GO.buildPart1 (built_cnf _) rfl rfl ?_
    (refine GO.alloc rfl fun b8 => ?_; refine GO.storeW rfl rfl Tk.h ⟨rfl, rfl⟩ (by simp [Value.oneCell']) ?_; refine GO.nil ?_; refine kthen_n ?_; refine G.seq ?_; refine G.seq ?_; refine G.region ?_; refine GO.fieldAddr rfl rfl ?_; refine GO.load1 rfl rfl rfl (Tk.t (Tk.t (Tk.t (Tk.t Tk.h)))) rfl ?_; refine GO.lenS rfl rfl ?_; refine GO.move rfl rfl ?_; refine GO.nil ?_; refine kthen_n ?_; refine G.block ?_)
    refine G.ownNil (T := 42) (sz := 2) ?_
    refine G.imp (H' := pur True :: _) (fun l w s => sat_pur.2 ⟨trivial, s⟩) ?_
    refine G.loop4 (fun (k : Nat) (_ : Value) (_ : List (Int × Value)) (_ : HP) => [(1, fv), (2, .pointer (some ⟨b2, 0, none⟩)), (4, .pointer (some ⟨b4, 0, none⟩)), (6, .slice (some ⟨x1, 0, none⟩) n n), (8, .pointer (some ⟨b8, 0, none⟩)), (25, .slice a0 C.prods.length cap0), (26, i64 C.prods.length), (27, i64 k)])
      (fun k pv xs z => own 42 2 xs.length pv (pvs xs) :: pt b8 (row [i64 C.nts, pv] 24) :: z :: q :: pt x1 (row (boolsV o1 n) 4) :: pt b4 (row [i64 0, .slice none 0 0] 24) :: F)
      (fun k pv xs z => k ≤ C.prods.length ∧ xs.length ≤ k ∧ Cp z ((C.prods.take k).filter (keepF o1)) xs) (fun k _ _ _ => C.prods.length - k) 0 (.slice none 0 0) [] (pur True) ⟨by omega, by simp, trivial⟩ ?_ ?_ ?_
    · (refine SubE.c rfl rfl ?_; refine SubE.c rfl rfl ?_; refine SubE.c rfl rfl ?_; refine SubE.c rfl rfl ?_; refine SubE.c rfl rfl ?_; refine SubE.c rfl rfl ?_; refine SubE.c rfl rfl ?_; refine SubE.c rfl rfl ?_; exact SubE.n)
    · ((refine Sb.c (Tk.t Tk.h) ?_; refine Sb.c (Tk.t Tk.h) ?_; refine Sb.c Tk.h ?_; refine Sb.c (Tk.t Tk.h) ?_; refine Sb.c Tk.h ?_; refine Sb.c Tk.h ?_); (refine Sb.s ?_; exact Sb.r))
    rintro k pv xs z ⟨hk, hxk, hc⟩
    (refine G.seq ?_; refine G.region ?_; refine GO.lti rfl rfl rfl ?_; refine GO.nil ?_; refine kthen_n ?_; refine G.seq ?_)
    refine G.condD rfl (fun hlt => ?_) (fun hge => ?_)
    · have hkl : k < C.prods.length := by omega
      obtain ⟨p, hpk⟩ : ∃ p, C.prods[k]? = some p := ⟨C.prods[k], by simp [hkl]⟩
      have hpm := List.mem_of_getElem? hpk
      have hz2 := hz.2 p hpm
      obtain ⟨b, o, bv, rfl, _, r1, r2, hs⟩ := hp.at hpk
      obtain ⟨ab, capb, rfl⟩ := hs.form
      have hft := filter_take (f := keepF o1) hpk
      refine G.ownOne Tk.h fun hone => ?_
      (refine G.skip ?_; refine kthen_n ?_; refine G.seq ?_; refine G.block ?_; refine G.seq ?_; refine G.region ?_; refine GO.idxS rfl rfl rfl ⟨rfl, by omega⟩ ?_; refine GO.load2 rfl rfl rfl (Tk.t (Tk.t (Tk.t Tk.h))) (by assumption) (by assumption) ?_; refine GO.alloc rfl fun b10 => ?_; refine GO.storeW rfl rfl Tk.h ⟨rfl, rfl⟩ (by simp [Value.oneCell']) ?_; refine GO.nil ?_; refine kthen_n ?_; refine G.seq ?_; refine G.region ?_; refine GO.fieldAddr rfl rfl ?_; refine GO.load1 rfl rfl rfl Tk.h rfl ?_; refine GO.move rfl rfl ?_)
      refine GO.call3 rfl rfl rfl rfl (all_spec q _ o1 true n x1 p.2 hs (hin p hpm).2 (by omega)) (Tks.c (Tk.t (Tk.t (Tk.t (Tk.t Tk.h)))) (Tks.c (Tk.t (Tk.t (Tk.t (Tk.t Tk.h)))) Tks.n)) ?_
      rintro _ _ ⟨rfl, rfl⟩
      (refine GO.nil ?_; refine kthen_n ?_)
      refine G.cond rfl (fun hkp => ?_) (fun hkp => ?_)
      · rw [show keepF o1 p = true from hkp, if_pos rfl] at hft
        refine G.drawT 11 960 [pt b8 (row [i64 C.nts, pv] 24), pt b10 (row [i64 p.1, .slice ab p.2.length capb] 42), q] (own 42 2 xs.length pv (pvs xs) :: z :: pt x1 (row (boolsV o1 n) 4) :: pt b4 (row [i64 0, .slice none 0 0] 24) :: F) (by kernel_rfl) (keys_of rfl) (ImpS.sb (by ((refine Sb.c (Tk.t (Tk.t (Tk.t (Tk.t Tk.h)))) ?_; refine Sb.c (Tk.t (Tk.t Tk.h)) ?_; refine Sb.c Tk.h ?_; refine Sb.c (Tk.t Tk.h) ?_; refine Sb.c (Tk.t Tk.h) ?_; refine Sb.c Tk.h ?_; refine Sb.c Tk.h ?_); (exact Sb.r)))) ?_
        ((apply GR.step rfl; focus (intro Z; refine GO.fieldAddr rfl rfl ?_; exact KQ.z)); (apply GR.step rfl; focus (intro Z; refine GO.load1 rfl rfl rfl Tk.h rfl ?_; exact KQ.z)); (apply GR.step rfl; focus (intro Z; refine GO.fieldAddr rfl rfl ?_; exact KQ.z)); (apply GR.step rfl; focus (intro Z; refine GO.load1 rfl rfl rfl (Tk.t Tk.h) rfl ?_; exact KQ.z)); (apply GR.step rfl; focus (intro Z; refine GO.fieldAddr rfl rfl ?_; exact KQ.z)); (apply GR.step rfl; focus (intro Z; refine GO.load1 rfl rfl rfl (Tk.t Tk.h) rfl ?_; exact KQ.z)))
        (repeat refine GR.skip rfl ?_)
        ((apply GR.step rfl; focus (intro Z; refine GO.fieldAddr rfl rfl ?_; exact KQ.z)))
        refine GR.nil ?_
        (repeat refine GT.skip rfl ?_)
        refine GT.step rfl ?_
        refine GO.call1 rfl rfl (cloneS_spec q _ p.2 hs hz2) (Tks.c (Tk.t (Tk.t Tk.h)) Tks.n) ?_
        rintro bv5 _ ⟨z5, h5, rfl⟩
        obtain ⟨a5, cap5, rfl⟩ := h5.form
        refine GO.nil ⟨rfl, _, z5 :: own 42 2 xs.length pv (pvs xs) :: z :: pt x1 (row (boolsV o1 n) 4) :: pt b4 (row [i64 0, .slice none 0 0] 24) :: F, rfl, ImpS.sb (by ((refine Sb.c (Tk.t (Tk.t Tk.h)) ?_; refine Sb.c (Tk.t (Tk.t Tk.h)) ?_; refine Sb.c (Tk.t Tk.h) ?_; refine Sb.c Tk.h ?_; refine Sb.c Tk.h ?_; refine Sb.c Tk.h ?_; refine Sb.c Tk.h ?_; refine Sb.c Tk.h ?_); (exact Sb.r))), ?_⟩
        refine GT.step rfl ?_
        refine GO.build2 rfl rfl rfl rfl ?_
        refine GO.nil ⟨rfl, _, _, rfl, ImpS.refl, ?_⟩
        refine GT.step rfl ?_
        refine GO.buildSlice1 rfl rfl (by simp; rfl) rfl ⟨by omega, by omega⟩ fun b6 => ?_
        refine GO.nil ⟨rfl, _, pt b6 (row [i64 p.1, .slice a5 p.2.length cap5] 42) :: z5 :: own 42 2 xs.length pv (pvs xs) :: z :: pt x1 (row (boolsV o1 n) 4) :: pt b4 (row [i64 0, .slice none 0 0] 24) :: F, rfl, ImpS.sb (by ((refine Sb.c (Tk.t Tk.h) ?_; refine Sb.c (Tk.t Tk.h) ?_; refine Sb.c (Tk.t Tk.h) ?_; refine Sb.c Tk.h ?_; refine Sb.c Tk.h ?_; refine Sb.c Tk.h ?_; refine Sb.c Tk.h ?_; refine Sb.c Tk.h ?_; refine Sb.c Tk.h ?_); (exact Sb.r))), ?_⟩
        refine GT.step rfl ?_
        refine GO.appendOwn (m := 1) (news := [i64 p.1, .slice a5 p.2.length cap5]) rfl rfl rfl (Tk.t (Tk.t (Tk.t (Tk.t (Tk.t Tk.h))))) (Tk.t (Tk.t (Tk.t Tk.h))) rfl (by simp [Value.oneCell']) ⟨by decide, rfl⟩ Nat.one_pos (by unfold maxLen; omega) (by omega) fun v2 => ?_
        refine GO.ownOne Tk.h fun hone2 => ?_
        rw [show pvs xs ++ [i64 p.1, .slice a5 p.2.length cap5] = pvs (xs ++ [(p.1, .slice a5 p.2.length cap5)]) from (duo_append xs [(p.1, Value.slice a5 p.2.length cap5)]).symm, show xs.length + 1 = (xs ++ [(p.1, Value.slice a5 p.2.length cap5)]).length by simp]
        have hc2 := Cp.snoc (z := star [z5, z]) (p := p) (x := (p.1, .slice a5 p.2.length cap5)) rfl (h5.sup (Sup.left _ _)) (hc.sup (Sup.right z5 z))
        have hxl : (xs ++ [(p.1, Value.slice a5 p.2.length cap5)]).length ≤ k + 1 := by simp; exact hxk
        generalize xs ++ [(p.1, Value.slice a5 p.2.length cap5)] = xs2 at hc2 hxl ⊢
        refine GO.nil ⟨rfl, _, own 42 2 xs2.length v2 (pvs xs2) :: z5 :: z :: pt x1 (row (boolsV o1 n) 4) :: pt b4 (row [i64 0, .slice none 0 0] 24) :: F, rfl, ImpS.sb (by ((refine Sb.c (Tk.t Tk.h) ?_; refine Sb.c (Tk.t Tk.h) ?_; refine Sb.c (Tk.t Tk.h) ?_; refine Sb.c Tk.h ?_; refine Sb.c (Tk.t Tk.h) ?_; refine Sb.c (Tk.t Tk.h) ?_; refine Sb.c (Tk.t Tk.h) ?_; refine Sb.c (Tk.t Tk.h) ?_); (refine Sb.s ?_; exact Sb.r))), ?_⟩
        (repeat refine GT.skip rfl ?_)
        refine GT.nil ?_
        refine GO.store1 rfl rfl hone2 Tk.h (by simp) ?_
        refine GO.merge (x := z5) (y := z) (Tks.c (Tk.t (Tk.t (Tk.t (Tk.t Tk.h)))) (Tks.c (Tk.t (Tk.t (Tk.t (Tk.t Tk.h)))) Tks.n)) ?_
        (refine GO.nil ?_; refine kblock_n ?_; refine kthen_n ?_; refine G.region ?_; refine GO.addi rfl rfl rfl (by omega) ?_; refine GO.move rfl rfl ?_; refine GO.nil ?_; refine kthen_n ?_)
        refine ⟨k + 1, v2, xs2, star [z5, z], ⟨by omega, hxl, by rw [hft]; exact hc2⟩, by omega, ?_, ?_⟩
        · (refine SubE.c rfl rfl ?_; refine SubE.c rfl rfl ?_; refine SubE.c rfl rfl ?_; refine SubE.c rfl rfl ?_; refine SubE.c rfl rfl ?_; refine SubE.c rfl rfl ?_; refine SubE.c rfl rfl ?_; refine SubE.c rfl rfl ?_; exact SubE.n)
        · ((refine Sb.c (Tk.t (Tk.t (Tk.t (Tk.t Tk.h)))) ?_; refine Sb.c (Tk.t Tk.h) ?_; refine Sb.c Tk.h ?_; refine Sb.c (Tk.t Tk.h) ?_; refine Sb.c (Tk.t Tk.h) ?_; refine Sb.c (Tk.t Tk.h) ?_); (refine Sb.s ?_; exact Sb.r))
      · (refine G.skip ?_; refine kblock_n ?_; refine kthen_n ?_; refine G.region ?_; refine GO.addi rfl rfl rfl (by omega) ?_; refine GO.move rfl rfl ?_; refine GO.nil ?_; refine kthen_n ?_)
        rw [show keepF o1 p = false from hkp, if_neg (by simp), List.append_nil] at hft
        refine ⟨k + 1, pv, xs, z, ⟨by omega, by omega, by rw [hft]; exact hc⟩, by omega, ?_, ?_⟩
        · (refine SubE.c rfl rfl ?_; refine SubE.c rfl rfl ?_; refine SubE.c rfl rfl ?_; refine SubE.c rfl rfl ?_; refine SubE.c rfl rfl ?_; refine SubE.c rfl rfl ?_; refine SubE.c rfl rfl ?_; refine SubE.c rfl rfl ?_; exact SubE.n)
        · ((refine Sb.c (Tk.t (Tk.t (Tk.t Tk.h))) ?_; refine Sb.c (Tk.t (Tk.t (Tk.t Tk.h))) ?_; refine Sb.c (Tk.t (Tk.t (Tk.t Tk.h))) ?_; refine Sb.c Tk.h ?_; refine Sb.c Tk.h ?_; refine Sb.c (Tk.t Tk.h) ?_); (refine Sb.s ?_; exact Sb.r))
    · have : k = C.prods.length := by omega
      subst this
      rw [List.take_length] at hc
      have hxl : xs.length = (C.prods.filter (keepF o1)).length := hc.len
      refine G.ownOne Tk.h fun hone => ?_
      refine G.ownSl Tk.h fun hsl => ?_
      have hC2 : CnfR (star [star [own 42 2 xs.length pv (pvs xs), z], q]) (.agg [i64 C.nts, pv].toArray) ⟨C.nts, C.prods.filter (keepF o1)⟩ :=
        ⟨pv, rfl, hc.prs ((Sup.right _ _).trans (Sup.left _ _)) (hsl.sup ((Sup.left _ _).trans (Sup.left _ _)))⟩
      (refine G.exit ?_; refine kthen_x ?_; refine kthen_x ?_; refine kblock_x ?_; refine kthen_n ?_; refine G.seq ?_; refine G.region ?_; refine GO.loadW rfl rfl rfl (Tk.t Tk.h) rfl ?_; refine GO.move rfl rfl ?_)
      refine GO.merge (x := own 42 2 xs.length pv (pvs xs)) (y := z) (Tks.c Tk.h (Tks.c (Tk.t Tk.h) Tks.n)) ?_
      refine GO.merge (x := star [own 42 2 xs.length pv (pvs xs), z]) (y := q) (Tks.c Tk.h (Tks.c (Tk.t Tk.h) Tks.n)) ?_
      refine GO.call2 rfl rfl rfl (used0_spec _ _ fv ⟨C.nts, C.prods.filter (keepF o1)⟩ fr n hC2 (fits_filter _ hz) (hfr.sup (Sup.right _ _)) hfl (okC_filter _ hok) hn (by omega) (fun p hp => hin p (List.mem_filter.1 hp).1)) (Tks.c Tk.h Tks.n) ?_
      rintro _ _ (⟨h1, hall, b, o2, rfl, hR2, hS2, rfl⟩ | ⟨h1, hall, rfl, rfl⟩ | ⟨h1, rfl, rfl⟩)
      · dsimp only at hall hR2 hS2 ⊢
        rw [hnn] at hall ⊢
        refine GO.mem (H' := star [star [own 42 2 xs.length pv (pvs xs), z], q] :: pt b (row (boolsV o2 n) 4) :: pt b8 (row [i64 C.nts, pv] 24) :: pt b4 (row [i64 0, .slice none 0 0] 24) :: F) (by ((refine Sb.c (Tk.t Tk.h) ?_; refine Sb.c Tk.h ?_; refine Sb.c Tk.h ?_; refine Sb.c (Tk.t Tk.h) ?_); (refine Sb.s ?_; exact Sb.r))) ?_
        refine GO.flat ?_
        refine GO.flat ?_
        have hx0 : ∀ x ∈ xs, 0 ≤ x.1 ∧ x.1 < n := fun x hx => by
          obtain ⟨p, hpm, e, _⟩ := hc.mem hx
          rw [e]
          exact (hin p (List.mem_filter.1 hpm).1).1
        (refine GO.move rfl rfl ?_; refine GO.extract rfl rfl rfl ?_; refine GO.extract rfl rfl rfl ?_; refine GO.alloc rfl fun b11 => ?_; refine GO.store1 rfl rfl rfl Tk.h (by decide) ?_; refine GO.assign rfl rfl ?_; refine GO.nil ?_; refine kthen_n ?_; refine G.seq ?_; refine G.seq ?_; refine G.region ?_; refine GO.move rfl rfl ?_; refine GO.neF rfl rfl rfl rfl ?_; refine GO.nil ?_; refine kthen_n ?_; refine G.condF rfl rfl ?_; refine G.skip ?_; refine kthen_n ?_; refine G.seq ?_; refine G.region ?_; refine GO.fieldAddr rfl rfl ?_; refine GO.load1 rfl rfl rfl (Tk.t (Tk.t (Tk.t (Tk.t (Tk.t Tk.h))))) rfl ?_; refine GO.makeFunc1 rfl rfl ?_)
        refine GO.call2 rfl rfl rfl (deleteP_spec pv _ xs (fun x => !o2 x.1.toNat) (cleM n b b11 o2) (fun q' x hx => FnV.of (caps := [.pointer (some ⟨b11, 0, none⟩)]) (Fn.framed (Rv := fun r => r = .bool (!o2 x.1.toNat)) (cleanp_spec o2 n b b11 x (hx0 x hx)) [q'])) (by omega) hc.one) (Tks.c (Tk.t Tk.h) (Tks.c Tk.h (Tks.c (Tk.t (Tk.t Tk.h)) Tks.n))) ?_
        rintro v2 _ rfl
        have hc2 := hc.filter (fun h => o2 h.toNat)
        have he : (xs.filter fun x => !!o2 x.1.toNat) = xs.filter fun x => o2 x.1.toNat := by simp only [Bool.not_not]
        simp only [he]
        generalize (xs.filter fun x => o2 x.1.toNat) = xs2 at hc2 ⊢
        refine GO.ownOne Tk.h fun hone2 => ?_
        refine GO.ownRd Tk.h fun q6 h6 => ?_
        (refine GO.fieldAddr rfl rfl ?_)
        refine GO.store1 rfl rfl hone2 (Tk.t (Tk.t (Tk.t (Tk.t (Tk.t Tk.h))))) (by simp) ?_
        refine GO.merge (x := q6) (y := z) (Tks.c (Tk.t Tk.h) (Tks.c (Tk.t (Tk.t (Tk.t Tk.h))) Tks.n)) ?_
        (refine GO.nil ?_; refine kthen_n ?_; refine G.seq ?_; refine G.region ?_; refine GO.loadW rfl rfl rfl (Tk.t Tk.h) rfl ?_; refine GO.storeW rfl rfl (Tk.t (Tk.t (Tk.t (Tk.t (Tk.t Tk.h))))) ⟨rfl, rfl⟩ (by simp [Value.oneCell']; assumption) ?_; refine GO.assign rfl rfl ?_; refine GO.nil ?_; refine kthen_n ?_; refine G.ret ?_)
        refine KF.r2 rfl (RV.cW rfl rfl Tk.h rfl) (RV.t rfl) (.inl ⟨hok, by rw [hnn]; exact hall, o1, o2, _, star [q6, z], hR1, hS1, hR2, hS2, rfl, ⟨v2, rfl, hc2.prs (Sup.right _ _) (h6.sup (Sup.left _ _))⟩, rfl⟩) ?_
        ((refine Sb.c (Tk.t Tk.h) ?_; refine Sb.c (Tk.t (Tk.t (Tk.t (Tk.t Tk.h)))) ?_); (refine Sb.s ?_; refine Sb.s ?_; refine Sb.s ?_; refine Sb.s ?_; exact Sb.r))
      · dsimp only at hall ⊢
        refine GO.mem (H' := star [star [own 42 2 xs.length pv (pvs xs), z], q] :: pt b4 (row [i64 0, .slice none 0 0] 24) :: F) (by ((refine Sb.c Tk.h ?_; refine Sb.c (Tk.t (Tk.t Tk.h)) ?_); (refine Sb.s ?_; refine Sb.s ?_; exact Sb.r))) ?_
        refine GO.flat ?_
        refine GO.flat ?_
        (refine GO.move rfl rfl ?_; refine GO.extract rfl rfl rfl ?_; refine GO.extract rfl rfl rfl ?_; refine GO.alloc rfl fun b11 => ?_; refine GO.store1 rfl rfl rfl Tk.h (by decide) ?_; refine GO.assign rfl rfl ?_; refine GO.nil ?_; refine kthen_n ?_; refine G.seq ?_; refine G.seq ?_; refine G.region ?_; refine GO.move rfl rfl ?_; refine GO.nei rfl rfl rfl ?_; refine GO.nil ?_; refine kthen_n ?_; refine G.condT rfl rfl ?_; refine G.seq ?_; refine G.region ?_; refine GO.build0 rfl ?_; refine GO.move rfl rfl ?_; refine GO.storeW rfl rfl (Tk.t (Tk.t (Tk.t (Tk.t Tk.h)))) ⟨rfl, rfl⟩ (by simp [Value.oneCell']) ?_; refine GO.assign rfl rfl ?_; refine GO.nil ?_; refine kthen_n ?_; refine G.ret ?_; refine kthen_r ?_)
        refine KF.r2 rfl (RV.cW rfl rfl Tk.h rfl) (RV.t rfl) (.inr (.inl ⟨hok, hall, rfl, rfl⟩)) ?_
        ((refine Sb.c (Tk.t (Tk.t (Tk.t (Tk.t Tk.h)))) ?_); (refine Sb.s ?_; refine Sb.s ?_; refine Sb.s ?_; refine Sb.s ?_; exact Sb.r))
      · rw [okC_filter _ hok] at h1; cases h1
  · (refine GO.move rfl rfl ?_; refine GO.extract rfl rfl rfl ?_; refine GO.extract rfl rfl rfl ?_; refine GO.assign rfl rfl ?_; refine GO.assign rfl rfl ?_; refine GO.nil ?_; refine kthen_n ?_; refine G.seq ?_; refine G.seq ?_; refine G.region ?_; refine GO.move rfl rfl ?_; refine GO.nei rfl rfl rfl ?_; refine GO.nil ?_; refine kthen_n ?_; refine G.condT rfl rfl ?_; refine G.seq ?_; refine G.region ?_; refine GO.build0 rfl ?_; refine GO.move rfl rfl ?_; refine GO.storeW rfl rfl (Tk.t Tk.h) ⟨rfl, rfl⟩ (by simp [Value.oneCell']) ?_; refine GO.assign rfl rfl ?_; refine GO.nil ?_; refine kthen_n ?_; refine G.ret ?_; refine kthen_r ?_)
    refine KF.r2 rfl (RV.cW rfl rfl Tk.h rfl) (RV.t rfl) (.inr (.inr ⟨hok, rfl, rfl⟩)) ?_
    ((refine Sb.c (Tk.t Tk.h) ?_); (refine Sb.s ?_; refine Sb.s ?_; exact Sb.r))
end Go.Proofs.Ytcemehocbemfmaa
