/-
  The reference's Clean.
-/
import Derived.Test.YtcemehocbemfmaaL3
import Derived.Test.YtcemehocbemfmaaLX
import Derived.Test.YtcemehocbemfmaaLO
namespace Go.Proofs.Ytcemehocbemfmaa
open Go
attribute [local irreducible] G GO GR GT Fn FnV pt init exs pur sat own ImpS
def keepL (s : Nat → Int) (p : ProdD) : Bool := decide (0 ≤ lg s p)
theorem tot_filter (f : ProdD → Bool) (ps : List ProdD) : tot (ps.filter f) ≤ tot ps := by
  unfold tot
  induction ps with
  | nil => simp
  | cons p ps ih =>
    rw [List.filter_cons]
    split
    · simp only [List.map_cons, List.sum_cons]; omega
    · simp only [List.map_cons, List.sum_cons]; omega
/-- What holds one piece holds the other. -/
def Imp1 (x y : HP) : Prop := ∀ l w, sat (x :: l) w → sat (y :: l) w
theorem Imp1.refl (x : HP) : Imp1 x x := fun _ _ s => s
theorem Imp1.trans {x y z : HP} (h : Imp1 x y) (k : Imp1 y z) : Imp1 x z := fun l w s => k l w (h l w s)
theorem Imp1.right (x y : HP) : Imp1 (star [x, y]) y := fun l w s => by
  have h : sat ([x, y] ++ l) w := sat_flat.1 s
  exact sat_right (l := [x]) (l' := y :: l) h
theorem Imp1.left (x y : HP) : Imp1 (star [x, y]) x := fun l w s => by
  have h : sat ([x, y] ++ l) w := sat_flat.1 s
  exact sat_right (l := [y]) (l' := x :: l) (sat_perm (List.Perm.swap _ _ _) h)
theorem GO.imp1 {P : Program} {c : Cx} {A : Array Oper} {os : List Oper} {K : Kont} {L : Env} {H F : List HP} {x y : HP} (h : Imp1 x y) (tk : Tk x H F) (k : GO P c A os K L (y :: F)) : GO P c A os K L H :=
  GO.take tk (GO.imp (fun l w s => h _ w s) k)
def RCleanR (C : CnfD) (fr : List Int) (n : Nat) (ps1 : List ProdD) (q : HP) (r : Value) (Q : List HP) : Prop :=
  (inAll n fr = true ∧ ∃ (o2 : Nat → Bool) (cs : Value) (z : HP), (∀ i, o2 i = true ↔ Rch ps1 fr i) ∧ r = .tuple [cs, i64 0].toArray ∧ CnfR z cs ⟨C.nts, ps1.filter fun p => o2 p.1.toNat⟩ ∧ Imp1 z q ∧ Q = [z]) ∨
  (inAll n fr = false ∧ r = .tuple [.agg [i64 0, .slice none 0 0].toArray, i64 2].toArray ∧ Q = [q])
set_option maxHeartbeats 8000000 in
set_option maxRecDepth 20000 in
theorem rclean_spec (q : HP) (v fv : Value) (C : CnfD) (fr : List Int) (n : Nat) (hv : CnfR q v C) (hz : Fits C) (hT : tot C.prods ≤ 2097152) (hfr : IntsR q fv fr) (hfl : fr.length ≤ 2097152) (hn : C.nts = n) (hn2 : n ≤ 1024) (hin : ∀ p ∈ C.prods, prodIn n p) :
    Fn Try.prog 24 #[v, fv] [q] (RCleanR C fr n (C.prods.filter (keepL (leastS C.prods n (n + 1) (fun _ => -1)))) q) := by
  have hv0 := hv
  have hz1 := hz.1
  obtain ⟨pv, rfl, hp⟩ := hv
  obtain ⟨a0, cap0, rfl⟩ := hp.form
  have hsh : Shorts (leastS C.prods n (n + 1) (fun _ => -1)) n := fun i hi => by rw [leastS_end hin i hi]; exact itR_in hin n i hi
  refine Fn.mk Try.func24 rfl rfl fun w0 F => ?_
  (refine G.seq ?_; refine G.region ?_; refine GO.box rfl rfl rfl fun b2 => ?_; refine GO.alloc rfl fun b4 => ?_; refine GO.assign rfl rfl ?_; refine GO.nil ?_; refine kthen_n ?_; refine G.seq ?_; refine G.region ?_; refine GO.loadW rfl rfl rfl (Tk.t Tk.h) rfl ?_)
  refine GO.call1 rfl rfl (rshortest_spec q _ C n hv0 hz hn hn2 hin) (Tks.c (Tk.t (Tk.t Tk.h)) Tks.n) ?_
  rintro _ _ ⟨y9, rfl, rfl⟩
  generalize leastS C.prods n (n + 1) (fun _ => -1) = s at hsh ⊢
  (refine GO.assign rfl rfl ?_; refine GO.nil ?_; refine kthen_n ?_; refine G.seq ?_; refine G.region ?_; refine GO.fieldAddr rfl rfl ?_; refine GO.load1 rfl rfl rfl (Tk.t (Tk.t (Tk.t Tk.h))) rfl ?_)
  refine GO.buildPart1 (built_cnf _) rfl rfl ?_
  (refine GO.alloc rfl fun b7 => ?_; refine GO.storeW rfl rfl Tk.h ⟨rfl, rfl⟩ (by simp [Value.oneCell']) ?_; refine GO.nil ?_; refine kthen_n ?_; refine G.seq ?_; refine G.seq ?_; refine G.region ?_; refine GO.assign rfl rfl ?_; refine GO.nil ?_; refine kthen_n ?_; refine G.block ?_)
  refine G.ownNil (T := 42) (sz := 2) ?_
  refine G.loop3 (fun (k : Nat) (_ : Value) (_ : List (Int × Value)) => [(1, fv), (2, .pointer (some ⟨b2, 0, none⟩)), (4, .pointer (some ⟨b4, 0, none⟩)), (6, .slice (some ⟨y9, 0, none⟩) n n), (7, .pointer (some ⟨b7, 0, none⟩)), (8, i64 k)])
    (fun k pv xs => own 42 2 xs.length pv (pvs xs) :: pt b7 (row [i64 C.nts, pv] 24) :: q :: pt y9 (row (numsV s n) 3) :: pt b2 (row [i64 C.nts, .slice a0 C.prods.length cap0] 24) :: pt b4 (row [i64 0, .slice none 0 0] 24) :: F)
    (fun k pv xs => k ≤ C.prods.length ∧ xs.length ≤ k ∧ Cp q ((C.prods.take k).filter (keepL s)) xs) (fun k _ _ => C.prods.length - k) 0 (.slice none 0 0) [] ⟨by omega, by simp, trivial⟩ ?_ ?_ ?_
  · (refine SubE.c rfl rfl ?_; refine SubE.c rfl rfl ?_; refine SubE.c rfl rfl ?_; refine SubE.c rfl rfl ?_; refine SubE.c rfl rfl ?_; refine SubE.c rfl rfl ?_; exact SubE.n)
  · ((refine Sb.c Tk.h ?_; refine Sb.c Tk.h ?_; refine Sb.c (Tk.t Tk.h) ?_; refine Sb.c Tk.h ?_; refine Sb.c (Tk.t Tk.h) ?_; refine Sb.c Tk.h ?_); (exact Sb.r))
  rintro k pv xs ⟨hk, hxk, hc⟩
  (refine G.seq ?_; refine G.seq ?_; refine G.region ?_; refine GO.move rfl rfl ?_; refine GO.fieldAddr rfl rfl ?_; refine GO.load1 rfl rfl rfl (Tk.t (Tk.t (Tk.t (Tk.t Tk.h)))) rfl ?_; refine GO.lenS rfl rfl ?_; refine GO.lti rfl rfl rfl ?_; refine GO.nil ?_; refine kthen_n ?_)
  refine G.condD rfl (fun hlt => ?_) (fun hge => ?_)
  · have hkl : k < C.prods.length := by omega
    obtain ⟨p, hpk⟩ : ∃ p, C.prods[k]? = some p := ⟨C.prods[k], by simp [hkl]⟩
    have hpm := List.mem_of_getElem? hpk
    have hz2 := hz.2 p hpm
    obtain ⟨b, o, bv, rfl, _, r1, r2, hs⟩ := hp.at hpk
    have hft := filter_take (f := keepL s) hpk
    refine G.ownOne Tk.h fun hone => ?_
    (refine G.skip ?_; refine kthen_n ?_; refine G.seq ?_; refine G.block ?_; refine G.seq ?_; refine G.region ?_; refine GO.fieldAddr rfl rfl ?_; refine GO.load1 rfl rfl rfl (Tk.t (Tk.t (Tk.t (Tk.t Tk.h)))) rfl ?_; refine GO.move rfl rfl ?_; refine GO.idxS rfl rfl rfl ⟨rfl, by omega⟩ ?_; refine GO.fieldAddr rfl rfl ?_; refine GO.loadQ rfl rfl rfl (Tk.t (Tk.t Tk.h)) (by assumption) ?_; refine GO.move rfl rfl ?_)
    refine GO.call2 rfl rfl rfl (rlong_spec q _ p.2 s n y9 hs (hin p hpm).2 (by omega) hsh) (Tks.c (Tk.t (Tk.t Tk.h)) (Tks.c (Tk.t (Tk.t Tk.h)) Tks.n)) ?_
    rintro _ _ ⟨rfl, rfl⟩
    (refine GO.gei rfl rfl rfl ?_; refine GO.nil ?_; refine kthen_n ?_)
    refine G.condD rfl (fun hkp => ?_) (fun hkp => ?_)
    · rw [show keepL s p = true from decide_eq_true hkp, if_pos rfl] at hft
      obtain ⟨ab, capb, rfl⟩ := hs.form
      refine G.drawT 10 384 [pt b7 (row [i64 C.nts, pv] 24), pt b2 (row [i64 C.nts, .slice (some ⟨b, o, none⟩) C.prods.length cap0] 24), q] (own 42 2 xs.length pv (pvs xs) :: pt y9 (row (numsV s n) 3) :: pt b4 (row [i64 0, .slice none 0 0] 24) :: F) (by kernel_rfl) (keys_of rfl) (ImpS.sb (by ((refine Sb.c (Tk.t (Tk.t (Tk.t Tk.h))) ?_; refine Sb.c (Tk.t (Tk.t (Tk.t Tk.h))) ?_; refine Sb.c Tk.h ?_; refine Sb.c (Tk.t Tk.h) ?_; refine Sb.c Tk.h ?_; refine Sb.c Tk.h ?_); (exact Sb.r)))) ?_
      ((apply GR.step rfl; focus (intro Z; refine GO.fieldAddr rfl rfl ?_; exact KQ.z)); (apply GR.step rfl; focus (intro Z; refine GO.load1 rfl rfl rfl Tk.h rfl ?_; exact KQ.z)); (apply GR.step rfl; focus (intro Z; refine GO.fieldAddr rfl rfl ?_; exact KQ.z)); (apply GR.step rfl; focus (intro Z; refine GO.load1 rfl rfl rfl (Tk.t Tk.h) rfl ?_; exact KQ.z)); (apply GR.step rfl; focus (intro Z; refine GO.move rfl rfl ?_; exact KQ.z)); (apply GR.step rfl; focus (intro Z; refine GO.idxS rfl rfl rfl ⟨rfl, by omega⟩ ?_; exact KQ.z)); (apply GR.step rfl; focus (intro Z; refine GO.load2 rfl rfl rfl (Tk.t (Tk.t Tk.h)) (by assumption) (by assumption) ?_; exact KQ.z)); refine GR.skip rfl ?_; refine GR.skip rfl ?_; (apply GR.step rfl; focus (intro Z; refine GO.fieldAddr rfl rfl ?_; exact KQ.z)); refine GR.nil ?_)
      (repeat refine GT.skip rfl ?_)
      refine GT.step rfl ?_
      refine GO.buildSlice1 rfl rfl (by simp; rfl) rfl ⟨by omega, by omega⟩ fun b6 => ?_
      refine GO.nil ⟨rfl, _, pt b6 (row [i64 p.1, .slice ab p.2.length capb] 42) :: own 42 2 xs.length pv (pvs xs) :: pt y9 (row (numsV s n) 3) :: pt b4 (row [i64 0, .slice none 0 0] 24) :: F, rfl, ImpS.sb (by ((refine Sb.c (Tk.t Tk.h) ?_; refine Sb.c (Tk.t Tk.h) ?_; refine Sb.c (Tk.t Tk.h) ?_; refine Sb.c Tk.h ?_; refine Sb.c Tk.h ?_; refine Sb.c Tk.h ?_; refine Sb.c Tk.h ?_); (exact Sb.r))), ?_⟩
      refine GT.step rfl ?_
      refine GO.appendOwn (m := 1) (news := [i64 p.1, .slice ab p.2.length capb]) rfl rfl rfl (Tk.t (Tk.t (Tk.t (Tk.t Tk.h)))) (Tk.t (Tk.t (Tk.t Tk.h))) rfl (by simp [Value.oneCell']) ⟨by decide, rfl⟩ Nat.one_pos (by unfold maxLen; omega) (by omega) fun v2 => ?_
      refine GO.ownOne Tk.h fun hone2 => ?_
      rw [show pvs xs ++ [i64 p.1, .slice ab p.2.length capb] = pvs (xs ++ [(p.1, .slice ab p.2.length capb)]) from (duo_append xs [(p.1, Value.slice ab p.2.length capb)]).symm, show xs.length + 1 = (xs ++ [(p.1, Value.slice ab p.2.length capb)]).length by simp]
      have hc2 := Cp.snoc (z := q) (p := p) (x := (p.1, .slice ab p.2.length capb)) rfl hs hc
      have hxl : (xs ++ [(p.1, Value.slice ab p.2.length capb)]).length ≤ k + 1 := by simp; exact hxk
      generalize xs ++ [(p.1, Value.slice ab p.2.length capb)] = xs2 at hc2 hxl ⊢
      refine GO.nil ⟨rfl, _, own 42 2 xs2.length v2 (pvs xs2) :: pt y9 (row (numsV s n) 3) :: pt b4 (row [i64 0, .slice none 0 0] 24) :: F, rfl, ImpS.sb (by ((refine Sb.c (Tk.t Tk.h) ?_; refine Sb.c (Tk.t Tk.h) ?_; refine Sb.c (Tk.t Tk.h) ?_; refine Sb.c Tk.h ?_; refine Sb.c (Tk.t Tk.h) ?_; refine Sb.c (Tk.t Tk.h) ?_); (refine Sb.s ?_; exact Sb.r))), ?_⟩
      (repeat refine GT.skip rfl ?_)
      refine GT.nil ?_
      refine GO.store1 rfl rfl hone2 Tk.h (by simp) ?_
      (refine GO.nil ?_; refine kblock_n ?_; refine kthen_n ?_; refine G.region ?_; refine GO.move rfl rfl ?_; refine GO.addi rfl rfl rfl (by omega) ?_; refine GO.assign rfl rfl ?_; refine GO.nil ?_; refine kthen_n ?_)
      refine ⟨k + 1, v2, xs2, ⟨by omega, hxl, by rw [hft]; exact hc2⟩, by omega, ?_, ?_⟩
      · (refine SubE.c rfl rfl ?_; refine SubE.c rfl rfl ?_; refine SubE.c rfl rfl ?_; refine SubE.c rfl rfl ?_; refine SubE.c rfl rfl ?_; refine SubE.c rfl rfl ?_; exact SubE.n)
      · ((refine Sb.c (Tk.t (Tk.t (Tk.t Tk.h))) ?_; refine Sb.c Tk.h ?_; refine Sb.c (Tk.t Tk.h) ?_; refine Sb.c (Tk.t Tk.h) ?_; refine Sb.c Tk.h ?_; refine Sb.c Tk.h ?_); (exact Sb.r))
    · rw [show keepL s p = false from decide_eq_false hkp, if_neg (by simp), List.append_nil] at hft
      (refine G.skip ?_; refine kblock_n ?_; refine kthen_n ?_; refine G.region ?_; refine GO.move rfl rfl ?_; refine GO.addi rfl rfl rfl (by omega) ?_; refine GO.assign rfl rfl ?_; refine GO.nil ?_; refine kthen_n ?_)
      refine ⟨k + 1, pv, xs, ⟨by omega, by omega, by rw [hft]; exact hc⟩, by omega, ?_, ?_⟩
      · (refine SubE.c rfl rfl ?_; refine SubE.c rfl rfl ?_; refine SubE.c rfl rfl ?_; refine SubE.c rfl rfl ?_; refine SubE.c rfl rfl ?_; refine SubE.c rfl rfl ?_; exact SubE.n)
      · ((refine Sb.c (Tk.t (Tk.t Tk.h)) ?_; refine Sb.c (Tk.t (Tk.t Tk.h)) ?_; refine Sb.c Tk.h ?_; refine Sb.c Tk.h ?_; refine Sb.c Tk.h ?_; refine Sb.c Tk.h ?_); (exact Sb.r))
  · have : k = C.prods.length := by omega
    subst this
    rw [List.take_length] at hc
    have hxl : xs.length = (C.prods.filter (keepL s)).length := hc.len
    refine G.ownOne Tk.h fun hone => ?_
    refine G.ownRd Tk.h fun q1 h1 => ?_
    have hC2 : CnfR (star [q1, q]) (.agg [i64 C.nts, pv].toArray) ⟨C.nts, C.prods.filter (keepL s)⟩ := ⟨pv, rfl, hc.prs (Sup.right _ _) (h1.sup (Sup.left _ _))⟩
    have hc' := hc.sup (Sup.right q1 q)
    have h1' := h1.sup (Sup.left q1 q)
    have hfr' := hfr.sup (Sup.right q1 q)
    have hfit := fits_filter (keepL s) hz
    have hin2 : ∀ p ∈ C.prods.filter (keepL s), prodIn n p := fun p hp => hin p (List.mem_filter.1 hp).1
    have hT2 : tot (C.prods.filter (keepL s)) ≤ 2097152 := Nat.le_trans (tot_filter _ _) hT
    refine G.merge (x := q1) (y := q) (Tks.c Tk.h (Tks.c (Tk.t Tk.h) Tks.n)) ?_
    have hzq := Imp1.right q1 q
    generalize star [q1, q] = z at hC2 hc' h1' hfr' hzq ⊢
    generalize C.prods.filter (keepL s) = ps1 at hC2 hc' hxl hfit hin2 hT2 ⊢
    clear hc h1
    (refine G.exit ?_; refine kthen_x ?_; refine kthen_x ?_; refine kblock_x ?_; refine kthen_n ?_; refine G.seq ?_; refine G.region ?_; refine GO.loadW rfl rfl rfl (Tk.t Tk.h) rfl ?_; refine GO.move rfl rfl ?_)
    refine GO.call2 rfl rfl rfl (rused_spec z _ fv ⟨C.nts, ps1⟩ fr n hC2 hfit hfr' hfl hT2 hn hn2 hin2) (Tks.c Tk.h Tks.n) ?_
    rintro _ _ (⟨hall, b, o2, rfl, hd, rfl⟩ | ⟨hall, rfl, rfl⟩)
    · dsimp only at hd
      (refine GO.move rfl rfl ?_; refine GO.extract rfl rfl rfl ?_; refine GO.extract rfl rfl rfl ?_; refine GO.assign rfl rfl ?_; refine GO.assign rfl rfl ?_; refine GO.nil ?_; refine kthen_n ?_; refine G.seq ?_; refine G.seq ?_; refine G.region ?_; refine GO.move rfl rfl ?_; refine GO.neF rfl rfl rfl rfl ?_; refine GO.nil ?_; refine kthen_n ?_; refine G.condF rfl rfl ?_; refine G.skip ?_; refine kthen_n ?_; refine G.seq ?_; refine G.region ?_; refine GO.fieldAddr rfl rfl ?_; refine GO.load1 rfl rfl rfl (Tk.t (Tk.t (Tk.t (Tk.t Tk.h)))) rfl ?_)
      refine GO.buildPart1 (built_cnf _) rfl rfl ?_
      (refine GO.alloc rfl fun b11 => ?_; refine GO.storeW rfl rfl Tk.h ⟨rfl, rfl⟩ (by simp [Value.oneCell']) ?_; refine GO.nil ?_; refine kthen_n ?_; refine G.seq ?_; refine G.seq ?_; refine G.region ?_; refine GO.assign rfl rfl ?_; refine GO.nil ?_; refine kthen_n ?_; refine G.block ?_)
      refine G.ownNil (T := 42) (sz := 2) ?_
      have hxk : xs.length ≤ C.prods.length := hxk
      refine G.loop3 (fun (k : Nat) (_ : Value) (_ : List (Int × Value)) => [(2, .pointer (some ⟨b2, 0, none⟩)), (4, .pointer (some ⟨b4, 0, none⟩)), (7, .pointer (some ⟨b7, 0, none⟩)), (9, .slice (some ⟨b, 0, none⟩) n n), (11, .pointer (some ⟨b11, 0, none⟩)), (12, i64 k)])
        (fun k pv2 ys => own 42 2 ys.length pv2 (pvs ys) :: pt b11 (row [i64 C.nts, pv2] 24) :: z :: pt b (row (boolsV o2 n) 4) :: pt b7 (row [i64 C.nts, pv] 24) :: pt b4 (row [i64 0, .slice none 0 0] 24) :: F)
        (fun k pv2 ys => k ≤ xs.length ∧ ys.length ≤ k ∧ Cp z ((ps1.take k).filter (fun p => o2 p.1.toNat)) ys) (fun k _ _ => xs.length - k) 0 (.slice none 0 0) [] ⟨by omega, by simp, trivial⟩ ?_ ?_ ?_
      · (refine SubE.c rfl rfl ?_; refine SubE.c rfl rfl ?_; refine SubE.c rfl rfl ?_; refine SubE.c rfl rfl ?_; refine SubE.c rfl rfl ?_; refine SubE.c rfl rfl ?_; exact SubE.n)
      · ((refine Sb.c Tk.h ?_; refine Sb.c Tk.h ?_; refine Sb.c (Tk.t Tk.h) ?_; refine Sb.c Tk.h ?_; refine Sb.c Tk.h ?_; refine Sb.c (Tk.t (Tk.t Tk.h)) ?_); (refine Sb.s ?_; refine Sb.s ?_; exact Sb.r))
      rintro k pv2 ys ⟨hk, hyk, hcy⟩
      obtain ⟨ax, capx, rfl⟩ : ∃ a cap, pv = .slice a xs.length cap := let ⟨a, cap, e, _⟩ := h1'; ⟨a, cap, e⟩
      refine G.ownOne Tk.h fun hone2 => ?_
      (refine G.seq ?_; refine G.seq ?_; refine G.region ?_; refine GO.move rfl rfl ?_; refine GO.fieldAddr rfl rfl ?_; refine GO.load1 rfl rfl rfl (Tk.t (Tk.t (Tk.t (Tk.t Tk.h)))) rfl ?_; refine GO.lenS rfl rfl ?_; refine GO.lti rfl rfl rfl ?_; refine GO.nil ?_; refine kthen_n ?_)
      refine G.condD rfl (fun hlt => ?_) (fun hge2 => ?_)
      · have hkl : k < ps1.length := by omega
        obtain ⟨p, hpk⟩ : ∃ p, ps1[k]? = some p := ⟨ps1[k], by simp [hkl]⟩
        obtain ⟨⟨hd1, u⟩, hxk2, e1, hsy⟩ := hc'.get hpk
        dsimp only at e1 hsy
        subst e1
        have hpp := (hin2 p (List.mem_of_getElem? hpk)).1
        have hft := filter_take (f := fun p : ProdD => o2 p.1.toNat) hpk
        obtain ⟨m, hm⟩ := Int.eq_ofNat_of_zero_le hpp.1
        have hmn : m < n := by omega
        obtain ⟨bx, ox, rfl, _, r1, r2⟩ := h1'.at2 hxk2
        dsimp only at r1 r2
        rw [hm] at r1
        rw [hm, Int.toNat_natCast] at hft
        (refine G.skip ?_; refine kthen_n ?_; refine G.seq ?_; refine G.block ?_; refine G.seq ?_; refine G.region ?_; refine GO.move rfl rfl ?_; refine GO.fieldAddr rfl rfl ?_; refine GO.load1 rfl rfl rfl (Tk.t (Tk.t (Tk.t (Tk.t Tk.h)))) rfl ?_; refine GO.move rfl rfl ?_; refine GO.idxS rfl rfl rfl ⟨rfl, by omega⟩ ?_; refine GO.fieldAddr rfl rfl ?_; refine GO.loadQ rfl rfl rfl (Tk.t (Tk.t Tk.h)) (by assumption) ?_; refine GO.idxS rfl rfl rfl ⟨rfl, by omega⟩ ?_; refine GO.load1 rfl rfl rfl (Tk.t (Tk.t (Tk.t Tk.h))) (rowV_get1 (by assumption)) ?_; refine GO.nil ?_; refine kthen_n ?_)
        cases ho : o2 m with
        | true =>
          rw [if_pos ho] at hft
          obtain ⟨ab, capb, rfl⟩ := hsy.form
          (refine G.condT rfl rfl ?_)
          refine G.drawT 10 384 [pt b11 (row [i64 C.nts, pv2] 24), pt b7 (row [i64 C.nts, .slice (some ⟨bx, ox, none⟩) xs.length capx] 24), z] (own 42 2 ys.length pv2 (pvs ys) :: pt b (row (boolsV o2 n) 4) :: pt b4 (row [i64 0, .slice none 0 0] 24) :: F) (by kernel_rfl) (keys_of rfl) (ImpS.sb (by ((refine Sb.c (Tk.t Tk.h) ?_; refine Sb.c (Tk.t (Tk.t (Tk.t Tk.h))) ?_; refine Sb.c (Tk.t Tk.h) ?_; refine Sb.c Tk.h ?_; refine Sb.c Tk.h ?_; refine Sb.c Tk.h ?_); (exact Sb.r)))) ?_
          ((apply GR.step rfl; focus (intro Z; refine GO.fieldAddr rfl rfl ?_; exact KQ.z)); (apply GR.step rfl; focus (intro Z; refine GO.load1 rfl rfl rfl Tk.h rfl ?_; exact KQ.z)); (apply GR.step rfl; focus (intro Z; refine GO.fieldAddr rfl rfl ?_; exact KQ.z)); (apply GR.step rfl; focus (intro Z; refine GO.load1 rfl rfl rfl (Tk.t Tk.h) rfl ?_; exact KQ.z)); (apply GR.step rfl; focus (intro Z; refine GO.move rfl rfl ?_; exact KQ.z)); (apply GR.step rfl; focus (intro Z; refine GO.idxS rfl rfl rfl ⟨rfl, by omega⟩ ?_; exact KQ.z)); (apply GR.step rfl; focus (intro Z; refine GO.load2 rfl rfl rfl (Tk.t (Tk.t Tk.h)) (by assumption) (by assumption) ?_; exact KQ.z)); refine GR.skip rfl ?_; refine GR.skip rfl ?_; (apply GR.step rfl; focus (intro Z; refine GO.fieldAddr rfl rfl ?_; exact KQ.z)); refine GR.nil ?_)
          (repeat refine GT.skip rfl ?_)
          refine GT.step rfl ?_
          refine GO.buildSlice1 rfl rfl (by simp; rfl) rfl ⟨by omega, by omega⟩ fun b6 => ?_
          refine GO.nil ⟨rfl, _, pt b6 (row [i64 m, .slice ab p.2.length capb] 42) :: own 42 2 ys.length pv2 (pvs ys) :: pt b (row (boolsV o2 n) 4) :: pt b4 (row [i64 0, .slice none 0 0] 24) :: F, rfl, ImpS.sb (by ((refine Sb.c (Tk.t Tk.h) ?_; refine Sb.c (Tk.t Tk.h) ?_; refine Sb.c (Tk.t Tk.h) ?_; refine Sb.c Tk.h ?_; refine Sb.c Tk.h ?_; refine Sb.c Tk.h ?_; refine Sb.c Tk.h ?_); (exact Sb.r))), ?_⟩
          refine GT.step rfl ?_
          refine GO.appendOwn (m := 1) (news := [i64 m, .slice ab p.2.length capb]) rfl rfl rfl (Tk.t (Tk.t (Tk.t (Tk.t Tk.h)))) (Tk.t (Tk.t (Tk.t Tk.h))) rfl (by simp [Value.oneCell']) ⟨by decide, rfl⟩ Nat.one_pos (by unfold maxLen; omega) (by omega) fun v2 => ?_
          refine GO.ownOne Tk.h fun hone3 => ?_
          rw [show pvs ys ++ [i64 m, .slice ab p.2.length capb] = pvs (ys ++ [((m : Int), .slice ab p.2.length capb)]) from (duo_append ys [((m : Int), Value.slice ab p.2.length capb)]).symm, show ys.length + 1 = (ys ++ [((m : Int), Value.slice ab p.2.length capb)]).length by simp]
          have hc2 := Cp.snoc (z := z) (p := p) (x := ((m : Int), .slice ab p.2.length capb)) hm.symm hsy hcy
          have hxl2 : (ys ++ [((m : Int), Value.slice ab p.2.length capb)]).length ≤ k + 1 := by simp; exact hyk
          generalize ys ++ [((m : Int), Value.slice ab p.2.length capb)] = xs2 at hc2 hxl2 ⊢
          refine GO.nil ⟨rfl, _, own 42 2 xs2.length v2 (pvs xs2) :: pt b (row (boolsV o2 n) 4) :: pt b4 (row [i64 0, .slice none 0 0] 24) :: F, rfl, ImpS.sb (by ((refine Sb.c (Tk.t Tk.h) ?_; refine Sb.c (Tk.t Tk.h) ?_; refine Sb.c (Tk.t Tk.h) ?_; refine Sb.c Tk.h ?_; refine Sb.c (Tk.t Tk.h) ?_; refine Sb.c (Tk.t Tk.h) ?_); (refine Sb.s ?_; exact Sb.r))), ?_⟩
          (repeat refine GT.skip rfl ?_)
          refine GT.nil ?_
          refine GO.store1 rfl rfl hone3 Tk.h (by simp) ?_
          (refine GO.nil ?_; refine kblock_n ?_; refine kthen_n ?_; refine G.region ?_; refine GO.move rfl rfl ?_; refine GO.addi rfl rfl rfl (by omega) ?_; refine GO.assign rfl rfl ?_; refine GO.nil ?_; refine kthen_n ?_)
          refine ⟨k + 1, v2, xs2, ⟨by omega, hxl2, by rw [hft]; exact hc2⟩, by omega, ?_, ?_⟩
          · (refine SubE.c rfl rfl ?_; refine SubE.c rfl rfl ?_; refine SubE.c rfl rfl ?_; refine SubE.c rfl rfl ?_; refine SubE.c rfl rfl ?_; refine SubE.c rfl rfl ?_; exact SubE.n)
          · ((refine Sb.c (Tk.t (Tk.t (Tk.t Tk.h))) ?_; refine Sb.c Tk.h ?_; refine Sb.c (Tk.t Tk.h) ?_; refine Sb.c (Tk.t Tk.h) ?_; refine Sb.c Tk.h ?_; refine Sb.c Tk.h ?_); (exact Sb.r))
        | false =>
          rw [if_neg (by rw [ho]; simp), List.append_nil] at hft
          (refine G.condF rfl rfl ?_; refine G.skip ?_; refine kblock_n ?_; refine kthen_n ?_; refine G.region ?_; refine GO.move rfl rfl ?_; refine GO.addi rfl rfl rfl (by omega) ?_; refine GO.assign rfl rfl ?_; refine GO.nil ?_; refine kthen_n ?_)
          refine ⟨k + 1, pv2, ys, ⟨by omega, by omega, by rw [hft]; exact hcy⟩, by omega, ?_, ?_⟩
          · (refine SubE.c rfl rfl ?_; refine SubE.c rfl rfl ?_; refine SubE.c rfl rfl ?_; refine SubE.c rfl rfl ?_; refine SubE.c rfl rfl ?_; refine SubE.c rfl rfl ?_; exact SubE.n)
          · ((refine Sb.c Tk.h ?_; refine Sb.c Tk.h ?_; refine Sb.c Tk.h ?_; refine Sb.c Tk.h ?_; refine Sb.c Tk.h ?_; refine Sb.c Tk.h ?_); (exact Sb.r))
      · have : k = ps1.length := by omega
        subst this
        rw [List.take_length] at hcy
        refine G.ownRd Tk.h fun q6 h6 => ?_
        refine G.merge (x := q6) (y := z) (Tks.c Tk.h (Tks.c (Tk.t Tk.h) Tks.n)) ?_
        (refine G.exit ?_; refine kthen_x ?_; refine kthen_x ?_; refine kblock_x ?_; refine kthen_n ?_; refine G.seq ?_; refine G.region ?_; refine GO.loadW rfl rfl rfl (Tk.t Tk.h) rfl ?_; refine GO.storeW rfl rfl (Tk.t (Tk.t (Tk.t (Tk.t Tk.h)))) ⟨rfl, rfl⟩ (by simp [Value.oneCell']; assumption) ?_; refine GO.assign rfl rfl ?_; refine GO.nil ?_; refine kthen_n ?_; refine G.ret ?_)
        refine KF.r2 rfl (RV.cW rfl rfl Tk.h rfl) (RV.t rfl) (.inl ⟨hall, o2, _, star [q6, z], hd, rfl, ⟨pv2, rfl, hcy.prs (Sup.right _ _) (h6.sup (Sup.left _ _))⟩, (Imp1.right q6 z).trans hzq, rfl⟩) ?_
        ((refine Sb.c (Tk.t Tk.h) ?_); (refine Sb.s ?_; refine Sb.s ?_; refine Sb.s ?_; refine Sb.s ?_; exact Sb.r))
    · refine GO.imp1 hzq Tk.h ?_
      (refine GO.move rfl rfl ?_; refine GO.extract rfl rfl rfl ?_; refine GO.extract rfl rfl rfl ?_; refine GO.assign rfl rfl ?_; refine GO.assign rfl rfl ?_; refine GO.nil ?_; refine kthen_n ?_; refine G.seq ?_; refine G.seq ?_; refine G.region ?_; refine GO.move rfl rfl ?_; refine GO.nei rfl rfl rfl ?_; refine GO.nil ?_; refine kthen_n ?_; refine G.condT rfl rfl ?_; refine G.seq ?_; refine G.region ?_; refine GO.build0 rfl ?_; refine GO.move rfl rfl ?_; refine GO.storeW rfl rfl (Tk.t (Tk.t (Tk.t (Tk.t Tk.h)))) ⟨rfl, rfl⟩ (by simp [Value.oneCell']) ?_; refine GO.assign rfl rfl ?_; refine GO.nil ?_; refine kthen_n ?_; refine G.ret ?_; refine kthen_r ?_)
      refine KF.r2 rfl (RV.cW rfl rfl Tk.h rfl) (RV.t rfl) (.inr ⟨hall, rfl, rfl⟩) ?_
      ((refine Sb.c (Tk.t Tk.h) ?_); (refine Sb.s ?_; refine Sb.s ?_; refine Sb.s ?_; refine Sb.s ?_; exact Sb.r))
end Go.Proofs.Ytcemehocbemfmaa
