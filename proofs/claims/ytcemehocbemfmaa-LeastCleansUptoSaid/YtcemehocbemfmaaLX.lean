/-
  The reference's Used: its walk.
-/
import Derived.Test.YtcemehocbemfmaaLW
namespace Go.Proofs.Ytcemehocbemfmaa
open Go
attribute [local irreducible] G GO GR GT Fn FnV pt init exs pur sat own ImpS
theorem intsV_last (l : List Int) (x : Int) : (intsV (l ++ [x]))[l.length]? = some (i64 x) := by simp [intsV]
theorem intsV_cut (l : List Int) (x : Int) : (intsV (l ++ [x])).take (l.length * 1) = intsV l := by simp [intsV]
theorem intsV_add (l : List Int) (x : Int) : intsV l ++ putParts [i64 x] = intsV (l ++ [x]) := by simp [intsV, putParts, Value.cells]
theorem lastI {ws : List Int} (h : 0 < ws.length) : ∃ l k, ws = l ++ [k] :=
  have h0 : ws ≠ [] := fun e => by rw [e] at h; simp at h
  ⟨ws.dropLast, ws.getLast h0, (List.dropLast_concat_getLast h0).symm⟩
/-- What the reference's Used answers. -/
def RUsedR (C : CnfD) (fr : List Int) (n : Nat) (q : HP) (r : Value) (Q : List HP) : Prop :=
  (inAll n fr = true ∧ ∃ b o, r = .tuple [.slice (some ⟨b, 0, none⟩) n n, i64 0].toArray ∧ (∀ i, o i = true ↔ Rch C.prods fr i) ∧ Q = [pt b (row (boolsV o n) 4), q]) ∨
  (inAll n fr = false ∧ r = .tuple [.slice none 0 0, i64 2].toArray ∧ Q = [q])
set_option maxHeartbeats 8000000 in
set_option maxRecDepth 20000 in
theorem rused_spec (q : HP) (v fv : Value) (C : CnfD) (fr : List Int) (n : Nat) (hv : CnfR q v C) (hz : Fits C) (hfr : IntsR q fv fr) (hfl : fr.length ≤ 2097152) (hT : tot C.prods ≤ 2097152) (hn : C.nts = n) (hn2 : n ≤ 1024) (hin : ∀ p ∈ C.prods, prodIn n p) :
    Fn Try.prog 22 #[v, fv] [q] (RUsedR C fr n q) := by
  obtain ⟨pv, rfl, hp⟩ := hv
  obtain ⟨a0, cap0, rfl⟩ := hp.form
  obtain ⟨af, capf, rfl⟩ := hfr.form
  have hz1 := hz.1
  rw [hn]
  refine Fn.mk Try.func22 rfl rfl fun w0 F => ?_
  (refine G.seq ?_; refine G.region ?_; refine GO.box rfl rfl rfl fun b2 => ?_; refine GO.assign rfl rfl ?_; refine GO.assign rfl rfl ?_; refine GO.nil ?_; refine kthen_n ?_; refine G.seq ?_; refine G.region ?_; refine GO.fieldAddr rfl rfl ?_; refine GO.load1 rfl rfl rfl Tk.h rfl ?_)
  refine GO.make1 (n := n) rfl rfl rfl ⟨rfl, rfl⟩ ⟨by omega, by omega⟩ fun bo => ?_
  rw [rowV_const (f := Value.bool)]
  (refine GO.assign rfl rfl ?_; refine GO.nil ?_; refine kthen_n ?_; refine G.seq ?_; refine G.region ?_; refine GO.assign rfl rfl ?_; refine GO.nil ?_; refine kthen_n ?_; refine G.seq ?_; refine G.seq ?_; refine G.region ?_; refine GO.assign rfl rfl ?_; refine GO.nil ?_; refine kthen_n ?_; refine G.block ?_)
  refine G.ownNil (T := 3) (sz := 1) ?_
  refine G.loop2 (fun (k : Nat) (vp : Value) => [(1, .slice af fr.length capf), (2, .pointer (some ⟨b2, 0, none⟩)), (6, .slice (some ⟨bo, 0, none⟩) n n), (7, vp), (8, i64 k)])
    (fun k vp => own 3 1 k vp (intsV (fr.take k)) :: pt bo (row (boolsV (fun _ => false) n) 4) :: pt b2 (row [i64 n, .slice a0 C.prods.length cap0] 24) :: q :: F) (fun k _ => k ≤ fr.length ∧ inAll n (fr.take k) = true) (fun k _ => fr.length - k) 0 (.slice none 0 0) ⟨by omega, rfl⟩ ?_ ?_ ?_
  · (refine SubE.c rfl rfl ?_; refine SubE.c rfl rfl ?_; refine SubE.c rfl rfl ?_; refine SubE.c rfl rfl ?_; refine SubE.c rfl rfl ?_; exact SubE.n)
  · ((refine Sb.c Tk.h ?_; refine Sb.c Tk.h ?_; refine Sb.c Tk.h ?_; refine Sb.c Tk.h ?_); (exact Sb.r))
  rintro k vp ⟨hk, hall⟩
  (refine G.seq ?_; refine G.seq ?_; refine G.region ?_; refine GO.move rfl rfl ?_; refine GO.move rfl rfl ?_; refine GO.lenS rfl rfl ?_; refine GO.lti rfl rfl rfl ?_; refine GO.nil ?_; refine kthen_n ?_)
  refine G.condD rfl (fun hlt => ?_) (fun hge => ?_)
  · have hkl : k < fr.length := by omega
    obtain ⟨x, hx⟩ : ∃ x : Int, fr[k]? = some x := ⟨fr[k], by simp [hkl]⟩
    obtain ⟨b, o', rfl, _, r1⟩ := hfr.at hx
    (refine G.skip ?_; refine kthen_n ?_; refine G.seq ?_; refine G.block ?_; refine G.seq ?_; refine G.seq ?_)
    cases hx0 : decide (x < 0) with
    | true =>
      refine G.draw 14 (by kernel_rfl) ?_
      ((apply GQ.step; focus (intro Z; refine GO.move rfl rfl ?_; exact KQ.z)); (apply GQ.step; focus (intro Z; refine GO.move rfl rfl ?_; exact KQ.z)); (apply GQ.step; focus (intro Z; refine GO.idxS rfl rfl rfl ⟨rfl, by omega⟩ ?_; exact KQ.z)); (apply GQ.step; focus (intro Z; refine GO.loadQ rfl rfl rfl (Tk.t (Tk.t (Tk.t Tk.h))) (by assumption) ?_; exact KQ.z)); (apply GQ.step; focus (intro Z; refine GO.lti rfl rfl rfl ?_; exact KQ.z)); (apply GQ.step; focus (intro Z; refine GO.move rfl rfl ?_; exact KQ.z)); (apply GQ.step; focus (intro Z; refine GO.gF rfl rfl rfl (by assumption) ?_; exact KQ.z)); (apply GQ.step; focus (intro Z; refine GO.gF rfl rfl rfl (by assumption) ?_; exact KQ.z)); (apply GQ.step; focus (intro Z; refine GO.gF rfl rfl rfl (by assumption) ?_; exact KQ.z)); (apply GQ.step; focus (intro Z; refine GO.gF rfl rfl rfl (by assumption) ?_; exact KQ.z)); (apply GQ.step; focus (intro Z; refine GO.gF rfl rfl rfl (by assumption) ?_; exact KQ.z)); (apply GQ.step; focus (intro Z; refine GO.gF rfl rfl rfl (by assumption) ?_; exact KQ.z)); (apply GQ.step; focus (intro Z; refine GO.gF rfl rfl rfl (by assumption) ?_; exact KQ.z)); (apply GQ.step; focus (intro Z; refine GO.pickTa rfl rfl (by assumption) rfl ?_; exact KQ.z)); refine GQ.nil ?_)
      (refine GO.nil ?_; refine kthen_n ?_; refine G.condT rfl rfl ?_; refine G.seq ?_; refine G.region ?_; refine GO.assign rfl rfl ?_; refine GO.assign rfl rfl ?_; refine GO.nil ?_; refine kthen_n ?_; refine G.ret ?_; refine kthen_r ?_; refine kblock_r ?_; refine kthen_r ?_; refine kthen_r ?_; refine kblock_r ?_; refine kthen_r ?_)
      refine KF.r2 rfl (RV.t rfl) (RV.t rfl) (.inr ⟨inAll_not hx (by simp at hx0; omega), rfl, rfl⟩) ?_
      ((refine Sb.c (Tk.t (Tk.t (Tk.t Tk.h))) ?_); (refine Sb.s ?_; refine Sb.s ?_; refine Sb.s ?_; exact Sb.r))
    | false =>
      simp only [decide_eq_false_iff_not] at hx0
      obtain ⟨x, rfl⟩ := Int.eq_ofNat_of_zero_le (show 0 ≤ x by omega)
      have hx0' : decide ((x : Int) < 0) = false := by simp
      refine G.draw 14 (by kernel_rfl) ?_
      ((apply GQ.step; focus (intro Z; refine GO.move rfl rfl ?_; exact KQ.z)); (apply GQ.step; focus (intro Z; refine GO.move rfl rfl ?_; exact KQ.z)); (apply GQ.step; focus (intro Z; refine GO.idxS rfl rfl rfl ⟨rfl, by omega⟩ ?_; exact KQ.z)); (apply GQ.step; focus (intro Z; refine GO.loadQ rfl rfl rfl (Tk.t (Tk.t (Tk.t Tk.h))) (by assumption) ?_; exact KQ.z)); (apply GQ.step; focus (intro Z; refine GO.lti rfl rfl rfl ?_; exact KQ.z)); (apply GQ.step; focus (intro Z; refine GO.move rfl rfl ?_; exact KQ.z)); (apply GQ.step; focus (intro Z; refine GO.gT rfl rfl rfl ?_; refine GO.move rfl rfl ?_; exact KQ.z)); (apply GQ.step; focus (intro Z; refine GO.gT rfl rfl rfl ?_; refine GO.move rfl rfl ?_; exact KQ.z)); (apply GQ.step; focus (intro Z; refine GO.gT rfl rfl rfl ?_; refine GO.idxS rfl rfl rfl ⟨rfl, by omega⟩ ?_; exact KQ.z)); (apply GQ.step; focus (intro Z; refine GO.gT rfl rfl rfl ?_; refine GO.loadQ rfl rfl rfl (Tk.t (Tk.t (Tk.t Tk.h))) (by assumption) ?_; exact KQ.z)); (apply GQ.step; focus (intro Z; refine GO.gT rfl rfl rfl ?_; refine GO.fieldAddr rfl rfl ?_; exact KQ.z)); (apply GQ.step; focus (intro Z; refine GO.gT rfl rfl rfl ?_; refine GO.load1 rfl rfl rfl (Tk.t (Tk.t Tk.h)) rfl ?_; exact KQ.z)); (apply GQ.step; focus (intro Z; refine GO.gT rfl rfl rfl ?_; refine GO.gei rfl rfl rfl ?_; exact KQ.z)); (apply GQ.step; focus (intro Z; refine GO.pickF rfl rfl rfl ?_; exact KQ.z)); refine GQ.nil ?_)
      (refine GO.nil ?_; refine kthen_n ?_)
      refine G.condD rfl (fun hge => ?_) (fun hlt2 => ?_)
      · (refine G.seq ?_; refine G.region ?_; refine GO.assign rfl rfl ?_; refine GO.assign rfl rfl ?_; refine GO.nil ?_; refine kthen_n ?_; refine G.ret ?_; refine kthen_r ?_; refine kblock_r ?_; refine kthen_r ?_; refine kthen_r ?_; refine kblock_r ?_; refine kthen_r ?_)
        refine KF.r2 rfl (RV.t rfl) (RV.t rfl) (.inr ⟨inAll_not hx (by omega), rfl, rfl⟩) ?_
        ((refine Sb.c (Tk.t (Tk.t (Tk.t Tk.h))) ?_); (refine Sb.s ?_; refine Sb.s ?_; refine Sb.s ?_; exact Sb.r))
      · (refine G.skip ?_; refine kthen_n ?_; refine G.region ?_; refine GO.move rfl rfl ?_; refine GO.move rfl rfl ?_; refine GO.move rfl rfl ?_; refine GO.idxS rfl rfl rfl ⟨rfl, by omega⟩ ?_; refine GO.loadQ rfl rfl rfl (Tk.t (Tk.t (Tk.t Tk.h))) (by assumption) ?_)
        refine GO.buildSlice1 rfl rfl (by simp; rfl) rfl ⟨by omega, by omega⟩ fun b41 => ?_
        refine GO.appendOwn (m := 1) rfl rfl rfl (Tk.t Tk.h) Tk.h rfl (by simp [putParts, Value.cells]; rfl) ⟨Nat.one_pos, rfl⟩ Nat.one_pos (by unfold maxLen; omega) (by omega) fun v2 => ?_
        have e1 : fr.take (k + 1) = fr.take k ++ [(x : Int)] := by rw [List.take_add_one, hx]; rfl
        rw [intsV_add, ← e1]
        (refine GO.assign rfl rfl ?_; refine GO.nil ?_; refine kblock_n ?_; refine kthen_n ?_; refine G.region ?_; refine GO.move rfl rfl ?_; refine GO.addi rfl rfl rfl (by omega) ?_; refine GO.assign rfl rfl ?_; refine GO.nil ?_; refine kthen_n ?_)
        refine ⟨k + 1, v2, ⟨by omega, ?_⟩, by omega, ?_, ?_⟩
        · unfold inAll at hall ⊢
          rw [e1, List.all_append, hall]
          simp; omega
        · (refine SubE.c rfl rfl ?_; refine SubE.c rfl rfl ?_; refine SubE.c rfl rfl ?_; refine SubE.c rfl rfl ?_; refine SubE.c rfl rfl ?_; exact SubE.n)
        · ((refine Sb.c Tk.h ?_; refine Sb.c (Tk.t Tk.h) ?_; refine Sb.c (Tk.t Tk.h) ?_; refine Sb.c (Tk.t Tk.h) ?_); (refine Sb.s ?_; exact Sb.r))
  · have : k = fr.length := by omega
    subst this
    rw [List.take_length] at hall ⊢
    (refine G.exit ?_; refine kthen_x ?_; refine kthen_x ?_; refine kblock_x ?_; refine kthen_n ?_; refine G.seq ?_; refine G.block ?_)
    generalize hTT : tot C.prods = T at hT
    have hB0 : fr.length + falses (fun _ => false) n * T ≤ 4294967296 := by
      have h1 : falses (fun _ => false) n ≤ n := by have := List.countP_le_length (l := List.range n) (p := fun i => !(fun _ => false) i); unfold falses; simp at this ⊢
      have h2 := Nat.mul_le_mul (Nat.le_trans h1 hn2) hT
      omega
    refine G.loop3 (fun (o : Nat → Bool) (l : List Int) (vp : Value) => [(2, .pointer (some ⟨b2, 0, none⟩)), (6, .slice (some ⟨bo, 0, none⟩) n n), (7, vp)])
      (fun o l vp => own 3 1 l.length vp (intsV l) :: pt bo (row (boolsV o n) 4) :: pt b2 (row [i64 n, .slice a0 C.prods.length cap0] 24) :: q :: F)
      (fun o l _ => Pile C.prods fr n o l ∧ l.length + falses o n * T ≤ 4294967296) (fun o l _ => falses o n * (T + 1) + l.length) (fun _ => false) fr vp ⟨Pile.start hall, hB0⟩ ?_ ?_ ?_
    · (refine SubE.c rfl rfl ?_; refine SubE.c rfl rfl ?_; refine SubE.c rfl rfl ?_; exact SubE.n)
    · ((refine Sb.c Tk.h ?_; refine Sb.c Tk.h ?_; refine Sb.c Tk.h ?_; refine Sb.c Tk.h ?_); (exact Sb.r))
    rintro o l vp ⟨hP, hB⟩
    have hlen : l.length ≤ 4294967296 := by omega
    (refine G.seq ?_; refine G.seq ?_; refine G.region ?_; refine GO.move rfl rfl ?_; refine GO.lenOwn rfl rfl Tk.h ?_; refine GO.gti rfl rfl rfl ?_; refine GO.nil ?_; refine kthen_n ?_)
    refine G.condD rfl (fun hlt2 => ?_) (fun hge2 => ?_)
    · obtain ⟨l, x, rfl⟩ := lastI (ws := l) (by omega)
      have hll : (l ++ [x]).length = l.length + 1 := by simp
      obtain ⟨hx1, hx2⟩ := hP.inn x (by simp)
      obtain ⟨x, rfl⟩ := Int.eq_ofNat_of_zero_le hx1
      have hxn : x < n := by omega
      (refine G.skip ?_; refine kthen_n ?_; refine G.block ?_; refine G.seq ?_; refine G.region ?_; refine GO.move rfl rfl ?_; refine GO.move rfl rfl ?_; refine GO.lenOwn rfl rfl Tk.h ?_; refine GO.subi rfl rfl rfl (by omega) ?_)
      refine GO.getOwn rfl rfl rfl rfl rfl (j := l.length) ⟨by rw [hll]; omega, by rw [hll]; omega⟩ Tk.h (intsV_last l x) fun pv => ?_
      (refine GO.assign rfl rfl ?_; refine GO.nil ?_; refine kthen_n ?_; refine G.seq ?_; refine G.region ?_; refine GO.move rfl rfl ?_; refine GO.move rfl rfl ?_; refine GO.lenOwn rfl rfl Tk.h ?_; refine GO.subi rfl rfl rfl (by omega) ?_)
      refine GO.cutOwn rfl rfl rfl (h := l.length) ⟨by rw [hll]; omega, by rw [hll]; omega⟩ Tk.h fun v1 => ?_
      rw [intsV_cut]
      (refine GO.assign rfl rfl ?_; refine GO.nil ?_; refine kthen_n ?_; refine G.seq ?_; refine G.seq ?_; refine G.region ?_; refine GO.move rfl rfl ?_; refine GO.move rfl rfl ?_; refine GO.idxS rfl rfl rfl ⟨rfl, by omega⟩ ?_; refine GO.load1 rfl rfl rfl (Tk.t Tk.h) (rowV_get1 (by assumption)) ?_; refine GO.nil ?_; refine kthen_n ?_)
      cases hox : o x with
      | true =>
        (refine G.condT rfl rfl ?_; refine G.exit ?_; refine kthen_x ?_; refine kblock_x ?_; refine kthen_n ?_)
        refine ⟨o, l, v1, ⟨hP.skip hox, by omega⟩, by omega, ?_, ?_⟩
        · (refine SubE.c rfl rfl ?_; refine SubE.c rfl rfl ?_; refine SubE.c rfl rfl ?_; exact SubE.n)
        · ((refine Sb.c Tk.h ?_; refine Sb.c Tk.h ?_; refine Sb.c Tk.h ?_; refine Sb.c Tk.h ?_); (exact Sb.r))
      | false =>
        have hlk := hP.look hin
        have hf := falses_lt hxn hox
        have hm := Nat.mul_le_mul_right T (show falses (upd o x true) n + 1 ≤ falses o n from hf)
        have hm1 := Nat.mul_le_mul_right (T + 1) (show falses (upd o x true) n + 1 ≤ falses o n from hf)
        rw [Nat.succ_mul] at hm hm1
        rw [Int.toNat_natCast] at hlk
        have hpl := push_len C.prods x
        rw [hTT] at hpl
        (refine G.condF rfl rfl ?_; refine G.skip ?_; refine kthen_n ?_; refine G.seq ?_; refine G.region ?_; refine GO.move rfl rfl ?_; refine GO.move rfl rfl ?_; refine GO.idxS rfl rfl rfl ⟨rfl, by omega⟩ ?_)
        refine GO.store1 rfl rfl rfl (Tk.t Tk.h) (by rw [rowV_len]; omega) ?_
        rw [rowV_set]
        (refine GO.nil ?_; refine kthen_n ?_; refine G.seq ?_; refine G.region ?_; refine GO.assign rfl rfl ?_; refine GO.nil ?_; refine kthen_n ?_; refine G.block ?_)
        have hz1 := hz.1
        have e0 : l ++ push (C.prods.take 0) x = l := by simp [push]
        refine G.loop2 (fun (i : Nat) (vp : Value) => [(2, .pointer (some ⟨b2, 0, none⟩)), (6, .slice (some ⟨bo, 0, none⟩) n n), (7, vp), (9, i64 x), (10, i64 i)])
          (fun i vp => own 3 1 (l ++ push (C.prods.take i) x).length vp (intsV (l ++ push (C.prods.take i) x)) :: pt bo (row (boolsV (upd o x true) n) 4) :: pt b2 (row [i64 n, .slice a0 C.prods.length cap0] 24) :: q :: F)
          (fun i _ => i ≤ C.prods.length) (fun i _ => C.prods.length - i) 0 v1 (by omega) ?_ ?_ ?_
        · (refine SubE.c rfl rfl ?_; refine SubE.c rfl rfl ?_; refine SubE.c rfl rfl ?_; refine SubE.c rfl rfl ?_; refine SubE.c rfl rfl ?_; exact SubE.n)
        · rw [e0]; ((refine Sb.c (Tk.t Tk.h) ?_; refine Sb.c Tk.h ?_; refine Sb.c Tk.h ?_; refine Sb.c Tk.h ?_); (exact Sb.r))
        rintro i vp hi
        (refine G.seq ?_; refine G.seq ?_; refine G.region ?_; refine GO.move rfl rfl ?_; refine GO.fieldAddr rfl rfl ?_; refine GO.load1 rfl rfl rfl (Tk.t (Tk.t Tk.h)) rfl ?_; refine GO.lenS rfl rfl ?_; refine GO.lti rfl rfl rfl ?_; refine GO.nil ?_; refine kthen_n ?_)
        refine G.condD rfl (fun hlt3 => ?_) (fun hge3 => ?_)
        · have hil : i < C.prods.length := by omega
          obtain ⟨p, hpi⟩ : ∃ p, C.prods[i]? = some p := ⟨C.prods[i], by simp [hil]⟩
          have hpm := List.mem_of_getElem? hpi
          have hps := push_take hpi (i := x)
          have hpp := hin p hpm
          have hz2 := hz.2 p hpm
          have hb1 : (push (C.prods.take i) x).length ≤ T := Nat.le_trans (push_len _ x) (by rw [← hTT]; exact tot_take _ i)
          have hb2 : p.2.length ≤ T := by rw [← hTT]; exact tot_mem hpm
          obtain ⟨b, o', bv, rfl, _, r1, r2, hs⟩ := hp.at hpi
          obtain ⟨ab, capb, rfl⟩ := hs.form
          (refine G.skip ?_; refine kthen_n ?_; refine G.seq ?_; refine G.block ?_; refine G.seq ?_; refine G.seq ?_; refine G.region ?_; refine GO.fieldAddr rfl rfl ?_; refine GO.load1 rfl rfl rfl (Tk.t (Tk.t Tk.h)) rfl ?_; refine GO.move rfl rfl ?_; refine GO.idxS rfl rfl rfl ⟨rfl, by omega⟩ ?_; refine GO.fieldAddr rfl rfl ?_; refine GO.loadQ rfl rfl rfl (Tk.t (Tk.t (Tk.t Tk.h))) (by assumption) ?_; refine GO.move rfl rfl ?_; refine GO.nei rfl rfl rfl ?_; refine GO.nil ?_; refine kthen_n ?_)
          refine G.condD rfl (fun hne => ?_) (fun heq => ?_)
          · (refine G.exit ?_; refine kthen_x ?_; refine kblock_x ?_; refine kthen_n ?_; refine G.region ?_; refine GO.move rfl rfl ?_; refine GO.addi rfl rfl rfl (by omega) ?_; refine GO.assign rfl rfl ?_; refine GO.nil ?_; refine kthen_n ?_)
            refine ⟨i + 1, vp, by omega, by omega, ?_, ?_⟩
            · (refine SubE.c rfl rfl ?_; refine SubE.c rfl rfl ?_; refine SubE.c rfl rfl ?_; refine SubE.c rfl rfl ?_; refine SubE.c rfl rfl ?_; exact SubE.n)
            · rw [hps, if_neg (by have := hpp.1; omega), List.append_nil]; ((refine Sb.c Tk.h ?_; refine Sb.c Tk.h ?_; refine Sb.c Tk.h ?_; refine Sb.c Tk.h ?_); (exact Sb.r))
          · have hpx : p.1.toNat = x := by omega
            rw [if_pos hpx] at hps
            generalize hli : l ++ push (C.prods.take i) x = li
            have hlil : li.length ≤ l.length + T := by rw [← hli, List.length_append]; omega
            (refine G.skip ?_; refine kthen_n ?_; refine G.seq ?_; refine G.region ?_; refine GO.assign rfl rfl ?_; refine GO.nil ?_; refine kthen_n ?_; refine G.block ?_)
            have e1 : li ++ nts (p.2.take 0) = li := by simp [nts]
            refine G.loop2 (fun (j : Nat) (vp : Value) => [(2, .pointer (some ⟨b2, 0, none⟩)), (6, .slice (some ⟨bo, 0, none⟩) n n), (7, vp), (9, i64 x), (10, i64 i), (11, i64 j)])
              (fun j vp => own 3 1 (li ++ nts (p.2.take j)).length vp (intsV (li ++ nts (p.2.take j))) :: pt bo (row (boolsV (upd o x true) n) 4) :: pt b2 (row [i64 n, .slice (some ⟨b, o', none⟩) C.prods.length cap0] 24) :: q :: F)
              (fun j _ => j ≤ p.2.length) (fun j _ => p.2.length - j) 0 vp (by omega) ?_ ?_ ?_
            · (refine SubE.c rfl rfl ?_; refine SubE.c rfl rfl ?_; refine SubE.c rfl rfl ?_; refine SubE.c rfl rfl ?_; refine SubE.c rfl rfl ?_; refine SubE.c rfl rfl ?_; exact SubE.n)
            · rw [e1]; ((refine Sb.c Tk.h ?_; refine Sb.c Tk.h ?_; refine Sb.c Tk.h ?_; refine Sb.c Tk.h ?_); (exact Sb.r))
            rintro j vp hj
            (refine G.seq ?_; refine G.seq ?_; refine G.region ?_; refine GO.move rfl rfl ?_; refine GO.fieldAddr rfl rfl ?_; refine GO.load1 rfl rfl rfl (Tk.t (Tk.t Tk.h)) rfl ?_; refine GO.move rfl rfl ?_; refine GO.idxS rfl rfl rfl ⟨rfl, by omega⟩ ?_; refine GO.fieldAddr rfl rfl ?_; refine GO.loadQ rfl rfl rfl (Tk.t (Tk.t (Tk.t Tk.h))) (by assumption) ?_; refine GO.lenS rfl rfl ?_; refine GO.lti rfl rfl rfl ?_; refine GO.nil ?_; refine kthen_n ?_)
            refine G.condD rfl (fun hlt4 => ?_) (fun hge4 => ?_)
            · have hjl : j < p.2.length := by omega
              obtain ⟨⟨lb, m⟩, hsj⟩ : ∃ s : SymD, p.2[j]? = some s := ⟨p.2[j], by simp [hjl]⟩
              obtain ⟨b3, o3, rfl, _, r3, r4⟩ := hs.at hsj
              dsimp only at r3 r4
              have hnt := nts_take hsj
              have hb3 : (nts (p.2.take j)).length ≤ T := Nat.le_trans (nts_len _) (by rw [List.length_take]; omega)
              have hlj : (li ++ nts (p.2.take j)).length ≤ 17179869184 := by rw [List.length_append]; omega
              (refine G.skip ?_; refine kthen_n ?_; refine G.seq ?_; refine G.block ?_; refine G.seq ?_; refine G.region ?_; refine GO.fieldAddr rfl rfl ?_; refine GO.load1 rfl rfl rfl (Tk.t (Tk.t Tk.h)) rfl ?_; refine GO.move rfl rfl ?_; refine GO.idxS rfl rfl rfl ⟨rfl, by omega⟩ ?_; refine GO.fieldAddr rfl rfl ?_; refine GO.loadQ rfl rfl rfl (Tk.t (Tk.t (Tk.t Tk.h))) (by assumption) ?_; refine GO.move rfl rfl ?_; refine GO.idxS rfl rfl rfl ⟨rfl, by omega⟩ ?_; refine GO.load2 rfl rfl rfl (Tk.t (Tk.t (Tk.t Tk.h))) (by assumption) (by assumption) ?_; refine GO.alloc rfl fun b12 => ?_; refine GO.storeW rfl rfl Tk.h ⟨rfl, rfl⟩ (by simp [Value.oneCell']) ?_; refine GO.nil ?_; refine kthen_n ?_; refine G.seq ?_; refine G.region ?_; refine GO.fieldAddr rfl rfl ?_; refine GO.load1 rfl rfl rfl Tk.h rfl ?_; refine GO.not rfl rfl ?_; refine GO.nil ?_; refine kthen_n ?_)
              cases lb with
              | true =>
                (refine G.condF rfl rfl ?_; refine G.skip ?_; refine kblock_n ?_; refine kthen_n ?_; refine G.region ?_; refine GO.move rfl rfl ?_; refine GO.addi rfl rfl rfl (by omega) ?_; refine GO.assign rfl rfl ?_; refine GO.nil ?_; refine kthen_n ?_)
                refine ⟨j + 1, vp, by omega, by omega, ?_, ?_⟩
                · (refine SubE.c rfl rfl ?_; refine SubE.c rfl rfl ?_; refine SubE.c rfl rfl ?_; refine SubE.c rfl rfl ?_; refine SubE.c rfl rfl ?_; refine SubE.c rfl rfl ?_; exact SubE.n)
                · rw [hnt, if_pos rfl, List.append_nil]; ((refine Sb.c (Tk.t Tk.h) ?_; refine Sb.c (Tk.t Tk.h) ?_; refine Sb.c (Tk.t Tk.h) ?_; refine Sb.c (Tk.t Tk.h) ?_); (refine Sb.s ?_; exact Sb.r))
              | false =>
                rw [if_neg (by simp)] at hnt
                have hnt2 : li ++ nts (p.2.take (j + 1)) = (li ++ nts (p.2.take j)) ++ [m] := by rw [hnt, List.append_assoc]
                (refine G.condT rfl rfl ?_; refine G.region ?_; refine GO.move rfl rfl ?_; refine GO.fieldAddr rfl rfl ?_; refine GO.load1 rfl rfl rfl Tk.h rfl ?_)
                refine GO.buildSlice1 rfl rfl (by simp; rfl) rfl ⟨by omega, by omega⟩ fun b105 => ?_
                refine GO.appendOwn (m := 1) rfl rfl rfl (Tk.t (Tk.t Tk.h)) Tk.h rfl (by simp [putParts, Value.cells]; rfl) ⟨Nat.one_pos, rfl⟩ Nat.one_pos (by unfold maxLen; omega) (by omega) fun v2 => ?_
                rw [intsV_add]
                (refine GO.assign rfl rfl ?_; refine GO.nil ?_; refine kblock_n ?_; refine kthen_n ?_; refine G.region ?_; refine GO.move rfl rfl ?_; refine GO.addi rfl rfl rfl (by omega) ?_; refine GO.assign rfl rfl ?_; refine GO.nil ?_; refine kthen_n ?_)
                refine ⟨j + 1, v2, by omega, by omega, ?_, ?_⟩
                · (refine SubE.c rfl rfl ?_; refine SubE.c rfl rfl ?_; refine SubE.c rfl rfl ?_; refine SubE.c rfl rfl ?_; refine SubE.c rfl rfl ?_; refine SubE.c rfl rfl ?_; exact SubE.n)
                · rw [hnt2, List.length_append (bs := [m])]; ((refine Sb.c Tk.h ?_; refine Sb.c (Tk.t (Tk.t Tk.h)) ?_; refine Sb.c (Tk.t (Tk.t Tk.h)) ?_; refine Sb.c (Tk.t (Tk.t Tk.h)) ?_); (refine Sb.s ?_; refine Sb.s ?_; exact Sb.r))
            · have : j = p.2.length := by omega
              subst this
              rw [List.take_length]
              (refine G.exit ?_; refine kthen_x ?_; refine kthen_x ?_; refine kblock_x ?_; refine kblock_n ?_; refine kthen_n ?_; refine G.region ?_; refine GO.move rfl rfl ?_; refine GO.addi rfl rfl rfl (by omega) ?_; refine GO.assign rfl rfl ?_; refine GO.nil ?_; refine kthen_n ?_)
              refine ⟨i + 1, vp, by omega, by omega, ?_, ?_⟩
              · (refine SubE.c rfl rfl ?_; refine SubE.c rfl rfl ?_; refine SubE.c rfl rfl ?_; refine SubE.c rfl rfl ?_; refine SubE.c rfl rfl ?_; exact SubE.n)
              · rw [hps, ← List.append_assoc, hli]; ((refine Sb.c Tk.h ?_; refine Sb.c Tk.h ?_; refine Sb.c Tk.h ?_; refine Sb.c Tk.h ?_); (exact Sb.r))
        · have : i = C.prods.length := by omega
          subst this
          rw [List.take_length]
          (refine G.exit ?_; refine kthen_x ?_; refine kthen_x ?_; refine kblock_x ?_; refine kblock_n ?_; refine kthen_n ?_)
          refine ⟨upd o x true, l ++ push C.prods x, vp, ⟨hlk, ?_⟩, ?_, ?_, ?_⟩
          · rw [List.length_append]; omega
          · rw [List.length_append, hll]; omega
          · (refine SubE.c rfl rfl ?_; refine SubE.c rfl rfl ?_; refine SubE.c rfl rfl ?_; exact SubE.n)
          · ((refine Sb.c Tk.h ?_; refine Sb.c Tk.h ?_; refine Sb.c Tk.h ?_; refine Sb.c Tk.h ?_); (exact Sb.r))
    · have : l = [] := List.eq_nil_of_length_eq_zero (by omega)
      subst this
      have hd := hP.done
      (refine G.exit ?_; refine kthen_x ?_; refine kthen_x ?_; refine kblock_x ?_; refine kthen_n ?_; refine G.seq ?_; refine G.region ?_; refine GO.move rfl rfl ?_; refine GO.assign rfl rfl ?_; refine GO.assign rfl rfl ?_; refine GO.nil ?_; refine kthen_n ?_; refine G.ret ?_)
      refine KF.r2 rfl (RV.t rfl) (RV.t rfl) (.inl ⟨hall, bo, o, rfl, hd, rfl⟩) ?_
      ((refine Sb.c (Tk.t Tk.h) ?_; refine Sb.c (Tk.t (Tk.t Tk.h)) ?_); (refine Sb.s ?_; refine Sb.s ?_; exact Sb.r))
end Go.Proofs.Ytcemehocbemfmaa
