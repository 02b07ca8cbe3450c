/-
  The closure of least.Shortest.
-/
import Derived.Test.YtjokibfldngkeaaLI
namespace Go.Proofs.Ytjokibfldngkeaa
open Go
attribute [local irreducible] G GO GR GT Fn FnV pt init exs pur sat own ImpS
def shoStep (s : Nat → Int) (p : ProdD) : (Nat → Int) × Bool :=
  match lenF s p.2 0 with
  | none => (s, false)
  | some m => if s p.1.toNat ≠ -1 ∧ s p.1.toNat ≤ m then (s, false) else (upd s p.1.toNat m, true)
abbrev shoM (n bs b5 : Nat) (s : Nat → Int) : List HP := [pt b5 (row [.slice (some ⟨bs, 0, none⟩) n n] 25), pt bs (row (numsV s n) 3)]
theorem lenF_in {s : Nat → Int} {n : Nat} (hsh : Shorts s n) : ∀ {ss : List SymD} {m k : Int}, (∀ x ∈ ss, symIn n x) → 0 ≤ m ∧ m ≤ 65 → lenF s ss m = some k → 0 ≤ k ∧ k ≤ 65
  | [], m, k, _, hm, h => by simp [lenF] at h; omega
  | (true, i) :: r, m, k, hi, hm, h => lenF_in (m := min 65 (m + 1)) hsh (fun x hx => hi x (List.mem_cons_of_mem _ hx)) (by omega) h
  | (false, i) :: r, m, k, hi, hm, h => by
    simp only [lenF] at h
    split at h
    · cases h
    · rename_i hne
      have h1 := hi (false, i) (by simp) rfl
      dsimp only at h1
      have h2 := hsh i.toNat (by omega)
      exact lenF_in hsh (fun x hx => hi x (List.mem_cons_of_mem _ hx)) (by omega) h
theorem shoStep_in {s : Nat → Int} {n : Nat} {p : ProdD} (hsh : Shorts s n) (hp : prodIn n p) : Shorts (shoStep s p).1 n := by
  unfold shoStep
  cases h : lenF s p.2 0 with
  | none => exact hsh
  | some m =>
    simp only
    split
    · exact hsh
    · intro i hi
      have := lenF_in hsh hp.2 (by omega) h
      simp only [upd]
      split
      · omega
      · exact hsh i hi
set_option maxHeartbeats 4000000 in
set_option maxRecDepth 20000 in
theorem shop_spec (q : HP) (s : Nat → Int) (n bs b5 : Nat) (p : ProdD) (bv : Value) (hb : SymsR q bv p.2) (hp : prodIn n p) (hn : p.2.length ≤ 9223372036854775807) (hsh : Shorts s n) :
    Fn Try.prog 38 #[prodV p bv, .pointer (some ⟨b5, 0, none⟩)] (q :: shoM n bs b5 s) (fun r Q => r = .bool (shoStep s p).2 ∧ Q = q :: shoM n bs b5 (shoStep s p).1) := by
  obtain ⟨h, ss⟩ := p
  obtain ⟨⟨h1, h2⟩, hss⟩ := hp
  dsimp only at h1 h2
  obtain ⟨k, rfl⟩ := Int.eq_ofNat_of_zero_le h1
  have hkn : k < n := by omega
  obtain ⟨ab, capb, rfl⟩ := hb.form
  refine Fn.mk Try.func38 rfl rfl fun w0 F => ?_
  (refine G.seq ?_; refine G.region ?_)
  refine GO.box rfl rfl rfl fun b2 => ?_
  (refine GO.assign rfl rfl ?_; refine GO.nil ?_; refine kthen_n ?_; refine G.seq ?_; refine G.region ?_; refine GO.fieldAddr rfl rfl ?_; refine GO.load1 rfl rfl rfl Tk.h rfl ?_; refine GO.load1 rfl rfl rfl (Tk.t (Tk.t Tk.h)) rfl ?_)
  refine GO.call2 rfl rfl rfl (length_spec q _ ss s n bs hb hss hn hsh) (Tks.c (Tk.t Tk.h) (Tks.c (Tk.t (Tk.t Tk.h)) Tks.n)) ?_
  rintro _ _ ⟨rfl, rfl⟩
  cases hl : lenF s ss 0 with
  | none =>
    have e : shoStep s ((k : Int), ss) = (s, false) := by unfold shoStep; simp only [hl]
    rw [e]
    unfold lenV
    (refine GO.move rfl rfl ?_; refine GO.extract rfl rfl rfl ?_; refine GO.extract rfl rfl rfl ?_; refine GO.assign rfl rfl ?_; refine GO.assign rfl rfl ?_; refine GO.nil ?_; refine kthen_n ?_; refine G.seq ?_; refine G.seq ?_; refine G.region ?_; refine GO.move rfl rfl ?_; refine GO.not rfl rfl ?_; refine GO.move rfl rfl ?_; refine GO.gF rfl rfl rfl rfl ?_; refine GO.gF rfl rfl rfl rfl ?_; refine GO.gF rfl rfl rfl rfl ?_; refine GO.gF rfl rfl rfl rfl ?_; refine GO.gF rfl rfl rfl rfl ?_; refine GO.gF rfl rfl rfl rfl ?_; refine GO.gF rfl rfl rfl rfl ?_; refine GO.gU rfl rfl rfl ?_; refine GO.gU rfl rfl rfl ?_; refine GO.gU rfl rfl rfl ?_; refine GO.gU rfl rfl rfl ?_; refine GO.gU rfl rfl rfl ?_; refine GO.gU rfl rfl rfl ?_; refine GO.gU rfl rfl rfl ?_; refine GO.gF rfl rfl rfl rfl ?_; refine GO.pickT rfl rfl rfl ?_; refine GO.nil ?_; refine kthen_n ?_; refine G.condT rfl rfl ?_; refine G.seq ?_; refine G.region ?_; refine GO.assign rfl rfl ?_; refine GO.nil ?_; refine kthen_n ?_; refine G.ret ?_; refine kthen_r ?_)
    refine KF.r1 rfl (RV.t rfl) ⟨rfl, rfl⟩ ?_
    ((refine Sb.c Tk.h ?_; refine Sb.c (Tk.t (Tk.t Tk.h)) ?_; refine Sb.c Tk.h ?_); (refine Sb.s ?_; exact Sb.r))
  | some m =>
    have hm := lenF_in hsh hss (by omega) hl
    unfold lenV
    (refine GO.move rfl rfl ?_; refine GO.extract rfl rfl rfl ?_; refine GO.extract rfl rfl rfl ?_; refine GO.assign rfl rfl ?_; refine GO.assign rfl rfl ?_; refine GO.nil ?_; refine kthen_n ?_; refine G.seq ?_; refine G.seq ?_; refine G.region ?_; refine GO.move rfl rfl ?_; refine GO.not rfl rfl ?_; refine GO.move rfl rfl ?_; refine GO.gT rfl rfl rfl ?_; refine GO.load1 rfl rfl rfl (Tk.t (Tk.t (Tk.t Tk.h))) rfl ?_; refine GO.gT rfl rfl rfl ?_; refine GO.fieldAddr rfl rfl ?_; refine GO.gT rfl rfl rfl ?_; refine GO.load1 rfl rfl rfl (Tk.t (Tk.t Tk.h)) rfl ?_; refine GO.gT rfl rfl rfl ?_; refine GO.idxS rfl rfl rfl ⟨rfl, by omega⟩ ?_; refine GO.gT rfl rfl rfl ?_)
    refine GO.load1 rfl rfl rfl (by (exact (Tk.t Tk.h))) (rowV_get1 hkn) ?_
    (refine GO.gT rfl rfl rfl ?_; refine GO.nei rfl rfl rfl ?_; refine GO.gT rfl rfl rfl ?_; refine GO.move rfl rfl ?_)
    by_cases hs1 : s k = -1
    · have e : shoStep s ((k : Int), ss) = (upd s k m, true) := by unfold shoStep; simp [hl, hs1]
      have ed : decide (s k ≠ -1) = false := by simp [hs1]
      rw [e, ed]
      (refine GO.gF rfl rfl rfl rfl ?_; refine GO.gF rfl rfl rfl rfl ?_; refine GO.gF rfl rfl rfl rfl ?_; refine GO.gF rfl rfl rfl rfl ?_; refine GO.gF rfl rfl rfl rfl ?_; refine GO.gF rfl rfl rfl rfl ?_; refine GO.gF rfl rfl rfl rfl ?_; refine GO.gT rfl rfl rfl ?_; refine GO.pickF rfl rfl rfl ?_; refine GO.pickF rfl rfl rfl ?_; refine GO.nil ?_; refine kthen_n ?_; refine G.condF rfl rfl ?_; refine G.skip ?_; refine kthen_n ?_; refine G.seq ?_; refine G.region ?_; refine GO.load1 rfl rfl rfl (Tk.t (Tk.t (Tk.t Tk.h))) rfl ?_; refine GO.fieldAddr rfl rfl ?_; refine GO.load1 rfl rfl rfl (Tk.t (Tk.t Tk.h)) rfl ?_; refine GO.move rfl rfl ?_; refine GO.idxS rfl rfl rfl ⟨rfl, by omega⟩ ?_)
      refine GO.store1 rfl rfl rfl (by (exact (Tk.t Tk.h))) (by rw [rowV_len]; omega) ?_
      rw [rowV_set]
      (refine GO.nil ?_; refine kthen_n ?_; refine G.seq ?_; refine G.region ?_; refine GO.assign rfl rfl ?_; refine GO.nil ?_; refine kthen_n ?_; refine G.ret ?_)
      refine KF.r1 rfl (RV.t rfl) ⟨rfl, rfl⟩ ?_
      ((refine Sb.c (Tk.t Tk.h) ?_; refine Sb.c (Tk.t (Tk.t Tk.h)) ?_; refine Sb.c Tk.h ?_); (refine Sb.s ?_; exact Sb.r))
    · have ed : decide (s k ≠ -1) = true := by simp [hs1]
      rw [ed]
      (refine GO.gT rfl rfl rfl ?_; refine GO.load1 rfl rfl rfl (Tk.t (Tk.t (Tk.t Tk.h))) rfl ?_; refine GO.gT rfl rfl rfl ?_; refine GO.fieldAddr rfl rfl ?_; refine GO.gT rfl rfl rfl ?_; refine GO.load1 rfl rfl rfl (Tk.t (Tk.t Tk.h)) rfl ?_; refine GO.gT rfl rfl rfl ?_; refine GO.idxS rfl rfl rfl ⟨rfl, by omega⟩ ?_; refine GO.gT rfl rfl rfl ?_)
      refine GO.load1 rfl rfl rfl (by (exact (Tk.t Tk.h))) (rowV_get1 hkn) ?_
      (refine GO.gT rfl rfl rfl ?_; refine GO.move rfl rfl ?_; refine GO.gT rfl rfl rfl ?_; refine GO.lei rfl rfl rfl ?_; refine GO.gT rfl rfl rfl ?_; refine GO.pickT rfl rfl rfl ?_; refine GO.pickF rfl rfl rfl ?_; refine GO.nil ?_; refine kthen_n ?_)
      refine G.condD rfl (fun hle => ?_) (fun hle => ?_)
      · have e : shoStep s ((k : Int), ss) = (s, false) := by unfold shoStep; simp [hl, hs1, hle]
        rw [e]
        (refine G.seq ?_; refine G.region ?_; refine GO.assign rfl rfl ?_; refine GO.nil ?_; refine kthen_n ?_; refine G.ret ?_; refine kthen_r ?_)
        refine KF.r1 rfl (RV.t rfl) ⟨rfl, rfl⟩ ?_
        ((refine Sb.c Tk.h ?_; refine Sb.c (Tk.t (Tk.t Tk.h)) ?_; refine Sb.c Tk.h ?_); (refine Sb.s ?_; exact Sb.r))
      · have e : shoStep s ((k : Int), ss) = (upd s k m, true) := by unfold shoStep; simp [hl, hle]
        rw [e]
        (refine G.skip ?_; refine kthen_n ?_; refine G.seq ?_; refine G.region ?_; refine GO.load1 rfl rfl rfl (Tk.t (Tk.t (Tk.t Tk.h))) rfl ?_; refine GO.fieldAddr rfl rfl ?_; refine GO.load1 rfl rfl rfl (Tk.t (Tk.t Tk.h)) rfl ?_; refine GO.move rfl rfl ?_; refine GO.idxS rfl rfl rfl ⟨rfl, by omega⟩ ?_)
        refine GO.store1 rfl rfl rfl (by (exact (Tk.t Tk.h))) (by rw [rowV_len]; omega) ?_
        rw [rowV_set]
        (refine GO.nil ?_; refine kthen_n ?_; refine G.seq ?_; refine G.region ?_; refine GO.assign rfl rfl ?_; refine GO.nil ?_; refine kthen_n ?_; refine G.ret ?_)
        refine KF.r1 rfl (RV.t rfl) ⟨rfl, rfl⟩ ?_
        ((refine Sb.c (Tk.t Tk.h) ?_; refine Sb.c (Tk.t (Tk.t Tk.h)) ?_; refine Sb.c Tk.h ?_); (refine Sb.s ?_; exact Sb.r))
end Go.Proofs.Ytjokibfldngkeaa
