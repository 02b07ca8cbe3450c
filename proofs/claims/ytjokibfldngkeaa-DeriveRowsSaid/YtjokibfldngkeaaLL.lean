/-
  least.Shortest.
-/
import Derived.Test.YtjokibfldngkeaaLK
namespace Go.Proofs.Ytjokibfldngkeaa
open Go
attribute [local irreducible] G GO GR GT Fn FnV pt init exs pur sat own ImpS
/-- How far all numbers are from the least. -/
def wt (s : Nat → Int) : Nat → Nat
  | 0 => 0
  | n + 1 => wt s n + (if s n = -1 then 66 else (s n).toNat)
theorem wt_upd {s : Nat → Int} {k : Nat} {m : Int} (h : (if m = -1 then 66 else m.toNat) < (if s k = -1 then 66 else (s k).toNat)) : ∀ n, k < n → wt (upd s k m) n < wt s n
  | 0, hk => by omega
  | n + 1, hk => by
    have le : ∀ n, wt (upd s k m) n ≤ wt s n := by
      intro n
      induction n with
      | zero => exact Nat.le_refl _
      | succ n ih =>
        simp only [wt]
        by_cases e : n = k
        · subst e; rw [upd_at]; omega
        · rw [upd_ne _ _ e]; omega
    simp only [wt]
    by_cases e : n = k
    · subst e; rw [upd_at]; have := le n; omega
    · rw [upd_ne _ _ e]; have := wt_upd h n (by omega); omega
theorem shoStep_dn {s : Nat → Int} {n : Nat} {p : ProdD} (hsh : Shorts s n) (hp : prodIn n p) (h : (shoStep s p).2 = true) : wt (shoStep s p).1 n < wt s n := by
  unfold shoStep at h ⊢
  cases hl : lenF s p.2 0 with
  | none => simp [hl] at h
  | some m =>
    simp only [hl] at h ⊢
    split at h
    · cases h
    · rename_i hc
      rw [if_neg hc]
      have hm := lenF_in hsh hp.2 (by omega) hl
      have hk : p.1.toNat < n := by have := hp.1; omega
      refine wt_upd ?_ n hk
      have hs := hsh p.1.toNat hk
      have : ¬ m = -1 := by omega
      rw [if_neg this]
      split
      · omega
      · rename_i h1
        have : ¬ s p.1.toNat ≤ m := fun hle => hc ⟨h1, hle⟩
        omega
theorem shoStep_st (s : Nat → Int) (p : ProdD) (h : (shoStep s p).2 = false) : (shoStep s p).1 = s := by
  unfold shoStep at h ⊢
  cases hl : lenF s p.2 0 with
  | none => rfl
  | some m =>
    simp only [hl] at h ⊢
    split at h
    · rename_i hc; rw [if_pos hc]
    · cases h
/-- What Shortest answers. -/
def ShoR (C : CnfD) (q : HP) (r : Value) (Q : List HP) : Prop :=
  (okC C = true ∧ ∃ b s, r = .tuple [.slice (some ⟨b, 0, none⟩) C.nts.toNat C.nts.toNat, i64 0].toArray ∧ Reach shoStep C.prods (fun _ => -1) s ∧ (∀ p ∈ C.prods, (shoStep s p).2 = false) ∧ Q = [pt b (row (numsV s C.nts.toNat) 3), q]) ∨
  (okC C = false ∧ r = .tuple [.slice none 0 0, i64 220].toArray ∧ Q = [q])
set_option maxHeartbeats 4000000 in
set_option maxRecDepth 20000 in
theorem shortest_spec (q : HP) (v : Value) (C : CnfD) (hv : CnfR q v C) (hz : Fits C) : Fn Try.prog 23 #[v] [q] (ShoR C q) := by
  have hv0 := hv
  obtain ⟨pv, rfl, hp⟩ := hv
  obtain ⟨a0, cap0, rfl⟩ := hp.form
  refine Fn.mk Try.func23 rfl rfl fun w0 F => ?_
  (refine G.seq ?_; refine G.region ?_)
  refine GO.box rfl rfl rfl fun b1 => ?_
  (refine GO.assign rfl rfl ?_; refine GO.assign rfl rfl ?_; refine GO.nil ?_; refine kthen_n ?_; refine G.seq ?_; refine G.seq ?_; refine G.region ?_)
  refine GO.loadW rfl rfl rfl Tk.h rfl ?_
  refine GO.call1 rfl rfl (check_spec q _ C hv0 hz) (Tks.c (Tk.t Tk.h) Tks.n) ?_
  rintro _ _ ⟨rfl, rfl⟩
  cases hok : okC C with
  | false =>
    have hcv : (if false = true then (0 : Int) else 220) = 220 := rfl
    rw [hcv]
    (refine GO.assign rfl rfl ?_; refine GO.nil ?_; refine kthen_n ?_; refine G.seq ?_; refine G.region ?_; refine GO.move rfl rfl ?_; refine GO.nei rfl rfl rfl ?_; refine GO.nil ?_; refine kthen_n ?_; refine G.condT rfl rfl ?_; refine G.seq ?_; refine G.region ?_; refine GO.move rfl rfl ?_; refine GO.assign rfl rfl ?_; refine GO.assign rfl rfl ?_; refine GO.nil ?_; refine kthen_n ?_; refine G.ret ?_; refine kthen_r ?_)
    refine KF.r2 rfl (RV.t rfl) (RV.t rfl) (.inr ⟨hok, rfl, rfl⟩) ?_
    ((refine Sb.c Tk.h ?_); (refine Sb.s ?_; exact Sb.r))
  | true =>
    have hcv : (if true = true then (0 : Int) else 220) = 0 := rfl
    rw [hcv]
    obtain ⟨⟨hn1, hn2⟩, hin⟩ := okC_in hok
    obtain ⟨n, hn⟩ := Int.eq_ofNat_of_zero_le (show 0 ≤ C.nts by omega)
    have hnn : C.nts.toNat = n := by omega
    have hrep := fun bx => repeat_spec (-1) n bx ⟨by omega, by omega⟩
    rw [← hn] at hrep
    (refine GO.assign rfl rfl ?_; refine GO.nil ?_; refine kthen_n ?_; refine G.seq ?_; refine G.region ?_; refine GO.move rfl rfl ?_; refine GO.neF rfl rfl rfl rfl ?_; refine GO.nil ?_; refine kthen_n ?_; refine G.condF rfl rfl ?_; refine G.skip ?_; refine kthen_n ?_; refine G.seq ?_; refine G.region ?_)
    refine GO.buildSlice1 rfl rfl (by simp; rfl) rfl ⟨by omega, by omega⟩ fun bx => ?_
    (refine GO.fieldAddr rfl rfl ?_; refine GO.load1 rfl rfl rfl (Tk.t (Tk.t Tk.h)) rfl ?_)
    refine GO.call2 rfl rfl rfl (hrep bx) (Tks.c Tk.h Tks.n) ?_
    rintro _ _ ⟨bo, rfl, rfl⟩
    rw [rowV_const (f := i64)]
    refine GO.alloc rfl fun b5 => ?_
    refine GO.store1 rfl rfl rfl Tk.h (by decide) ?_
    (refine GO.nil ?_; refine kthen_n ?_; refine G.seq ?_; refine G.region ?_)
    refine GO.loadW rfl rfl rfl (Tk.t (Tk.t (Tk.t Tk.h))) rfl ?_
    refine GO.makeFunc1 rfl rfl ?_
    refine GO.call2 rfl rfl rfl (grow_spec q _ _ C hv0 hz (shoM n bo b5) (fun s => Shorts s n) shoStep (fun s => wt s n)
      (fun s p hI hpm bv hb => FnV.of (caps := [.pointer (some ⟨b5, 0, none⟩)]) (shop_spec q s n bo b5 p bv hb (by have := hin p hpm; rw [hn] at this; exact this) (by have := hz.2 p hpm; omega) hI))
      (fun s p hI hpm => shoStep_in hI (by have := hin p hpm; rw [hn] at this; exact this)) (fun s p hI hpm h => shoStep_dn hI (by have := hin p hpm; rw [hn] at this; exact this) h) (fun s p h => shoStep_st s p h) (fun _ => -1) (fun i _ => by show (-1 : Int) ≤ -1 ∧ (-1 : Int) ≤ 65; decide))
      (Tks.c (Tk.t (Tk.t Tk.h)) (Tks.c Tk.h (Tks.c Tk.h Tks.n))) ?_
    rintro _ _ ⟨s, _, hR, hst, rfl⟩
    (refine GO.nil ?_; refine kthen_n ?_; refine G.seq ?_; refine G.region ?_; refine GO.load1 rfl rfl rfl (Tk.t Tk.h) rfl ?_; refine GO.assign rfl rfl ?_; refine GO.assign rfl rfl ?_; refine GO.nil ?_; refine kthen_n ?_; refine G.ret ?_)
    refine KF.r2 rfl (RV.t rfl) (RV.t rfl) (.inl ⟨hok, bo, s, by rw [hnn], hR, hst, rfl⟩) ?_
    rw [hnn]
    ((refine Sb.c (Tk.t (Tk.t Tk.h)) ?_; refine Sb.c Tk.h ?_); (refine Sb.s ?_; refine Sb.s ?_; exact Sb.r))
end Go.Proofs.Ytjokibfldngkeaa
