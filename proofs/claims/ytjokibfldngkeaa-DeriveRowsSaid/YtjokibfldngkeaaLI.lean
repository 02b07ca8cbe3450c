/-
  least.length, and the closure of least.Shortest.
-/
import Derived.Test.YtjokibfldngkeaaLH
namespace Go.Proofs.Ytjokibfldngkeaa
open Go
attribute [local irreducible] G GO GR GT Fn FnV pt init exs pur sat own ImpS
/-- The least length of a body's words behind n; none: it has none. -/
def lenF (s : Nat → Int) : List SymD → Int → Option Int
  | [], n => some n
  | (true, _) :: r, n => lenF s r (min 65 (n + 1))
  | (false, k) :: r, n => if s k.toNat = -1 then none else lenF s r (min 65 (n + s k.toNat))
def Shorts (s : Nat → Int) (n : Nat) : Prop := ∀ i, i < n → -1 ≤ s i ∧ s i ≤ 65
def lenV : Option Int → Value
  | some m => .tuple [i64 m, .bool true].toArray
  | none => .tuple [i64 0, .bool false].toArray
theorem drop_at {α : Type} {l : List α} {k : Nat} {a : α} (h : l[k]? = some a) : l.drop k = a :: l.drop (k + 1) := by
  obtain ⟨hk, e⟩ := List.getElem?_eq_some_iff.1 h
  rw [List.drop_eq_getElem_cons hk, e]
set_option maxHeartbeats 4000000 in
set_option maxRecDepth 20000 in
theorem length_spec (q : HP) (v : Value) (ss : List SymD) (s : Nat → Int) (n bs : Nat) (hv : SymsR q v ss) (hs : ∀ x ∈ ss, symIn n x) (hn : ss.length ≤ 9223372036854775807) (hsh : Shorts s n) :
    Fn Try.prog 39 #[v, .slice (some ⟨bs, 0, none⟩) n n] [q, pt bs (row (numsV s n) 3)] (fun r Q => r = lenV (lenF s ss 0) ∧ Q = [q, pt bs (row (numsV s n) 3)]) := by
  obtain ⟨a, cap, rfl⟩ := hv.form
  refine Fn.mk Try.func39 rfl rfl fun w0 F => ?_
  (refine G.seq ?_; refine G.region ?_; refine GO.assign rfl rfl ?_; refine GO.assign rfl rfl ?_; refine GO.nil ?_; refine kthen_n ?_; refine G.seq ?_; refine G.region ?_; refine GO.assign rfl rfl ?_; refine GO.nil ?_; refine kthen_n ?_; refine G.seq ?_; refine G.seq ?_; refine G.region ?_; refine GO.move rfl rfl ?_; refine GO.lenS rfl rfl ?_; refine GO.move rfl rfl ?_; refine GO.nil ?_; refine kthen_n ?_; refine G.block ?_)
  refine G.loop2 (fun (k : Nat) (m : Int) => [(1, .slice (some ⟨bs, 0, none⟩) n n), (6, i64 m), (9, .slice a ss.length cap), (10, i64 ss.length), (11, i64 k)]) (fun _ _ => q :: pt bs (row (numsV s n) 3) :: F)
    (fun k m => k ≤ ss.length ∧ (0 ≤ m ∧ m ≤ 65) ∧ lenF s (ss.drop k) m = lenF s ss 0) (fun k _ => ss.length - k) 0 0 ⟨by omega, by omega, rfl⟩ ?_ ?_ ?_
  · (refine SubE.c rfl rfl ?_; refine SubE.c rfl rfl ?_; refine SubE.c rfl rfl ?_; refine SubE.c rfl rfl ?_; refine SubE.c rfl rfl ?_; exact SubE.n)
  · ((refine Sb.c Tk.h ?_; refine Sb.c Tk.h ?_); (exact Sb.r))
  rintro k m ⟨hk, hm, hF⟩
  (refine G.seq ?_; refine G.region ?_; refine GO.lti rfl rfl rfl ?_; refine GO.nil ?_; refine kthen_n ?_; refine G.seq ?_)
  refine G.condD rfl (fun hlt => ?_) (fun hge => ?_)
  · have hlt' : k < ss.length := by omega
    obtain ⟨⟨lb, i⟩, hx⟩ : ∃ x : SymD, ss[k]? = some x := ⟨ss[k], by simp [hlt']⟩
    have hin := hs _ (List.mem_of_getElem? hx)
    obtain ⟨b, o, rfl, _, r1, r2⟩ := hv.at hx
    dsimp only at r1 r2
    rw [drop_at hx] at hF
    (refine G.skip ?_; refine kthen_n ?_; refine G.seq ?_; refine G.block ?_; refine G.seq ?_; refine G.region ?_; refine GO.idxS rfl rfl rfl ⟨rfl, by omega⟩ ?_)
    refine GO.load2 (q := q) rfl rfl rfl Tk.h r1 r2 ?_
    refine GO.alloc rfl fun b8 => ?_
    refine GO.storeW rfl rfl Tk.h ⟨rfl, rfl⟩ (by simp [Value.oneCell']) ?_
    (refine GO.nil ?_; refine kthen_n ?_; refine G.seq ?_; refine G.block ?_; refine G.seq ?_; refine G.region ?_; refine GO.fieldAddr rfl rfl ?_; refine GO.load1 rfl rfl rfl Tk.h rfl ?_; refine GO.assign rfl rfl ?_; refine GO.nil ?_; refine kthen_n ?_)
    cases lb with
    | true =>
      have e1 : lenF s ((true, i) :: ss.drop (k + 1)) m = lenF s (ss.drop (k + 1)) (min 65 (m + 1)) := rfl
      rw [e1] at hF
      have hm2 : 0 ≤ min 65 (m + 1) ∧ min 65 (m + 1) ≤ 65 := by omega
      (refine G.condT rfl rfl ?_; refine G.region ?_; refine GO.move rfl rfl ?_; refine GO.addi rfl rfl rfl (by omega) ?_; refine GO.assign rfl rfl ?_; refine GO.nil ?_; refine kblock_n ?_; refine kthen_n ?_; refine G.region ?_; refine GO.move rfl rfl ?_)
      refine GO.min2 rfl rfl rfl ?_
      (refine GO.assign rfl rfl ?_; refine GO.nil ?_; refine kblock_n ?_; refine kthen_n ?_; refine G.region ?_; refine GO.addi rfl rfl rfl (by omega) ?_; refine GO.move rfl rfl ?_; refine GO.nil ?_; refine kthen_n ?_)
      refine ⟨k + 1, min 65 (m + 1), ⟨by omega, hm2, hF⟩, by omega, ?_, ?_⟩
      · (refine SubE.c rfl rfl ?_; refine SubE.c rfl rfl ?_; refine SubE.c rfl rfl ?_; refine SubE.c rfl rfl ?_; refine SubE.c rfl rfl ?_; exact SubE.n)
      · ((refine Sb.c (Tk.t Tk.h) ?_; refine Sb.c (Tk.t Tk.h) ?_); (refine Sb.s ?_; exact Sb.r))
    | false =>
      obtain ⟨h1, h2⟩ := hin rfl
      dsimp only at h1 h2
      obtain ⟨j, rfl⟩ := Int.eq_ofNat_of_zero_le h1
      have hjn : j < n := by omega
      have hsj := hsh j hjn
      have e1 : lenF s ((false, (j : Int)) :: ss.drop (k + 1)) m = if s j = -1 then none else lenF s (ss.drop (k + 1)) (min 65 (m + s j)) := rfl
      rw [e1] at hF
      (refine G.condF rfl rfl ?_; refine G.seq ?_; refine G.region ?_; refine GO.move rfl rfl ?_; refine GO.fieldAddr rfl rfl ?_; refine GO.load1 rfl rfl rfl Tk.h rfl ?_; refine GO.idxS rfl rfl rfl ⟨rfl, by omega⟩ ?_)
      refine GO.load1 rfl rfl rfl (by (exact (Tk.t (Tk.t Tk.h)))) (rowV_get1 hjn) ?_
      (refine GO.eqi rfl rfl rfl ?_; refine GO.assign rfl rfl ?_; refine GO.nil ?_; refine kthen_n ?_)
      refine G.condD rfl (fun he => ?_) (fun he => ?_)
      · rw [if_pos he] at hF
        (refine G.seq ?_; refine G.region ?_; refine GO.assign rfl rfl ?_; refine GO.assign rfl rfl ?_; refine GO.nil ?_; refine kthen_n ?_; refine G.ret ?_; refine kblock_r ?_; refine kthen_r ?_; refine kblock_r ?_; refine kthen_r ?_; refine kthen_r ?_; refine kblock_r ?_; refine kthen_r ?_)
        refine KF.r2 rfl (RV.t rfl) (RV.t rfl) ⟨by rw [← hF]; rfl, rfl⟩ ?_
        ((refine Sb.c (Tk.t Tk.h) ?_; refine Sb.c (Tk.t Tk.h) ?_); (refine Sb.s ?_; exact Sb.r))
      · rw [if_neg he] at hF
        have hm2 : 0 ≤ min 65 (m + s j) ∧ min 65 (m + s j) ≤ 65 := by omega
        (refine G.region ?_; refine GO.move rfl rfl ?_; refine GO.move rfl rfl ?_; refine GO.fieldAddr rfl rfl ?_; refine GO.load1 rfl rfl rfl Tk.h rfl ?_; refine GO.idxS rfl rfl rfl ⟨rfl, by omega⟩ ?_)
        refine GO.load1 rfl rfl rfl (by (exact (Tk.t (Tk.t Tk.h)))) (rowV_get1 hjn) ?_
        (refine GO.addi rfl rfl rfl (by omega) ?_; refine GO.assign rfl rfl ?_; refine GO.nil ?_; refine kblock_n ?_; refine kthen_n ?_; refine G.region ?_; refine GO.move rfl rfl ?_)
        refine GO.min2 rfl rfl rfl ?_
        (refine GO.assign rfl rfl ?_; refine GO.nil ?_; refine kblock_n ?_; refine kthen_n ?_; refine G.region ?_; refine GO.addi rfl rfl rfl (by omega) ?_; refine GO.move rfl rfl ?_; refine GO.nil ?_; refine kthen_n ?_)
        refine ⟨k + 1, min 65 (m + s j), ⟨by omega, hm2, hF⟩, by omega, ?_, ?_⟩
        · (refine SubE.c rfl rfl ?_; refine SubE.c rfl rfl ?_; refine SubE.c rfl rfl ?_; refine SubE.c rfl rfl ?_; refine SubE.c rfl rfl ?_; exact SubE.n)
        · ((refine Sb.c (Tk.t Tk.h) ?_; refine Sb.c (Tk.t Tk.h) ?_); (refine Sb.s ?_; exact Sb.r))
  · have : k = ss.length := by omega
    subst this
    rw [List.drop_length] at hF
    (refine G.exit ?_; refine G.seq ?_; refine G.region ?_; refine GO.move rfl rfl ?_; refine GO.assign rfl rfl ?_; refine GO.assign rfl rfl ?_; refine GO.nil ?_; refine kthen_n ?_; refine G.ret ?_)
    refine KF.r2 rfl (RV.t rfl) (RV.t rfl) ⟨by rw [← hF]; rfl, rfl⟩ ?_
    ((refine Sb.c Tk.h ?_; refine Sb.c Tk.h ?_); (exact Sb.r))
end Go.Proofs.Ytjokibfldngkeaa
