/-
  May productions be? The engine's Check; slices.ContainsFunc over symbols.
-/
import Derived.Test.YtjokibfldngkeaaLC
namespace Go.Proofs.Ytjokibfldngkeaa
open Go
attribute [local irreducible] G GO GR GT Fn FnV pt init exs pur sat own ImpS
def symV (s : SymD) : Value := .agg [.bool s.1, i64 s.2].toArray
set_option maxHeartbeats 2000000 in
theorem indexSym_spec (q : HP) (v f : Value) (ss : List SymD) (pred : SymD → Bool) (M : List HP) (hv : SymsR q v ss) (hf : ∀ s ∈ ss, FnV Try.prog f [symV s] (q :: M) (fun r Q => r = .bool (pred s) ∧ Q = q :: M)) (hn : ss.length ≤ 9223372036854775807) :
    Fn Try.prog 58 #[v, f] (q :: M) (fun r Q => ((∃ k : Nat, r = i64 k ∧ ss.any pred = true) ∨ (r = i64 (-1) ∧ ss.any pred = false)) ∧ Q = q :: M) := by
  obtain ⟨a, cap, rfl⟩ := hv.form
  refine Fn.mk Try.func58 rfl rfl fun w0 F => ?_
  (refine G.seq ?_; refine G.region ?_; refine GO.assign rfl rfl ?_; refine GO.nil ?_; refine kthen_n ?_; refine G.seq ?_; refine G.seq ?_; refine G.region ?_; refine GO.move rfl rfl ?_; refine GO.lenS rfl rfl ?_; refine GO.move rfl rfl ?_; refine GO.nil ?_; refine kthen_n ?_; refine G.block ?_)
  refine G.loop (fun k : Nat => [(0, .slice a ss.length cap), (1, f), (7, i64 ss.length), (8, i64 k)]) (fun _ => q :: (M ++ F)) (fun k => k ≤ ss.length ∧ (ss.take k).any pred = false) (fun k => ss.length - k) 0 ⟨by omega, rfl⟩ ?_ ?_ ?_
  · (refine SubE.c rfl rfl ?_; refine SubE.c rfl rfl ?_; refine SubE.c rfl rfl ?_; refine SubE.c rfl rfl ?_; exact SubE.n)
  · exact Sb.r
  rintro k ⟨hk, hany⟩
  (refine G.seq ?_; refine G.region ?_; refine GO.lti rfl rfl rfl ?_; refine GO.nil ?_; refine kthen_n ?_; refine G.seq ?_)
  refine G.condD rfl (fun hlt => ?_) (fun hge => ?_)
  · have hlt' : k < ss.length := by omega
    obtain ⟨s, hs⟩ : ∃ s : SymD, ss[k]? = some s := ⟨ss[k], by simp [hlt']⟩
    obtain ⟨b, o, rfl, _, r1, r2⟩ := hv.at hs
    (refine G.skip ?_; refine kthen_n ?_; refine G.seq ?_; refine G.block ?_; refine G.seq ?_; refine G.region ?_; refine GO.move rfl rfl ?_; refine GO.assign rfl rfl ?_; refine GO.nil ?_; refine kthen_n ?_; refine G.seq ?_; refine G.region ?_; refine GO.move rfl rfl ?_; refine GO.move rfl rfl ?_; refine GO.move rfl rfl ?_; refine GO.idxS rfl rfl rfl ⟨rfl, by omega⟩ ?_)
    refine GO.load2 (q := q) rfl rfl rfl Tk.h r1 r2 ?_
    refine GO.callV1 rfl rfl rfl (hf s (List.mem_of_getElem? hs)) (show Tks (q :: M) (q :: (M ++ F)) F from List.Perm.refl _) ?_
    rintro _ _ ⟨rfl, rfl⟩
    (refine GO.nil ?_; refine kthen_n ?_)
    refine G.cond rfl (fun hb => ?_) (fun hb => ?_)
    · (refine G.seq ?_; refine G.region ?_; refine GO.move rfl rfl ?_; refine GO.assign rfl rfl ?_; refine GO.nil ?_; refine kthen_n ?_; refine G.ret ?_; refine kblock_r ?_; refine kthen_r ?_; refine kthen_r ?_; refine kblock_r ?_; refine kthen_r ?_)
      refine KF.r1 rfl (RV.t rfl) ⟨.inl ⟨k, rfl, ?_⟩, rfl⟩ ?_
      · rw [List.any_eq_true]; exact ⟨s, List.mem_of_getElem? hs, hb⟩
      · exact Sb.r
    · (refine G.skip ?_; refine kblock_n ?_; refine kthen_n ?_; refine G.region ?_; refine GO.addi rfl rfl rfl (by omega) ?_; refine GO.move rfl rfl ?_; refine GO.nil ?_; refine kthen_n ?_)
      refine ⟨k + 1, ⟨by omega, ?_⟩, by omega, ?_, ?_⟩
      · rw [List.take_add_one, hs, List.any_append, hany]; simp [hb]
      · (refine SubE.c rfl rfl ?_; refine SubE.c rfl rfl ?_; refine SubE.c rfl rfl ?_; refine SubE.c rfl rfl ?_; exact SubE.n)
      · exact Sb.r
  · have : k = ss.length := by omega
    subst this
    rw [List.take_length] at hany
    (refine G.exit ?_; refine G.seq ?_; refine G.region ?_; refine GO.assign rfl rfl ?_; refine GO.nil ?_; refine kthen_n ?_; refine G.ret ?_)
    refine KF.r1 rfl (RV.t rfl) ⟨.inr ⟨rfl, hany⟩, rfl⟩ ?_
    exact Sb.r
theorem containsSym_spec (q : HP) (v f : Value) (ss : List SymD) (pred : SymD → Bool) (M : List HP) (hv : SymsR q v ss) (hf : ∀ s ∈ ss, FnV Try.prog f [symV s] (q :: M) (fun r Q => r = .bool (pred s) ∧ Q = q :: M)) (hn : ss.length ≤ 9223372036854775807) :
    Fn Try.prog 50 #[v, f] (q :: M) (fun r Q => r = .bool (ss.any pred) ∧ Q = q :: M) := by
  refine Fn.mk Try.func50 rfl rfl fun w0 F => ?_
  (refine G.seq ?_; refine G.region ?_; refine GO.assign rfl rfl ?_; refine GO.nil ?_; refine kthen_n ?_; refine G.seq ?_; refine G.region ?_; refine GO.move rfl rfl ?_; refine GO.move rfl rfl ?_)
  refine GO.call2 rfl rfl rfl (indexSym_spec q v f ss pred M hv hf hn) (show Tks (q :: M) (q :: M ++ F) F from List.Perm.refl _) ?_
  rintro _ _ ⟨h, rfl⟩
  rcases h with ⟨k, rfl, h⟩ | ⟨rfl, h⟩
  · (refine GO.gei rfl rfl rfl ?_; refine GO.assign rfl rfl ?_; refine GO.nil ?_; refine kthen_n ?_; refine G.ret ?_)
    refine KF.r1 rfl (RV.t rfl) ⟨?_, rfl⟩ Sb.r
    rw [h]; simp
  · (refine GO.gei rfl rfl rfl ?_; refine GO.assign rfl rfl ?_; refine GO.nil ?_; refine kthen_n ?_; refine G.ret ?_)
    refine KF.r1 rfl (RV.t rfl) ⟨?_, rfl⟩ Sb.r
    rw [h]; rfl
theorem nt_spec (n m : Int) (b1 : Nat) (u : Value) : Fn Try.prog 49 #[i64 m, .pointer (some ⟨b1, 0, none⟩)] [pt b1 (row [i64 n, u] 24)] (fun r Q => r = .bool (decide (0 ≤ m) && decide (m < n)) ∧ Q = [pt b1 (row [i64 n, u] 24)]) := by
  refine Fn.mk Try.func49 rfl rfl fun w0 F => ?_
  (refine G.seq ?_; refine G.region ?_; refine GO.assign rfl rfl ?_; refine GO.nil ?_; refine kthen_n ?_; refine G.seq ?_; refine G.region ?_; refine GO.move rfl rfl ?_; refine GO.gei rfl rfl rfl ?_; refine GO.move rfl rfl ?_)
  refine GO.splitD 6 rfl (fun h => ?_) (fun h => ?_)
  · (refine GO.gT rfl rfl rfl ?_; refine GO.move rfl rfl ?_; refine GO.gT rfl rfl rfl ?_; refine GO.fieldAddr rfl rfl ?_; refine GO.gT rfl rfl rfl ?_; refine GO.load1 rfl rfl rfl Tk.h rfl ?_; refine GO.gT rfl rfl rfl ?_; refine GO.lti rfl rfl rfl ?_; refine GO.pickT rfl rfl rfl ?_; refine GO.assign rfl rfl ?_; refine GO.nil ?_; refine kthen_n ?_; refine G.ret ?_)
    refine KF.r1 rfl (RV.t rfl) ⟨by simp [h], rfl⟩ ?_
    ((refine Sb.c Tk.h ?_); (exact Sb.r))
  · (refine GO.gF rfl rfl rfl rfl ?_; refine GO.gF rfl rfl rfl rfl ?_; refine GO.gF rfl rfl rfl rfl ?_; refine GO.gF rfl rfl rfl rfl ?_; refine GO.pickF rfl rfl rfl ?_; refine GO.assign rfl rfl ?_; refine GO.nil ?_; refine kthen_n ?_; refine G.ret ?_)
    refine KF.r1 rfl (RV.t rfl) ⟨by simp [h], rfl⟩ ?_
    ((refine Sb.c Tk.h ?_); (exact Sb.r))
/-- The two variables that the engine's Check shares with its closures. -/
abbrev ntM (n : Int) (u : Value) (b1 b3 : Nat) : List HP := [pt b3 (row [.func (.func 49) #[] #[.pointer (some ⟨b1, 0, none⟩)]] 95), pt b1 (row [i64 n, u] 24)]
set_option maxHeartbeats 2000000 in
theorem bad_spec (n : Int) (s : SymD) (b1 b3 : Nat) (u : Value) : Fn Try.prog 51 #[symV s, .pointer (some ⟨b3, 0, none⟩)] (ntM n u b1 b3) (fun r Q => r = .bool (!symOK n s) ∧ Q = ntM n u b1 b3) := by
  obtain ⟨lb, m⟩ := s
  refine Fn.mk Try.func51 rfl rfl fun w0 F => ?_
  (refine G.seq ?_; refine G.region ?_)
  refine GO.box rfl rfl rfl fun b2 => ?_
  (refine GO.assign rfl rfl ?_; refine GO.nil ?_; refine kthen_n ?_; refine G.seq ?_; refine G.region ?_; refine GO.fieldAddr rfl rfl ?_; refine GO.load1 rfl rfl rfl Tk.h rfl ?_; refine GO.move rfl rfl ?_)
  cases lb with
  | true =>
    (refine GO.gT rfl rfl rfl ?_; refine GO.fieldAddr rfl rfl ?_; refine GO.gT rfl rfl rfl ?_; refine GO.load1 rfl rfl rfl Tk.h rfl ?_; refine GO.gT rfl rfl rfl ?_; refine GO.lti rfl rfl rfl ?_; refine GO.gT rfl rfl rfl ?_; refine GO.move rfl rfl ?_)
    refine GO.splitD 10 rfl (fun h => ?_) (fun h => ?_)
    · (refine GO.gF rfl rfl rfl rfl ?_; refine GO.gF rfl rfl rfl rfl ?_; refine GO.gF rfl rfl rfl rfl ?_; refine GO.gT rfl rfl rfl ?_; refine GO.pickT rfl rfl rfl ?_; refine GO.pickT rfl rfl rfl ?_; refine GO.move rfl rfl ?_; refine GO.gF rfl rfl rfl rfl ?_; refine GO.gF rfl rfl rfl rfl ?_; refine GO.gF rfl rfl rfl rfl ?_; refine GO.gF rfl rfl rfl rfl ?_; refine GO.gU rfl rfl rfl ?_; refine GO.gU rfl rfl rfl ?_; refine GO.gU rfl rfl rfl ?_; refine GO.gU rfl rfl rfl ?_; refine GO.gU rfl rfl rfl ?_; refine GO.gF rfl rfl rfl rfl ?_; refine GO.pickT rfl rfl rfl ?_; refine GO.assign rfl rfl ?_; refine GO.nil ?_; refine kthen_n ?_; refine G.ret ?_)
      refine KF.r1 rfl (RV.t rfl) ⟨by unfold symOK; simp [h], rfl⟩ ?_
      ((refine Sb.c (Tk.t Tk.h) ?_; refine Sb.c (Tk.t Tk.h) ?_); (refine Sb.s ?_; exact Sb.r))
    · (refine GO.gT rfl rfl rfl ?_; refine GO.fieldAddr rfl rfl ?_; refine GO.gT rfl rfl rfl ?_; refine GO.load1 rfl rfl rfl Tk.h rfl ?_; refine GO.gT rfl rfl rfl ?_; refine GO.gei rfl rfl rfl ?_; refine GO.gT rfl rfl rfl ?_; refine GO.pickF rfl rfl rfl ?_; refine GO.pickT rfl rfl rfl ?_; refine GO.move rfl rfl ?_)
      refine GO.splitD 16 rfl (fun h2 => ?_) (fun h2 => ?_)
      · (refine GO.gF rfl rfl rfl rfl ?_; refine GO.gF rfl rfl rfl rfl ?_; refine GO.gF rfl rfl rfl rfl ?_; refine GO.gF rfl rfl rfl rfl ?_; refine GO.gU rfl rfl rfl ?_; refine GO.gU rfl rfl rfl ?_; refine GO.gU rfl rfl rfl ?_; refine GO.gU rfl rfl rfl ?_; refine GO.gU rfl rfl rfl ?_; refine GO.gF rfl rfl rfl rfl ?_; refine GO.pickT rfl rfl rfl ?_; refine GO.assign rfl rfl ?_; refine GO.nil ?_; refine kthen_n ?_; refine G.ret ?_)
        refine KF.r1 rfl (RV.t rfl) ⟨by unfold symOK; simp [h2], rfl⟩ ?_
        ((refine Sb.c (Tk.t Tk.h) ?_; refine Sb.c (Tk.t Tk.h) ?_); (refine Sb.s ?_; exact Sb.r))
      · (refine GO.gT rfl rfl rfl ?_; refine GO.fieldAddr rfl rfl ?_; refine GO.gT rfl rfl rfl ?_; refine GO.load1 rfl rfl rfl Tk.h rfl ?_; refine GO.gT rfl rfl rfl ?_; refine GO.not rfl rfl ?_; refine GO.gT rfl rfl rfl ?_; refine GO.move rfl rfl ?_; refine GO.gF rfl rfl rfl rfl ?_; refine GO.gF rfl rfl rfl rfl ?_; refine GO.gF rfl rfl rfl rfl ?_; refine GO.gF rfl rfl rfl rfl ?_; refine GO.gF rfl rfl rfl rfl ?_; refine GO.gT rfl rfl rfl ?_; refine GO.pickF rfl rfl rfl ?_; refine GO.pickF rfl rfl rfl ?_; refine GO.assign rfl rfl ?_; refine GO.nil ?_; refine kthen_n ?_; refine G.ret ?_)
        refine KF.r1 rfl (RV.t rfl) ⟨by unfold symOK; simp [h, h2], rfl⟩ ?_
        ((refine Sb.c (Tk.t Tk.h) ?_; refine Sb.c (Tk.t Tk.h) ?_); (refine Sb.s ?_; exact Sb.r))
  | false =>
    (refine GO.gF rfl rfl rfl rfl ?_; refine GO.gF rfl rfl rfl rfl ?_; refine GO.gF rfl rfl rfl rfl ?_; refine GO.gF rfl rfl rfl rfl ?_; refine GO.gU rfl rfl rfl ?_; refine GO.gU rfl rfl rfl ?_; refine GO.gU rfl rfl rfl ?_; refine GO.gF rfl rfl rfl rfl ?_; refine GO.pickF rfl rfl rfl ?_; refine GO.move rfl rfl ?_; refine GO.gT rfl rfl rfl ?_; refine GO.fieldAddr rfl rfl ?_; refine GO.gT rfl rfl rfl ?_; refine GO.load1 rfl rfl rfl Tk.h rfl ?_; refine GO.gT rfl rfl rfl ?_; refine GO.not rfl rfl ?_; refine GO.gT rfl rfl rfl ?_; refine GO.move rfl rfl ?_; refine GO.gT rfl rfl rfl ?_; refine GO.load1 rfl rfl rfl (Tk.t Tk.h) rfl ?_; refine GO.gT rfl rfl rfl ?_; refine GO.fieldAddr rfl rfl ?_; refine GO.gT rfl rfl rfl ?_; refine GO.load1 rfl rfl rfl Tk.h rfl ?_; refine GO.gT rfl rfl rfl ?_)
    refine (GO.callV1 rfl rfl rfl (FnV.of (caps := [.pointer (some ⟨b1, 0, none⟩)]) (nt_spec n m b1 u)) (Tks.c (Tk.t (Tk.t Tk.h)) Tks.n) ?_)
    rintro _ _ ⟨rfl, rfl⟩
    (refine GO.gT rfl rfl rfl ?_; refine GO.not rfl rfl ?_; refine GO.gT rfl rfl rfl ?_; refine GO.pickT rfl rfl rfl ?_; refine GO.pickF rfl rfl rfl ?_; refine GO.assign rfl rfl ?_; refine GO.nil ?_; refine kthen_n ?_; refine G.ret ?_)
    refine KF.r1 rfl (RV.t rfl) ⟨?_, rfl⟩ ?_
    · unfold symOK
      simp
      by_cases h1 : m < 0 <;> by_cases h2 : n ≤ m <;> simp [h1, h2] <;> omega
    · ((refine Sb.c (Tk.t (Tk.t Tk.h)) ?_; refine Sb.c Tk.h ?_); (refine Sb.s ?_; exact Sb.r))
end Go.Proofs.Ytjokibfldngkeaa
