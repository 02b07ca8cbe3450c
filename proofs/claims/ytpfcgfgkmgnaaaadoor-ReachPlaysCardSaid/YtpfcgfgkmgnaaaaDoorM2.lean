/-
  The law ReachPlays, part 2.
-/
import Derived.Test.YtpfcgfgkmgnaaaaDoorM1
import Derived.Test.YtpfcgfgkmgnaaaaDoorE
import Derived.Scope
namespace Go.Proofs.YtpfcgfgkmgnaaaaDoor
open Go
attribute [local irreducible] G GO GR GT Fn FnV pt init exs pur sat own ImpS mat
/-- The cells of a list more. -/
def setL (X : Nat → Nat → Bool) (l : List (Int × Int)) : Nat → Nat → Bool := l.foldl (fun X p => addX X p.1.toNat p.2.toNat) X
theorem setL_succ {X : Nat → Nat → Bool} {l : List (Int × Int)} {k : Nat} {p : Int × Int} (h : l[k]? = some p) : setL X (l.take (k + 1)) = addX (setL X (l.take k)) p.1.toNat p.2.toNat := by
  unfold setL; rw [List.take_add_one, h, List.foldl_append]; rfl
def inL (side : Nat) (l : List (Int × Int)) : Bool := l.all fun p => inM side p.1 p.2
theorem inL_succ {side : Nat} {l : List (Int × Int)} {k : Nat} {p : Int × Int} (h : l[k]? = some p) (h1 : inL side (l.take k) = true) (h2 : inM side p.1 p.2 = true) : inL side (l.take (k + 1)) = true := by
  unfold inL at *; rw [List.take_add_one, h, List.all_append, h1]; simp [h2]
theorem inL_not {side : Nat} {l : List (Int × Int)} {k : Nat} {p : Int × Int} (h : l[k]? = some p) (h2 : inM side p.1 p.2 = false) : inL side l = false := by
  unfold inL; rw [List.all_eq_false]; exact ⟨p, List.mem_of_getElem? h, by simp [h2]⟩
theorem inM_nat {side m n : Nat} (hm : m < side) (hn : n < side) : inM side m n = true := by
  unfold inM; simp; omega
def mofR (side : Int) (l : List (Int × Int)) (q : HP) (r : Value) (Q : List HP) : Prop :=
  (∃ n b : Nat, side = n ∧ 1 ≤ n ∧ n ≤ 1024 ∧ inL n l = true ∧ r = .tuple #[.pointer (some ⟨b, 0, none⟩), i64 0] ∧ Q = [mat n (setL noX l) b, q]) ∨
  (¬ (1 ≤ side ∧ side ≤ 1024 ∧ inL side.toNat l = true) ∧ r = .tuple #[.pointer none, i64 2] ∧ Q = [q])
set_option maxHeartbeats 2000000 in
theorem mof_spec (side : Int) (q : HP) (v : Value) (l : List (Int × Int)) (hv : SlR q v l.length 2 (cellsV l)) (hl : l.length ≤ 9223372036854775807) : Fn Tryd.prog 39 #[i64 side, v] [q] (mofR side l q) := by
  obtain ⟨a, cap, rfl, _, hrd⟩ := hv
  refine Fn.mk Tryd.func39 rfl rfl fun w0 F => ?_
  (refine G.seq ?_; refine G.region ?_; refine GO.assign rfl rfl ?_; refine GO.assign rfl rfl ?_; refine GO.nil ?_; refine kthen_n ?_; refine G.seq ?_; refine G.region ?_; refine GO.move rfl rfl ?_)
  refine GO.call1 rfl rfl (new_spec side) Tks.n ?_
  rintro _ _ (⟨n, b, rfl, hn1, hn2, rfl, rfl⟩ | ⟨hno, rfl, rfl⟩)
  · (refine GO.move rfl rfl ?_; refine GO.extract rfl rfl rfl ?_; refine GO.extract rfl rfl rfl ?_; refine GO.assign rfl rfl ?_; refine GO.assign rfl rfl ?_; refine GO.nil ?_; refine kthen_n ?_; refine G.seq ?_; refine G.seq ?_; refine G.region ?_; refine GO.move rfl rfl ?_; refine GO.neF rfl rfl rfl rfl ?_; refine GO.nil ?_; refine kthen_n ?_; refine G.condF rfl rfl ?_; refine G.skip ?_; refine kthen_n ?_; refine G.seq ?_; refine G.seq ?_; refine G.region ?_; refine GO.move rfl rfl ?_; refine GO.lenS rfl rfl ?_; refine GO.move rfl rfl ?_; refine GO.nil ?_; refine kthen_n ?_; refine G.block ?_)
    refine G.loop (fun k : Nat => [(6, .pointer (some ⟨b, 0, none⟩)), (20, .slice a l.length cap), (21, i64 l.length), (22, i64 k)])
      (fun k => mat n (setL noX (l.take k)) b :: q :: F) (fun k => k ≤ l.length ∧ inL n (l.take k) = true) (fun k => l.length - k) 0 ⟨by omega, by simp [inL]⟩ ?_ ?_ ?_
    · (refine SubE.c rfl rfl ?_; refine SubE.c rfl rfl ?_; refine SubE.c rfl rfl ?_; refine SubE.c rfl rfl ?_; exact SubE.n)
    · ((refine Sb.c Tk.h ?_; refine Sb.c Tk.h ?_); (exact Sb.r))
    rintro k ⟨hk, hall⟩
    (refine G.seq ?_; refine G.region ?_; refine GO.lti rfl rfl rfl ?_; refine GO.nil ?_; refine kthen_n ?_; refine G.seq ?_)
    refine G.condD rfl (fun hlt => ?_) (fun hge => ?_)
    · have hlt' : k < l.length := by omega
      obtain ⟨b', o, rfl, hr⟩ := hrd (by omega)
      obtain ⟨p, hp⟩ : ∃ p, l[k]? = some p := ⟨l[k], by simp [hlt']⟩
      obtain ⟨h1, h2⟩ := cellsV_get hp
      have r1 : Rd q ⟨b', o + k * 2, none⟩ (i64 p.1) := hr _ _ h1
      have r2 : Rd q ⟨b', o + k * 2 + 1, none⟩ (i64 p.2) := hr _ _ h2
      (refine G.skip ?_; refine kthen_n ?_; refine G.seq ?_; refine G.block ?_; refine G.seq ?_; refine G.region ?_; refine GO.idxS rfl rfl rfl ⟨rfl, by omega⟩ ?_; refine GO.load2 rfl rfl rfl (Tk.t Tk.h) (by assumption) (by assumption) ?_; refine GO.alloc rfl fun b9 => ?_; refine GO.storeW rfl rfl Tk.h ⟨rfl, rfl⟩ (by simp [Value.oneCell']) ?_; refine GO.nil ?_; refine kthen_n ?_; refine G.seq ?_; refine G.region ?_; refine GO.move rfl rfl ?_; refine GO.fieldAddr rfl rfl ?_; refine GO.load1 rfl rfl rfl Tk.h rfl ?_; refine GO.fieldAddr rfl rfl ?_; refine GO.load1 rfl rfl rfl Tk.h rfl ?_)
      refine GO.call3 rfl rfl rfl rfl (set_mat n b (setL noX (l.take k)) p.1 p.2 hn2) (Tks.c (Tk.t Tk.h) Tks.n) ?_
      rintro _ _ (⟨m, m', e1, e2, g1, g2, rfl, rfl⟩ | ⟨hno, rfl, rfl⟩)
      · (refine GO.move rfl rfl ?_; refine GO.extract rfl rfl rfl ?_; refine GO.extract rfl rfl rfl ?_; refine GO.assign rfl rfl ?_; refine GO.assign rfl rfl ?_; refine GO.nil ?_; refine kthen_n ?_; refine G.seq ?_; refine G.region ?_; refine GO.move rfl rfl ?_; refine GO.neF rfl rfl rfl rfl ?_; refine GO.nil ?_; refine kthen_n ?_; refine G.condF rfl rfl ?_; refine G.skip ?_; refine kblock_n ?_; refine kthen_n ?_; refine G.region ?_; refine GO.addi rfl rfl rfl (by omega) ?_; refine GO.move rfl rfl ?_; refine GO.nil ?_; refine kthen_n ?_)
        refine ⟨k + 1, ⟨by omega, inL_succ hp hall (by rw [e1, e2]; exact inM_nat g1 g2)⟩, by omega, ?_, ?_⟩
        · (refine SubE.c rfl rfl ?_; refine SubE.c rfl rfl ?_; refine SubE.c rfl rfl ?_; refine SubE.c rfl rfl ?_; exact SubE.n)
        · rw [setL_succ hp, e1, e2]
          ((refine Sb.c Tk.h ?_; refine Sb.c (Tk.t Tk.h) ?_); (refine Sb.s ?_; exact Sb.r))
      · (refine GO.move rfl rfl ?_; refine GO.extract rfl rfl rfl ?_; refine GO.extract rfl rfl rfl ?_; refine GO.assign rfl rfl ?_; refine GO.assign rfl rfl ?_; refine GO.nil ?_; refine kthen_n ?_; refine G.seq ?_; refine G.region ?_; refine GO.move rfl rfl ?_; refine GO.nei rfl rfl rfl ?_; refine GO.nil ?_; refine kthen_n ?_; refine G.condT rfl rfl ?_; refine G.seq ?_; refine G.region ?_; refine GO.move rfl rfl ?_; refine GO.assign rfl rfl ?_; refine GO.assign rfl rfl ?_; refine GO.nil ?_; refine kthen_n ?_; refine G.ret ?_; refine kblock_r ?_; refine kthen_r ?_; refine kthen_r ?_; refine kblock_r ?_; refine kthen_r ?_)
        refine KF.r2 rfl (RV.t rfl) (RV.t rfl) (.inr ⟨fun h => ?_, rfl, rfl⟩) ?_
        · have := h.2.2
          rw [show ((n : Int)).toNat = n by omega, inL_not hp hno] at this
          cases this
        · ((refine Sb.c (Tk.t (Tk.t Tk.h)) ?_); (refine Sb.s ?_; refine Sb.s ?_; exact Sb.r))
    · obtain rfl : k = l.length := by omega
      rw [List.take_length] at hall ⊢
      (refine G.exit ?_; refine kthen_x ?_; refine kthen_x ?_; refine kblock_x ?_; refine kthen_n ?_; refine G.seq ?_; refine G.region ?_; refine GO.move rfl rfl ?_; refine GO.assign rfl rfl ?_; refine GO.assign rfl rfl ?_; refine GO.nil ?_; refine kthen_n ?_; refine G.ret ?_)
      refine KF.r2 rfl (RV.t rfl) (RV.t rfl) (.inl ⟨n, b, rfl, hn1, hn2, hall, rfl, rfl⟩) ?_
      ((refine Sb.c Tk.h ?_; refine Sb.c Tk.h ?_); (exact Sb.r))
  · (refine GO.move rfl rfl ?_; refine GO.extract rfl rfl rfl ?_; refine GO.extract rfl rfl rfl ?_; refine GO.assign rfl rfl ?_; refine GO.assign rfl rfl ?_; refine GO.nil ?_; refine kthen_n ?_; refine G.seq ?_; refine G.seq ?_; refine G.region ?_; refine GO.move rfl rfl ?_; refine GO.nei rfl rfl rfl ?_; refine GO.nil ?_; refine kthen_n ?_; refine G.condT rfl rfl ?_; refine G.seq ?_; refine G.region ?_; refine GO.move rfl rfl ?_; refine GO.assign rfl rfl ?_; refine GO.assign rfl rfl ?_; refine GO.nil ?_; refine kthen_n ?_; refine G.ret ?_; refine kthen_r ?_)
    refine KF.r2 rfl (RV.t rfl) (RV.t rfl) (.inr ⟨fun h => hno ⟨h.1, h.2.1⟩, rfl, rfl⟩) ?_
    ((refine Sb.c Tk.h ?_); (exact Sb.r))
end Go.Proofs.YtpfcgfgkmgnaaaaDoor
namespace Go.Proofs.YtpfcgfgkmgnaaaaDoor
open Go
attribute [local irreducible] G GO GR GT Fn FnV pt init exs pur sat own ImpS mat
section
variable {P : Program} {c : Cx} {A : Array Oper} {os : List Oper} {K : Kont} {L : Env} {H F : List HP}
theorem G.ownEither {el : TypeId} {sz n : Nat} {v : Value} {xs : List Value} {C : Code} (tk : Tk (own el sz n v xs) H F) (k0 : v = .slice none 0 0 → n = 0 → xs = [] → G P c C K L H) (k : ∀ b cap, v = .slice (some ⟨b, 0, none⟩) n cap → xs.length = n * sz → n ≤ maxLen → G P c C K L H) : G P c C K L H := by
  unfold G
  intro a w h
  obtain ⟨h1, h2, ds, h3, h4, h5⟩ := id h
  rcases own_shape (sat_perm (List.Perm.append_right _ tk) h5) with ⟨e1, e2, e3, _⟩ | ⟨b, cap, rest', e1, e2, e3, e4, _, _⟩
  · have := k0 e1 e2 e3; unfold G at this; exact this a w h
  · have := k b cap e1 e2 (by omega); unfold G at this; exact this a w h
end
theorem Sl.ofOwn {el : TypeId} {sz n b cap : Nat} {xs : List Value} (hx : xs.length = n * sz) : Sl (own el sz n (.slice (some ⟨b, 0, none⟩) n cap) xs) (.slice (some ⟨b, 0, none⟩) n cap) n sz xs :=
  ⟨_, _, rfl, hx, fun _ => ⟨b, 0, rfl, fun j u hj => by rw [Nat.zero_add]; exact Rd.own hj⟩⟩
set_option maxHeartbeats 2000000 in
theorem cloneP_spec (n : Nat) (v : Value) (xs : List Value) (h1 : ∀ u ∈ xs, u.oneCell' = true) (hn : ¬ 140737488355328 < n * 32) : Fn Tryd.prog 75 #[v] [own 128 4 n v xs] (fun r Q => Q = [own 128 4 n r xs, own 128 4 n v xs]) := by
  refine Fn.mk2 Tryd.func75 rfl rfl fun w0 F => ?_
  refine G.ownEither Tk.h (fun e1 e2 e3 => ?_) (fun b cap e1 e2 e3 => ?_)
  · subst e1 e2 e3
    refine G.ownNil (T := 128) (sz := 4) ?_
    (refine G.seq ?_; refine G.region ?_; refine GO.assign rfl rfl ?_; refine GO.nil ?_; refine kthen_n ?_; refine G.seq ?_; refine G.seq ?_; refine G.region ?_; refine GO.move rfl rfl ?_; refine GO.eqNilS rfl rfl ?_; refine GO.nil ?_; refine kthen_n ?_; refine G.condT rfl rfl ?_; refine G.seq ?_; refine G.region ?_; refine GO.assign rfl rfl ?_; refine GO.nil ?_; refine kthen_n ?_; refine G.ret ?_; refine kthen_r ?_)
    refine KF2.r1 rfl (RV.t rfl) rfl (ImpS.sb ?_)
    ((refine Sb.c Tk.h ?_; refine Sb.c Tk.h ?_); (exact Sb.r))
  · subst e1
    (refine G.seq ?_; refine G.region ?_; refine GO.assign rfl rfl ?_; refine GO.nil ?_; refine kthen_n ?_; refine G.seq ?_; refine G.seq ?_; refine G.region ?_; refine GO.move rfl rfl ?_; refine GO.eqNilS rfl rfl ?_; refine GO.nil ?_; refine kthen_n ?_; refine G.condF rfl rfl ?_; refine G.skip ?_; refine kthen_n ?_; refine G.seq ?_; refine G.region ?_)
    refine GO.buildSlice0 rfl fun v5 => ?_
    (refine GO.move rfl rfl ?_)
    refine GO.appendFrom (m := n) (q := own 128 4 n (.slice (some ⟨b, 0, none⟩) n cap) xs) rfl rfl rfl Tk.h Tk.h (Sl.ofOwn e2) h1 ⟨by decide, rfl⟩ (by rw [Nat.zero_add]; exact e3) (by omega) fun v7 => ?_
    rw [List.nil_append, Nat.zero_add n]
    (refine GO.assign rfl rfl ?_; refine GO.nil ?_; refine kthen_n ?_; refine G.ret ?_)
    refine KF2.r1 rfl (RV.t rfl) rfl (ImpS.sb ?_)
    ((refine Sb.c Tk.h ?_; refine Sb.c Tk.h ?_); (exact Sb.r))
set_option maxHeartbeats 2000000 in
theorem cloneL_spec (n : Nat) (v : Value) (xs : List Value) (h1 : ∀ u ∈ xs, u.oneCell' = true) (hn : ¬ 140737488355328 < n * 512) : Fn Tryd.prog 76 #[v] [own 104 64 n v xs] (fun r Q => Q = [own 104 64 n r xs, own 104 64 n v xs]) := by
  refine Fn.mk2 Tryd.func76 rfl rfl fun w0 F => ?_
  refine G.ownEither Tk.h (fun e1 e2 e3 => ?_) (fun b cap e1 e2 e3 => ?_)
  · subst e1 e2 e3
    refine G.ownNil (T := 104) (sz := 64) ?_
    (refine G.seq ?_; refine G.region ?_; refine GO.assign rfl rfl ?_; refine GO.nil ?_; refine kthen_n ?_; refine G.seq ?_; refine G.seq ?_; refine G.region ?_; refine GO.move rfl rfl ?_; refine GO.eqNilS rfl rfl ?_; refine GO.nil ?_; refine kthen_n ?_; refine G.condT rfl rfl ?_; refine G.seq ?_; refine G.region ?_; refine GO.assign rfl rfl ?_; refine GO.nil ?_; refine kthen_n ?_; refine G.ret ?_; refine kthen_r ?_)
    refine KF2.r1 rfl (RV.t rfl) rfl (ImpS.sb ?_)
    ((refine Sb.c Tk.h ?_; refine Sb.c Tk.h ?_); (exact Sb.r))
  · subst e1
    (refine G.seq ?_; refine G.region ?_; refine GO.assign rfl rfl ?_; refine GO.nil ?_; refine kthen_n ?_; refine G.seq ?_; refine G.seq ?_; refine G.region ?_; refine GO.move rfl rfl ?_; refine GO.eqNilS rfl rfl ?_; refine GO.nil ?_; refine kthen_n ?_; refine G.condF rfl rfl ?_; refine G.skip ?_; refine kthen_n ?_; refine G.seq ?_; refine G.region ?_)
    refine GO.buildSlice0 rfl fun v5 => ?_
    (refine GO.move rfl rfl ?_)
    refine GO.appendFrom (m := n) (q := own 104 64 n (.slice (some ⟨b, 0, none⟩) n cap) xs) rfl rfl rfl Tk.h Tk.h (Sl.ofOwn e2) h1 ⟨by decide, rfl⟩ (by rw [Nat.zero_add]; exact e3) (by omega) fun v7 => ?_
    rw [List.nil_append, Nat.zero_add n]
    (refine GO.assign rfl rfl ?_; refine GO.nil ?_; refine kthen_n ?_; refine G.ret ?_)
    refine KF2.r1 rfl (RV.t rfl) rfl (ImpS.sb ?_)
    ((refine Sb.c Tk.h ?_; refine Sb.c Tk.h ?_); (exact Sb.r))
theorem partsV_one (P : Nat → Nat → Nat) (np : Nat) : ∀ u ∈ partsV P np, u.oneCell' = true := by
  intro u hu
  unfold partsV grid at hu
  obtain ⟨n, _, hn⟩ := List.mem_flatMap.1 hu
  simp only [partR, List.mem_cons, List.not_mem_nil, or_false] at hn
  rcases hn with rfl | rfl | rfl | rfl <;> rfl
theorem leavesV_one (B : Nat → Blk) (nl : Nat) : ∀ u ∈ leavesV B nl, u.oneCell' = true := by
  intro u hu
  unfold leavesV grid at hu
  obtain ⟨n, _, hn⟩ := List.mem_flatMap.1 hu
  exact cells_one _ u hn
set_option maxHeartbeats 2000000 in
theorem copy_mat (side b : Nat) (X : Nat → Nat → Bool) : Fn Tryd.prog 44 #[.pointer (some ⟨b, 0, none⟩)] [mat side X b] (fun r Q => ∃ b', r = .pointer (some ⟨b', 0, none⟩) ∧ Q = [mat side X b', mat side X b]) := by
  refine Fn.mk2 Tryd.func44 rfl rfl fun w0 F => ?_
  (refine G.seq ?_; refine G.region ?_; refine GO.assign rfl rfl ?_; refine GO.nil ?_; refine kthen_n ?_; refine G.seq ?_; refine G.seq ?_; refine G.region ?_; refine GO.move rfl rfl ?_)
  refine GO.call1 rfl rfl (is_mat side b X) (Tks.c Tk.h Tks.n) ?_
  rintro _ _ ⟨rfl, rfl⟩
  (refine GO.not rfl rfl ?_; refine GO.nil ?_; refine kthen_n ?_; refine G.condF rfl rfl ?_; refine G.skip ?_; refine kthen_n ?_; refine G.seq ?_; refine G.region ?_; refine GO.move rfl rfl ?_; refine GO.nilCheck rfl rfl ?_)
  refine GO.matOpen Tk.h fun g hg => ?_
  have hpw := (show MatOK side X g.D g.np g.nl g.P g.B g.cnt from hg).pow
  obtain ⟨D, np, nl, P, B, cn, vp, vl⟩ := g
  dsimp only [MG.pcs] at hpw ⊢
  refine GO.ownOne (Tk.t Tk.h) fun honep => ?_
  refine GO.ownOne (Tk.t (Tk.t Tk.h)) fun honel => ?_
  have h5 : ∀ u ∈ [i64 side, i64 D, i64 cn, vp, vl], u.oneCell' = true := by
    intro u hu
    simp only [List.mem_cons, List.not_mem_nil, or_false] at hu
    rcases hu with rfl | rfl | rfl | rfl | rfl
    · rfl
    · rfl
    · rfl
    · exact honep
    · exact honel
  (refine GO.loadW rfl rfl rfl Tk.h rfl ?_; refine GO.alloc rfl fun b3 => ?_)
  refine GO.storeW rfl rfl Tk.h ⟨rfl, rfl⟩ h5 ?_
  (refine GO.nil ?_; refine kthen_n ?_; refine G.seq ?_; refine G.region ?_; refine GO.move rfl rfl ?_; refine GO.nilCheck rfl rfl ?_; refine GO.fieldAddr rfl rfl ?_; refine GO.load1 rfl rfl rfl (Tk.t Tk.h) rfl ?_)
  refine GO.call1 rfl rfl (cloneP_spec np vp (partsV P np) (partsV_one P np) (by omega)) (Tks.c (Tk.t (Tk.t Tk.h)) Tks.n) ?_
  rintro v1 _ rfl
  refine GO.ownOne Tk.h fun hone1 => ?_
  (refine GO.fieldAddr rfl rfl ?_; refine GO.store1 rfl rfl (by assumption) (Tk.t (Tk.t Tk.h)) (by simp) ?_; refine GO.nil ?_; refine kthen_n ?_; refine G.seq ?_; refine G.region ?_; refine GO.move rfl rfl ?_; refine GO.nilCheck rfl rfl ?_; refine GO.fieldAddr rfl rfl ?_; refine GO.load1 rfl rfl rfl (Tk.t (Tk.t (Tk.t Tk.h))) rfl ?_)
  refine GO.call1 rfl rfl (cloneL_spec nl vl (leavesV B nl) (leavesV_one B nl) (by omega)) (Tks.c (Tk.t (Tk.t (Tk.t (Tk.t Tk.h)))) Tks.n) ?_
  rintro v2 _ rfl
  refine GO.ownOne Tk.h fun hone2 => ?_
  (refine GO.fieldAddr rfl rfl ?_; refine GO.store1 rfl rfl (by assumption) (Tk.t (Tk.t Tk.h)) (by simp) ?_; refine GO.nil ?_; refine kthen_n ?_; refine G.seq ?_; refine G.region ?_; refine GO.assign rfl rfl ?_; refine GO.nil ?_; refine kthen_n ?_; refine G.ret ?_)
  refine KF2.r1 rfl (RV.t rfl) ⟨_, rfl, rfl⟩ ?_
  refine ImpS.mat ⟨D, np, nl, P, B, cn, v1, v2⟩ hg ?_
  refine ImpS.trans (ImpS.sb (M := matP b side D cn vp vl :: parP np vp P :: leaP nl vl B :: matP b3 side D cn v1 v2 :: parP np v1 P :: leaP nl v2 B :: F) ?_) (ImpS.trans (ImpS.mat ⟨D, np, nl, P, B, cn, vp, vl⟩ hg ImpS.refl) (ImpS.sb ?_))
  · ((refine Sb.c (Tk.t (Tk.t (Tk.t (Tk.t (Tk.t Tk.h))))) ?_; refine Sb.c (Tk.t (Tk.t (Tk.t (Tk.t Tk.h)))) ?_; refine Sb.c (Tk.t (Tk.t Tk.h)) ?_; refine Sb.c Tk.h ?_; refine Sb.c (Tk.t Tk.h) ?_; refine Sb.c Tk.h ?_); (exact Sb.r))
  · dsimp only [MG.pcs]
    ((refine Sb.c (Tk.t Tk.h) ?_; refine Sb.c (Tk.t Tk.h) ?_; refine Sb.c (Tk.t Tk.h) ?_; refine Sb.c Tk.h ?_); (exact Sb.r))
end Go.Proofs.YtpfcgfgkmgnaaaaDoor
namespace Go.Proofs.YtpfcgfgkmgnaaaaDoor
open Go
/-- A placed block's cells. -/
def qV (i j : Int) (C : Blk) : List Value := [i64 i, i64 j] ++ cells C
theorem qV_len (i j : Int) (C : Blk) : (qV i j C).length = 66 := by simp [qV, cells_len]
theorem zV_len : (List.replicate 2 (Value.int IntKind.i64 0) ++ List.replicate 64 (Value.int IntKind.u64 0)).length = 66 := by simp
theorem qV_one (i j : Int) (C : Blk) : ∀ u ∈ qV i j C, u.oneCell' = true := by
  intro u hu
  simp only [qV, List.mem_append, List.mem_cons, List.not_mem_nil, or_false] at hu
  rcases hu with (rfl | rfl) | hu
  · rfl
  · rfl
  · exact cells_one _ u hu
abbrev plV (X : Nat → Nat → Bool) (z : Nat) : List Value := qV ((z / 16 : Nat) : Int) ((z % 16 : Nat) : Int) (blkAt X (z / 16) (z % 16))
theorem allV_get {X : Nat → Nat → Bool} {l : List Nat} {k z j : Nat} (h : l[k]? = some z) (hj : j < 66) : (allV X l)[k * 66 + j]? = (plV X z)[j]? := by
  have := flat_get (enc := plV X) (k := 66) (fun z => qV_len _ _ _) hj l k
  rw [h] at this
  exact this
section
variable {P : Program} {c : Cx} {A : Array Oper} {rest os : List Oper} {K : Kont} {L : Env} {H F : List HP} {t : TypeId} {p : String} {e : Array Edge} {d : Nat}
end
attribute [local irreducible] G GO GR GT Fn FnV pt init exs pur sat own ImpS mat
/-- Blocks put into a matrix, one after the other. -/
def orL (fi fj : Nat → Nat) (fb : Nat → Blk) (Y : Nat → Nat → Bool) (l : List Nat) : Nat → Nat → Bool := l.foldl (fun Y z => orX Y (fi z) (fj z) (fb z)) Y
attribute [local irreducible] posL allV orL
end Go.Proofs.YtpfcgfgkmgnaaaaDoor
namespace Go.Proofs.YtpfcgfgkmgnaaaaDoor
open Go
/-! ## What is put together -/
/-- Turned over. -/
def flipX (X : Nat → Nat → Bool) : Nat → Nat → Bool := fun r c => X c r
/-- .. without another one's cells. -/
def diffX (X Y : Nat → Nat → Bool) : Nat → Nat → Bool := fun r c => X r c && !Y r c
attribute [local irreducible] G GO GR GT Fn FnV pt init exs pur sat own ImpS mat posL allV orL
end Go.Proofs.YtpfcgfgkmgnaaaaDoor
namespace Go.Proofs.YtpfcgfgkmgnaaaaDoor
open Go
theorem G.impS {P : Program} {c : Cx} {K : Kont} {L : Env} {H H' : List HP} {C : Code} (h : ImpS H H') (k : G P c C K L H') : G P c C K L H := G.imp h k
attribute [local irreducible] G GO GR GT Fn FnV pt init exs pur sat own ImpS mat posL allV orL
end Go.Proofs.YtpfcgfgkmgnaaaaDoor
namespace Go.Proofs.YtpfcgfgkmgnaaaaDoor
open Go
theorem cnt_one {x : BitVec 64} {c : Nat} (h : ∀ i, i < 64 → x.getLsbD i = decide (i = c)) : ∀ n, n ≤ 64 → cnt x n = if c < n then 1 else 0
  | 0, _ => by simp [cnt]
  | n + 1, hn => by
    simp only [cnt]
    rw [cnt_one h n (by omega), h n (by omega)]
    by_cases e : n = c
    · subst e; simp
    · rw [decide_eq_false e]
      by_cases e2 : c < n
      · have e3 : c < n + 1 := by omega
        simp [e2, e3]
      · have e3 : ¬ c < n + 1 := by omega
        simp [e2, e3]
theorem lenB_single {A : Blk} {r c : Nat} (hc : c < 64) (h : ∀ r' c', c' < 64 → (A r').getLsbD c' = (decide (r' = r) && decide (c' = c))) : ∀ n, lenB A n = if r < n then 1 else 0
  | 0 => rfl
  | n + 1 => by
    simp only [lenB]
    rw [lenB_single hc h n, ones_cnt]
    by_cases e : n = r
    · subst e
      rw [cnt_one (c := c) (fun i hi => by rw [h n i hi]; simp) 64 (Nat.le_refl _), if_pos hc]; simp
    · rw [cnt_none fun i hi => by rw [h n i hi, decide_eq_false e]; rfl]
      by_cases e2 : r < n
      · rw [if_pos e2, if_pos (by omega)]
      · rw [if_neg e2, if_neg (by omega)]
theorem cntX_add {X : Nat → Nat → Bool} {i j : Nat} (hi : i < 1024) (hj : j < 1024) (h : X i j = false) : cntX (addX X i j) = cntX X + 1 := by
  rw [← addX_or, cntX_or X (by omega) (by omega), lenB_single (r := i % 64) (c := j % 64) (Nat.mod_lt _ (by decide)), if_pos (Nat.mod_lt _ (by decide))]
  intro r c hc
  have hb : (bitB zeroB (i % 64) (j % 64) r).getLsbD c = (decide (r = i % 64) && decide (c = j % 64)) := by
    unfold bitB updB
    by_cases e : r = i % 64
    · rw [if_pos e, decide_eq_true e, Bool.true_and, BitVec.getLsbD_or, getLsbD_bit _ _ hc]
      simp [zeroB]
    · rw [if_neg e, decide_eq_false e]; simp [zeroB]
  unfold lessB
  rw [BitVec.getLsbD_and, hb, BitVec.getLsbD_not, blkAt_bit _ _ _ _ _ hc]
  by_cases e : r = i % 64 ∧ c = j % 64
  · obtain ⟨rfl, rfl⟩ := e
    rw [blk_part, blk_part, h]; simp [hc]
  · by_cases e1 : r = i % 64
    · have e2 : ¬ c = j % 64 := fun h => e ⟨e1, h⟩
      simp [e2]
    · simp [e1]
attribute [local irreducible] G GO GR GT Fn FnV pt init exs pur sat own ImpS mat posL allV orL
end Go.Proofs.YtpfcgfgkmgnaaaaDoor
namespace Go.Proofs.YtpfcgfgkmgnaaaaDoor
open Go
abbrev bkM (X : Nat → Nat → Bool) (b3 : Nat) (v : Value) : HP := star [pt b3 (row [v] 101), own 106 66 (posL X).length v (allV X (posL X))]
attribute [local irreducible] G GO GR GT Fn FnV pt init exs pur sat own ImpS mat posL allV orL
theorem blocks_mat (side b : Nat) (X : Nat → Nat → Bool) : Fn Tryd.prog 81 #[.pointer (some ⟨b, 0, none⟩)] [mat side X b] (fun r Q => ∃ b3 v, r = .func (.func 104) #[] #[.pointer (some ⟨b3, 0, none⟩)] ∧ Q = [bkM X b3 v, mat side X b]) := by
  refine Fn.mk2 Tryd.func81 rfl rfl fun w0 F => ?_
  (refine G.seq ?_; refine G.region ?_; refine GO.assign rfl rfl ?_; refine GO.nil ?_; refine kthen_n ?_; refine G.seq ?_; refine G.region ?_; refine GO.move rfl rfl ?_)
  refine GO.call1 rfl rfl (all_mat side b X) (Tks.c Tk.h Tks.n) ?_
  rintro v5 _ rfl
  refine GO.ownOne Tk.h fun hone => ?_
  (refine GO.alloc rfl fun b3 => ?_; refine GO.store1 rfl rfl (by assumption) Tk.h (by decide) ?_; refine GO.nil ?_; refine kthen_n ?_; refine G.seq ?_; refine G.region ?_; refine GO.makeFunc1 rfl rfl ?_; refine GO.assign rfl rfl ?_; refine GO.nil ?_; refine kthen_n ?_; refine G.ret ?_)
  refine KF2.r1 rfl (RV.t rfl) ⟨_, v5, rfl, rfl⟩ ?_
  refine ImpS.trans (ImpS.sb (M := pt b3 (row [v5] 101) :: own 106 66 (posL X).length v5 (allV X (posL X)) :: mat side X b :: F) ?_) ?_
  · ((refine Sb.c Tk.h ?_; refine Sb.c Tk.h ?_; refine Sb.c Tk.h ?_); (exact Sb.r))
  · exact ImpS.flat (k := [pt b3 (row [v5] 101), own 106 66 (posL X).length v5 (allV X (posL X))]) (M := mat side X b :: F) ImpS.refl
end Go.Proofs.YtpfcgfgkmgnaaaaDoor
namespace Go.Proofs.YtpfcgfgkmgnaaaaDoor
open Go
/-- The cells from a place on, row by row. -/
def restX (X : Nat → Nat → Bool) (K : Nat) : List (Nat × Nat) := ((List.range' K (1048576 - K)).filter fun z => X (z / 1024) (z % 1024)).map fun z => (z / 1024, z % 1024)
/-- All cells of a matrix, rising. -/
def cellsX (X : Nat → Nat → Bool) : List (Nat × Nat) := restX X 0
theorem restX_cut (X : Nat → Nat → Bool) {K K' : Nat} (h1 : K ≤ K') (h2 : K' ≤ 1048576) : restX X K = (((List.range' K (K' - K)).filter fun z => X (z / 1024) (z % 1024)).map fun z => (z / 1024, z % 1024)) ++ restX X K' := by
  unfold restX
  rw [show 1048576 - K = (K' - K) + (1048576 - K') by omega, ← List.range'_append_1, List.filter_append, List.map_append, show K + (K' - K) = K' by omega]
theorem restX_skip {X : Nat → Nat → Bool} {K K' : Nat} (h1 : K ≤ K') (h2 : K' ≤ 1048576) (h : ∀ z, K ≤ z → z < K' → X (z / 1024) (z % 1024) = false) : restX X K = restX X K' := by
  rw [restX_cut X h1 h2, List.filter_eq_nil_iff.2, List.map_nil, List.nil_append]
  intro z hz
  have := List.mem_range'_1.1 hz
  rw [h z (by omega) (by omega)]; simp
theorem restX_end (X : Nat → Nat → Bool) : restX X 1048576 = [] := rfl
theorem restX_row (X : Nat → Nat → Bool) {i r j : Nat} (hi : i < 16) (hr : r < 64) (hj : j < 16) : restX X (65536 * i + 1024 * r + 64 * j) = ((rowL 0 (blkAt X i j r)).map fun p => (64 * i + r, 64 * j + p.2)) ++ restX X (65536 * i + 1024 * r + 64 * (j + 1)) := by
  rw [restX_cut X (K' := 65536 * i + 1024 * r + 64 * (j + 1)) (by omega) (by omega), show 65536 * i + 1024 * r + 64 * (j + 1) - (65536 * i + 1024 * r + 64 * j) = 64 by omega]
  congr 1
  unfold rowL
  rw [List.range'_eq_map_range, List.filter_map, List.map_map, List.map_map]
  have hm : ∀ c, c < 64 → (65536 * i + 1024 * r + 64 * j + c) / 1024 = 64 * i + r ∧ (65536 * i + 1024 * r + 64 * j + c) % 1024 = 64 * j + c := fun c hc => by omega
  rw [List.filter_congr (q := fun c => (blkAt X i j r).getLsbD c) (fun c hc => ?_)]
  · refine List.map_congr_left fun c hc => ?_
    have hc' := hm c (by have := (List.mem_filter.1 hc).1; simpa using this)
    show (_, _) = (_, _)
    rw [hc'.1, hc'.2]
  · have hc' : c < 64 := by simpa using hc
    show X _ _ = _
    rw [(hm c hc').1, (hm c hc').2, blkAt_bit _ _ _ _ _ hc']
theorem restX_get {X : Nat → Nat → Bool} {n k K : Nat} {p : Nat × Nat} {l m : List (Nat × Nat)} (h : (cellsX X).drop n = restX X K) (hl : restX X K = l ++ m) (hk : l[k]? = some p) : (cellsX X)[n + k]? = some p := by
  have h1 := congrArg (fun x : List (Nat × Nat) => x[k]?) h
  simp only [List.getElem?_drop] at h1
  rw [h1, hl, List.getElem?_append_left (List.getElem?_eq_some_iff.1 hk).1, hk]
theorem restX_next {X : Nat → Nat → Bool} {n K : Nat} {l m : List (Nat × Nat)} (h : (cellsX X).drop n = restX X K) (hl : restX X K = l ++ m) : (cellsX X).drop (n + l.length) = m := by
  rw [← List.drop_drop, h, hl, List.drop_append_of_le_length (Nat.le_refl _), List.drop_length, List.nil_append]
theorem restX_le {X : Nat → Nat → Bool} {n K : Nat} {l m : List (Nat × Nat)} (h : (cellsX X).drop n = restX X K) (hl : restX X K = l ++ m) (hn : n ≤ (cellsX X).length) : n + l.length ≤ (cellsX X).length := by
  have := congrArg List.length h
  rw [hl, List.length_drop, List.length_append] at this
  omega
/-! ## A rising list, gone through -/
def UpTo (g : List Nat) (m b : Nat) (f : Nat → Nat) : Prop := ∀ (k z : Nat), g[k]? = some z → (k < m ↔ f z < b)
section
variable {g : List Nat} {m b : Nat} {f : Nat → Nat}
theorem UpTo.ge (h : UpTo g m b f) {z : Nat} (hz : g[m]? = some z) : b ≤ f z := by
  have := h m z hz; omega
theorem UpTo.nil (h : ∀ z ∈ g, b ≤ f z) : UpTo g 0 b f := fun k z hz => by have := h z (List.mem_of_getElem? hz); omega
def StrictF (g : List Nat) (f : Nat → Nat) : Prop := ∀ (a c x y : Nat), a < c → g[a]? = some x → g[c]? = some y → f x < f y
def WeakF (g : List Nat) (f : Nat → Nat) : Prop := ∀ (a c x y : Nat), a < c → g[a]? = some x → g[c]? = some y → f x ≤ f y
theorem UpTo.step (hs : StrictF g f) {z : Nat} (hz : g[m]? = some z) : UpTo g (m + 1) (f z + 1) f := fun k y hy => by
  rcases Nat.lt_trichotomy k m with h | h | h
  · have := hs k m y z h hy hz; omega
  · subst h; rw [hz] at hy; obtain rfl : z = y := by simpa using hy
    omega
  · have := hs m k z y h hz hy; omega
theorem UpTo.gap (h : UpTo g m b f) (hs : StrictF g f) {z y : Nat} (hz : g[m]? = some z) (hy : y ∈ g) (hl : f y < f z) : f y < b := by
  obtain ⟨k, hk⟩ := List.mem_iff_getElem?.1 hy
  refine (h k y hk).1 ?_
  apply Classical.byContradiction
  intro hn
  rcases Nat.lt_or_ge m k with h' | h'
  · have := hs m k z y h' hz hk; omega
  · obtain rfl : k = m := by omega
    rw [hz] at hk; obtain rfl : z = y := by simpa using hk
    omega
theorem UpTo.gapW (h : UpTo g m b f) (hs : ∀ (a c x y : Nat), a < c → g[a]? = some x → g[c]? = some y → f x ≤ f y) {z y : Nat} (hz : g[m]? = some z) (hy : y ∈ g) (hl : f y < f z) : f y < b := by
  obtain ⟨k, hk⟩ := List.mem_iff_getElem?.1 hy
  refine (h k y hk).1 ?_
  apply Classical.byContradiction
  intro hn
  rcases Nat.lt_or_ge m k with h' | h'
  · have := hs m k z y h' hz hk; omega
  · obtain rfl : k = m := by omega
    rw [hz] at hk; obtain rfl : z = y := by simpa using hk
    omega
theorem UpTo.all (h : UpTo g m b f) (hm : g.length ≤ m) {y : Nat} (hy : y ∈ g) : f y < b := by
  obtain ⟨k, hk⟩ := List.mem_iff_getElem?.1 hy
  exact (h k y hk).1 (Nat.lt_of_lt_of_le (List.getElem?_eq_some_iff.1 hk).1 hm)
end
theorem strict_of {l : List Nat} (h : l.Pairwise (fun a b => a < b)) : StrictF l id := fun a c x y hac hx hy => by
  obtain ⟨ha, rfl⟩ := List.getElem?_eq_some_iff.1 hx
  obtain ⟨hc, rfl⟩ := List.getElem?_eq_some_iff.1 hy
  exact List.pairwise_iff_getElem.1 h a c ha hc hac
theorem posL_upE {X : Nat → Nat → Bool} : StrictF (posL X) id := strict_of (List.Pairwise.filter _ List.pairwise_lt_range)
theorem posL_weak {X : Nat → Nat → Bool} : WeakF (posL X) (fun z => z / 16) := fun a c x y h hx hy => by
  have : x < y := posL_upE a c x y h hx hy
  show x / 16 ≤ y / 16
  omega
/-- The blocks of one row of blocks. -/
def grp (X : Nat → Nat → Bool) (f t : Nat) : List Nat := ((posL X).take t).drop f
theorem grp_get (X : Nat → Nat → Bool) {f t k : Nat} (h : f + k < t) : (grp X f t)[k]? = (posL X)[f + k]? := by
  unfold grp; rw [List.getElem?_drop, List.getElem?_take, if_pos h]
theorem grp_len {X : Nat → Nat → Bool} {f t : Nat} (h : t ≤ (posL X).length) : (grp X f t).length = t - f := by
  unfold grp; rw [List.length_drop, List.length_take]; omega
structure GrpOK (X : Nat → Nat → Bool) (i : Nat) (g : List Nat) : Prop where
  mem : ∀ z, z ∈ g ↔ z ∈ posL X ∧ z / 16 = i
  up : StrictF g (fun z => z % 16)
theorem grp_ok {X : Nat → Nat → Bool} {i f t : Nat} (ht : t ≤ (posL X).length) (h : ∀ k z, (posL X)[k]? = some z → ((f ≤ k ∧ k < t) ↔ z / 16 = i)) : GrpOK X i (grp X f t) := by
  have gk : ∀ k z, (grp X f t)[k]? = some z → f + k < t := fun k z hk => by
    have := (List.getElem?_eq_some_iff.1 hk).1
    rw [grp_len ht] at this; omega
  refine ⟨fun z => ⟨fun hz => ?_, fun ⟨hz, hi⟩ => ?_⟩, fun a c x y hac hx hy => ?_⟩
  · obtain ⟨k, hk⟩ := List.mem_iff_getElem?.1 hz
    have hlt := gk k z hk
    rw [grp_get X hlt] at hk
    exact ⟨List.mem_of_getElem? hk, (h _ _ hk).1 ⟨by omega, hlt⟩⟩
  · obtain ⟨k, hk⟩ := List.mem_iff_getElem?.1 hz
    have hkk := (h k z hk).2 hi
    refine List.mem_iff_getElem?.2 ⟨k - f, ?_⟩
    rw [grp_get X (by omega), show f + (k - f) = k by omega, hk]
  · have h1 := gk a x hx
    have h2 := gk c y hy
    rw [grp_get X h1] at hx
    rw [grp_get X h2] at hy
    have e1 := (h _ _ hx).1 ⟨by omega, h1⟩
    have e2 := (h _ _ hy).1 ⟨by omega, h2⟩
    have : x < y := posL_upE (f + a) (f + c) x y (by omega) hx hy
    show x % 16 < y % 16
    omega
/-! ## Gaps -/
theorem gap_row {X : Nat → Nat → Bool} {i r j0 j : Nat} {g : List Nat} (hg : GrpOK X i g) (hi : i < 16) (hr : r < 64) (hj : j ≤ 16) (hle : j0 ≤ j) (h : ∀ y ∈ g, y % 16 < j → y % 16 < j0) : restX X (65536 * i + 1024 * r + 64 * j0) = restX X (65536 * i + 1024 * r + 64 * j) := by
  refine restX_skip (by omega) (by omega) fun z h1 h2 => ?_
  cases hx : X (z / 1024) (z % 1024) with
  | false => rfl
  | true =>
    exfalso
    have e1 : z / 1024 = 64 * i + r := by omega
    have hm : 16 * i + z % 1024 / 64 ∈ g := by
      refine (hg.mem _).2 ⟨posL_mem.2 ⟨by omega, ?_⟩, by omega⟩
      rw [show (16 * i + z % 1024 / 64) / 16 = i by omega, show (16 * i + z % 1024 / 64) % 16 = z % 1024 / 64 by omega, hasB_iff]
      exact ⟨r, z % 1024 % 64, hr, Nat.mod_lt _ (by decide), by rw [← e1, Nat.div_add_mod]; exact hx⟩
    have := h _ hm (by omega)
    omega
theorem gap_rows {X : Nat → Nat → Bool} {i0 i : Nat} (hi : i ≤ 16) (hle : i0 ≤ i) (h : ∀ y ∈ posL X, y / 16 < i → y / 16 < i0) : restX X (65536 * i0) = restX X (65536 * i) := by
  refine restX_skip (by omega) (by omega) fun z h1 h2 => ?_
  cases hx : X (z / 1024) (z % 1024) with
  | false => rfl
  | true =>
    exfalso
    have hm : 16 * (z / 1024 / 64) + z % 1024 / 64 ∈ posL X := by
      refine posL_mem.2 ⟨by omega, ?_⟩
      rw [show (16 * (z / 1024 / 64) + z % 1024 / 64) / 16 = z / 1024 / 64 by omega, show (16 * (z / 1024 / 64) + z % 1024 / 64) % 16 = z % 1024 / 64 by omega, hasB_iff]
      exact ⟨z / 1024 % 64, z % 1024 % 64, Nat.mod_lt _ (by decide), Nat.mod_lt _ (by decide), by rw [Nat.div_add_mod, Nat.div_add_mod]; exact hx⟩
    have := h _ hm (by omega)
    omega
/-- A row of a block alone. -/
theorem cellsL_one (x : BitVec 64) : cellsL (updB zeroB 0 x) = rowL 0 x := by
  unfold cellsL
  rw [rowsL_step _ (by decide)]
  have : rowsL (updB zeroB 0 x) 1 = [] := by
    unfold rowsL
    rw [List.flatMap_eq_nil_iff]
    intro i hi
    have h1 := (List.mem_range'_1.1 hi).1
    have : updB zeroB 0 x i = 0#64 := by unfold updB zeroB; rw [if_neg (by omega)]; rfl
    rw [this, rowL_zero]
  rw [this, List.append_nil]
  rfl
end Go.Proofs.YtpfcgfgkmgnaaaaDoor
namespace Go.Proofs.YtpfcgfgkmgnaaaaDoor
open Go
section
variable {P : Program}
/-- A round's contract, the state as one piece. -/
theorem FnV.star1 {y : Value} {u : List Value} {J J' S Sh : List HP} (h : FnV P y u (J ++ Sh) (fun v Q => (v = .bool true ∧ Q = J' ++ Sh) ∨ (v = .bool false ∧ Q = S ++ Sh))) :
    FnV P y u (star J :: Sh) (fun v Q => (v = .bool true ∧ Q = star J' :: Sh) ∨ (v = .bool false ∧ Q = star S :: Sh)) := by
  obtain ⟨fn, caps, hv, h⟩ := h
  refine ⟨fn, caps, hv, fun F w s => ?_⟩
  have s1 : sat ((J ++ Sh) ++ F) w := by rw [List.append_assoc]; exact sat_flat.1 s
  obtain ⟨nx, h1, h2⟩ := h F w s1
  refine ⟨nx, h1, h2.mono fun e w' => ?_⟩
  rintro ⟨v, Q, a, b, x | x, d⟩
  · obtain ⟨rfl, rfl⟩ := x
    rw [List.append_assoc] at d
    exact ⟨_, star J' :: Sh, a, b, .inl ⟨rfl, rfl⟩, sat_flat.2 d⟩
  · obtain ⟨rfl, rfl⟩ := x
    rw [List.append_assoc] at d
    exact ⟨_, star S :: Sh, a, b, .inr ⟨rfl, rfl⟩, sat_flat.2 d⟩
theorem SeqOK.of1 {gf : FuncId} [hc : Cal P gf] {caps : Array Value} {xs : List (List Value)} {Sh Gm : List HP}
    (h : ∀ (y : Value) (J S : Nat → HP), (∀ i u, xs[i]? = some u → FnV P y u (J i :: Sh) (fun v Q => (v = .bool true ∧ Q = J (i + 1) :: Sh) ∨ (v = .bool false ∧ Q = S i :: Sh))) →
      Fn P gf (#[y] ++ caps) (J 0 :: (Sh ++ Gm)) (fun _ Q => Q = J xs.length :: (Sh ++ Gm) ∨ ∃ i, i < xs.length ∧ Q = S i :: (Sh ++ Gm))) : SeqOK P (.func (.func gf) #[] caps) xs Sh Gm :=
  ⟨gf, caps, rfl, hc, fun y J X hy F w s => by
    have s1 : sat ((star (J 0) :: (Sh ++ Gm)) ++ F) w := by
      rw [List.append_assoc] at s
      exact sat_flat.2 s
    refine (h y (fun i => star (J i)) (fun i => star (X i)) (fun i u hu => FnV.star1 (hy i u hu)) F w s1).mono fun e w' => ?_
    rintro ⟨v, Q, a, b, x | ⟨i, hi, x⟩, d⟩
    · subst x
      exact ⟨v, J xs.length ++ (Sh ++ Gm), a, b, .inl rfl, by rw [List.append_assoc]; exact sat_flat.1 d⟩
    · subst x
      exact ⟨v, X i ++ (Sh ++ Gm), a, b, .inr ⟨i, hi, rfl⟩, by rw [List.append_assoc]; exact sat_flat.1 d⟩⟩
theorem FnV.form {y : Value} {u : List Value} {Pre : List HP} {R : Value → List HP → Prop} (h : FnV P y u Pre R) : ∃ fn caps, y = .func fn #[] caps := let ⟨fn, caps, hv, _⟩ := h; ⟨fn, caps, hv⟩
variable {c : Cx} {A : Array Oper} {rest : List Oper} {K : Kont} {L : Env} {H F : List HP} {t : TypeId} {p : String} {e : Array Edge} {d : Nat}
/-- s[l:h]. -/
theorem GO.sliceLH {ty el : TypeId} {sz n cap l h b o : Nat} {kk kh : IntKind} {i j : Int} {x y z : Operand} [hu : UL P ty (.slice el)] [hs : SZ P el sz] (hN : Nat.blt d c.N = true) (hx : evl L x = some (.slice (some ⟨b, o, none⟩) n cap)) (hy : evl L y = some (.int kk i)) (hz : evl L z = some (.int kh j)) (hi : i = (l : Int) ∧ j = (h : Int) ∧ l < h ∧ h ≤ cap)
    (k : GO P c A rest K ((d, .slice (some ⟨b, o + l * sz, none⟩) (h - l) (cap - l)) :: L) H) : GO P c A (⟨some d, .slice ty x (some y) (some z) none, t, p, e, none⟩ :: rest) K L H :=
  GO.val hN rfl (fun a w Y hh _ => by
    obtain ⟨rfl, rfl, h1, h2⟩ := hi
    have hle : (l : Int) ≤ h := by omega
    have hle2 : (h : Int) ≤ cap := by omega
    have hne : ¬ cap = l := by omega
    simp only [execOp, hh.eval hx, Option.map_none, Option.map_some, hh.eval hy, hh.eval hz]
    simp [Instr.sliceAt, Instr.slice, Sem.run_bind, run_underlying hu.out, Instr.sliceBounds, run_sliceBound w _ _ _ _ (Int.natCast_nonneg l) hle, run_sliceBound w _ _ _ _ (Int.natCast_nonneg h) hle2, run_sizeOf_SZ, Result.andThen, hne, add_plain]) k
end
end Go.Proofs.YtpfcgfgkmgnaaaaDoor
namespace Go.Proofs.YtpfcgfgkmgnaaaaDoor
open Go
section
variable {P : Program} {c : Cx} {A : Array Oper} {rest : List Oper} {K : Kont} {L : Env} {H F : List HP} {t : TypeId} {p : String} {e : Array Edge} {d : Nat}
/-- A placed block out of a list of them that can be read. -/
theorem GO.loadQR {b oo o k z : Nat} {X : Nat → Nat → Bool} {l : List Nat} {ty : TypeId} {ds : TypeDesc} {x : Operand} {q : HP} [hu : UL P ty ds] [hs : SZ P ty 66] (hrd : ∀ j u, (allV X l)[j]? = some u → Rd q ⟨b, oo + j, none⟩ u) (hd : ds.isRow = true) (hN : Nat.blt d c.N = true) (hx : evl L x = some (.pointer (some ⟨b, o, none⟩))) (ho : o = oo + k * 66) (hz : l[k]? = some z)
    (tk : Tk q H F) (k : GO P c A rest K ((d, .agg (plV X z).toArray) :: L) H) : GO P c A (⟨some d, .load ty x, t, p, e, none⟩ :: rest) K L H :=
  GO.loadM (vs := plV X z) hd hN hx tk (qV_len _ _ _) (fun j u hj => by
    have hj66 : j < 66 := by have := (List.getElem?_eq_some_iff.1 hj).1; rw [qV_len] at this; exact this
    rw [ho, Nat.add_assoc]
    refine hrd _ _ ?_
    rw [allV_get hz hj66]
    exact hj) k
end
theorem plV_word (X : Nat → Nat → Bool) (z : Nat) {r o : Nat} (hr : r < 64) (ho : o = 2 + r) : (plV X z)[o]? = some (u64 (blkAt X (z / 16) (z % 16) r)) := by
  subst ho
  show (_ :: _ :: cells _)[2 + r]? = _
  rw [show 2 + r = r + 1 + 1 by omega]
  exact cells_get _ hr rfl
theorem allV_grp {X : Nat → Nat → Bool} {f t j : Nat} {u : Value} (h : (allV X (grp X f t))[j]? = some u) : (allV X (posL X))[f * 66 + j]? = some u := by
  have hj := (List.getElem?_eq_some_iff.1 h).1
  rw [allV_len] at hj
  have hk : j / 66 < (grp X f t).length := by omega
  have hft : f + j / 66 < t := by unfold grp at hk; rw [List.length_drop, List.length_take] at hk; omega
  have e : j = j / 66 * 66 + j % 66 := by omega
  obtain ⟨z, hz⟩ : ∃ z, (grp X f t)[j / 66]? = some z := ⟨_, List.getElem?_eq_getElem hk⟩
  have hz2 := hz
  rw [grp_get X hft] at hz2
  rw [e, allV_get hz (Nat.mod_lt _ (by decide))] at h
  rw [e, show f * 66 + (j / 66 * 66 + j % 66) = (f + j / 66) * 66 + j % 66 by omega, allV_get hz2 (Nat.mod_lt _ (by decide))]
  exact h
theorem built_row (w : BitVec 64) : Tryd.prog.built 104 [(0, u64 w)] = some (u64 w :: List.replicate 63 (.int .u64 0)).toArray := by kernel_rfl
theorem one_row (w : BitVec 64) : u64 w :: List.replicate 63 (.int .u64 0) = cells (updB zeroB 0 w) := by
  rw [← cells_set zeroB w (show 0 = 0 from rfl), ← cells_zero]
  rfl
abbrev celV (p : Nat × Nat) : List Value := [i64 (p.1 : Nat), i64 (p.2 : Nat)]
attribute [local irreducible] G GO GR GT Fn FnV pt init exs pur sat own ImpS mat posL allV orL restX cellsX
set_option maxHeartbeats 4000000 in
theorem gcells_spec (q o : HP) (hq : Tab q) (X : Nat → Nat → Bool) (i : Nat) (hi : i < 16) (g : List Nat) (hg : GrpOK X i g) (hgl : ¬ 256 < g.length) (v y : Value) (hyf : ∃ fn caps, y = .func fn #[] caps) (hv : Sl o v g.length 66 (allV X g)) (J S : Nat → HP)
    (hy : ∀ n u, ((cellsX X).map celV)[n]? = some u → FnV Tryd.prog y u [J n, q] (fun v Q => (v = .bool true ∧ Q = [J (n + 1), q]) ∨ (v = .bool false ∧ Q = [S n, q]))) (n0 : Nat) (h0 : (cellsX X).drop n0 = restX X (65536 * i)) (hn0 : n0 ≤ (cellsX X).length) :
    Fn Tryd.prog 97 #[v, y] [J n0, q, o] (fun r Q => (r = .bool true ∧ ∃ n, (cellsX X).drop n = restX X (65536 * (i + 1)) ∧ n ≤ (cellsX X).length ∧ Q = [J n, q, o]) ∨ (r = .bool false ∧ ∃ n, n < (cellsX X).length ∧ Q = [S n, q, o])) := by
  obtain ⟨fn, caps, rfl⟩ := hyf
  obtain ⟨a, cap, rfl, hl, hrd⟩ := hv
  refine Fn.mk2 Tryd.func97 rfl rfl fun w0 F => ?_
  (refine G.seq ?_; refine G.region ?_; refine GO.box rfl rfl rfl fun b3 => ?_; refine GO.alloc rfl fun b4 => ?_; refine GO.nil ?_; refine kthen_n ?_; refine G.seq ?_; refine G.seq ?_; refine G.region ?_; refine GO.move rfl rfl ?_; refine GO.nil ?_; refine kthen_n ?_; refine G.block ?_)
  refine G.loop2 (fun (r : Nat) (n : Nat) => [(0, .slice a g.length cap), (3, .pointer (some ⟨b3, 0, none⟩)), (4, .pointer (some ⟨b4, 0, none⟩)), (9, i64 r)])
    (fun _ n => pt b3 (row [.func fn #[] caps] 92) :: pt b4 (row [.bool false] 4) :: J n :: q :: o :: F) (fun r n => r ≤ 64 ∧ (cellsX X).drop n = restX X (65536 * i + 1024 * r) ∧ n ≤ (cellsX X).length) (fun r _ => 64 - r) 0 n0 ⟨by omega, h0, hn0⟩ ?_ ?_ ?_
  · (refine SubE.c rfl rfl ?_; refine SubE.c rfl rfl ?_; refine SubE.c rfl rfl ?_; refine SubE.c rfl rfl ?_; exact SubE.n)
  · ((refine Sb.c (Tk.t Tk.h) ?_; refine Sb.c Tk.h ?_; refine Sb.c Tk.h ?_; refine Sb.c Tk.h ?_; refine Sb.c Tk.h ?_); (exact Sb.r))
  rintro r n ⟨hr, hd, hnl⟩
  (refine G.seq ?_; refine G.region ?_; refine GO.lti rfl rfl rfl ?_; refine GO.nil ?_; refine kthen_n ?_; refine G.seq ?_)
  refine G.condD rfl (fun hlt => ?_) (fun hge => ?_)
  · have hr64 : r < 64 := by omega
    (refine G.skip ?_; refine kthen_n ?_; refine G.seq ?_; refine G.block ?_; refine G.seq ?_; refine G.region ?_; refine GO.move rfl rfl ?_; refine GO.alloc rfl fun b5 => ?_; refine GO.store1 rfl rfl rfl Tk.h (by decide) ?_; refine GO.nil ?_; refine kthen_n ?_; refine G.seq ?_; refine G.region ?_; refine GO.move rfl rfl ?_; refine GO.lenS rfl rfl ?_; refine GO.move rfl rfl ?_; refine GO.nil ?_; refine kthen_n ?_; refine G.block ?_)
    refine G.loop2 (fun (m : Nat) (n : Nat) => [(0, .slice a g.length cap), (3, .pointer (some ⟨b3, 0, none⟩)), (4, .pointer (some ⟨b4, 0, none⟩)), (5, .pointer (some ⟨b5, 0, none⟩)), (9, i64 r), (12, .slice a g.length cap), (13, i64 g.length), (14, i64 m)])
      (fun _ n => pt b5 (row [i64 r] 3) :: pt b3 (row [.func fn #[] caps] 92) :: pt b4 (row [.bool false] 4) :: J n :: q :: o :: F) (fun m n => m ≤ g.length ∧ ∃ j0, j0 ≤ 16 ∧ UpTo g m j0 (fun z => z % 16) ∧ (cellsX X).drop n = restX X (65536 * i + 1024 * r + 64 * j0) ∧ n ≤ (cellsX X).length) (fun m _ => g.length - m) 0 n ⟨by omega, 0, by omega, UpTo.nil (fun _ _ => Nat.zero_le _), hd, hnl⟩ ?_ ?_ ?_
    · (refine SubE.c rfl rfl ?_; refine SubE.c rfl rfl ?_; refine SubE.c rfl rfl ?_; refine SubE.c rfl rfl ?_; refine SubE.c rfl rfl ?_; refine SubE.c rfl rfl ?_; refine SubE.c rfl rfl ?_; refine SubE.c rfl rfl ?_; exact SubE.n)
    · ((refine Sb.c Tk.h ?_; refine Sb.c Tk.h ?_; refine Sb.c Tk.h ?_; refine Sb.c Tk.h ?_; refine Sb.c Tk.h ?_; refine Sb.c Tk.h ?_); (exact Sb.r))
    rintro m n ⟨hm, j0, hj0, hup, hd, hnl⟩
    (refine G.seq ?_; refine G.region ?_; refine GO.lti rfl rfl rfl ?_; refine GO.nil ?_; refine kthen_n ?_; refine G.seq ?_)
    refine G.condD rfl (fun hlt => ?_) (fun hge => ?_)
    · have hmg : m < g.length := by omega
      obtain ⟨bo, oo, rfl, hr'⟩ := hrd (by omega)
      obtain ⟨z, hz⟩ : ∃ z, g[m]? = some z := ⟨_, List.getElem?_eq_getElem hmg⟩
      have hz1 := ((hg.mem z).1 (List.mem_of_getElem? hz)).2
      have hj : z % 16 < 16 := Nat.mod_lt _ (by decide)
      have hd' := hd.trans (gap_row hg hi hr64 (Nat.le_of_lt hj) (hup.ge hz) (fun y hy h => hup.gap hg.up hz hy h))
      have hrow := restX_row X hi hr64 hj
      have hup' := UpTo.step hg.up hz
      have hgt := fun k p => restX_get (k := k) (p := p) hd' hrow
      have hnx := restX_next hd' hrow
      have hnl' := restX_le hd' hrow hnl
      clear hd hup hrow hmg
      (refine G.skip ?_; refine kthen_n ?_; refine G.seq ?_; refine G.block ?_; refine G.seq ?_; refine G.region ?_)
      refine GO.idxS (j := m) rfl rfl rfl ⟨rfl, by omega⟩ ?_
      refine GO.loadQR hr' rfl rfl rfl rfl hz (Tk.t (Tk.t (Tk.t (Tk.t (Tk.t Tk.h))))) ?_
      (refine GO.alloc rfl fun b7 => ?_; refine GO.storeW rfl rfl Tk.h ⟨qV_len _ _ _, zV_len⟩ (qV_one _ _ _) ?_; refine GO.nil ?_; refine kthen_n ?_; refine G.seq ?_; refine G.region ?_; refine GO.load1 rfl rfl rfl (Tk.t Tk.h) rfl ?_; refine GO.fieldAddr rfl rfl ?_; refine GO.idxA rfl rfl rfl ⟨rfl, by omega⟩ ?_)
      refine GO.load1 rfl rfl rfl Tk.h (plV_word X z hr64 (by omega)) ?_
      generalize hw : blkAt X (z / 16) (z % 16) r = w
      rw [show i = z / 16 from hz1.symm] at hgt hnx
      rw [hw] at hgt hnx
      rw [show i = z / 16 from hz1.symm, hw] at hnl'
      refine GO.buildPart1 (built_row w) rfl rfl ?_
      rw [one_row]
      refine GO.call1 rfl rfl (bcells_spec (updB zeroB 0 w)) Tks.n ?_
      rintro _ _ ⟨bI, rfl, rfl⟩
      (refine GO.nil ?_; refine kthen_n ?_; refine G.block ?_)
      refine G.rangeF (F := o :: F) (psl := [24]) (v := .func (.func 99) #[] #[.pointer (some ⟨bI, 0, none⟩)]) (xs := (cellsL (updB zeroB 0 w)).map fun p => [cellV p]) (Sh := [q]) (Gm := [pt bI (row (cells (updB zeroB 0 w)) 104)])
        (fun k => [J (n + k), pt b7 (row (plV X z) 106), pt b5 (row [i64 r] 3), pt b3 (row [.func fn #[] caps] 92), pt b4 (row [.bool false] 4)])
        (fun k jc => [pur (jc = .ret ∧ n + k < (cellsX X).length), S (n + k), pt b7 (row (plV X z) 106), pt b5 (row [i64 r] 3), pt b3 (row [.func fn #[] caps] 92), pt b4 (row [.bool false] 4)])
        (fun _ h => by cases h) rfl (fun u hu => by obtain ⟨p, _, rfl⟩ := List.mem_map.1 hu; rfl) rfl (cells_seq q hq (updB zeroB 0 w) bI) ?_ (fun lp Lr Lb w1 F1 k u hu => ?_) ?_ ?_
      · (refine Tks.c (Tk.t (Tk.t (Tk.t (Tk.t (Tk.t Tk.h))))) ?_; refine Tks.c (Tk.t Tk.h) ?_; refine Tks.c (Tk.t Tk.h) ?_; refine Tks.c (Tk.t Tk.h) ?_; refine Tks.c (Tk.t Tk.h) ?_; refine Tks.c (Tk.t Tk.h) ?_; exact Tks.n)
      · obtain ⟨p, hp, rfl⟩ : ∃ p, (rowL 0 w)[k]? = some p ∧ u = [cellV p] := by
          rw [cellsL_one, List.getElem?_map] at hu
          cases hc : (rowL 0 w)[k]? with
          | none => simp [hc] at hu
          | some p => simp [hc] at hu; exact ⟨p, rfl, hu.symm⟩
        have hyk := hy (n + k) (celV (64 * (z / 16) + r, 64 * (z % 16) + p.2)) (by rw [List.getElem?_map, hgt k (64 * (z / 16) + r, 64 * (z % 16) + p.2) (by rw [List.getElem?_map, hp]; rfl)]; rfl)
        have hnk : n + k < (cellsX X).length := (List.getElem?_eq_some_iff.1 (hgt k (64 * (z / 16) + r, 64 * (z % 16) + p.2) (by rw [List.getElem?_map, hp]; rfl))).1
        dsimp only [celV] at hyk
        rw [show ((64 * (z / 16) + r : Nat) : Int) = ((z / 16 : Nat) : Int) * 64 + r by omega, show ((64 * (z % 16) + p.2 : Nat) : Int) = ((z % 16 : Nat) : Int) * 64 + (p.2 : Nat) by omega] at hyk
        have hp2 : ¬ 64 ≤ p.2 := by
          have := List.mem_of_getElem? hp
          unfold rowL at this
          obtain ⟨c, hc, rfl⟩ := List.mem_map.1 this
          have := List.mem_range.1 (List.mem_filter.1 hc).1
          show ¬ 64 ≤ c
          omega
        change G _ _ _ _ ((24, cellV p) :: _) (J (n + k) :: pt b7 (row (plV X z) 106) :: pt b5 (row [i64 r] 3) :: pt b3 (row [.func fn #[] caps] 92) :: pt b4 (row [.bool false] 4) :: q :: F1)
        (refine G.region ?_; refine GO.alloc rfl fun b8 => ?_; refine GO.storeW rfl rfl Tk.h ⟨rfl, rfl⟩ (by simp [Value.oneCell']) ?_; refine GO.nil ?_)
        refine kA_n ?_
        (refine G.block ?_; refine G.seq ?_; refine G.region ?_; refine GO.load1 rfl rfl rfl (Tk.t (Tk.t (Tk.t (Tk.t Tk.h)))) rfl ?_; refine GO.fieldAddr rfl rfl ?_; refine GO.fieldAddr rfl rfl ?_; refine GO.load1 rfl rfl rfl (Tk.t (Tk.t Tk.h)) rfl ?_; refine GO.muli rfl rfl rfl (by omega) ?_; refine GO.load1 rfl rfl rfl (Tk.t (Tk.t (Tk.t Tk.h))) rfl ?_; refine GO.addi rfl rfl rfl (by omega) ?_; refine GO.fieldAddr rfl rfl ?_; refine GO.fieldAddr rfl rfl ?_; refine GO.load1 rfl rfl rfl (Tk.t (Tk.t Tk.h)) rfl ?_; refine GO.muli rfl rfl rfl (by omega) ?_; refine GO.fieldAddr rfl rfl ?_; refine GO.load1 rfl rfl rfl Tk.h rfl ?_; refine GO.addi rfl rfl rfl (by omega) ?_)
        refine GO.callV2 rfl rfl rfl rfl (hyk) (Tks.c (Tk.t Tk.h) (Tks.c (Tk.t (Tk.t (Tk.t (Tk.t (Tk.t Tk.h))))) Tks.n)) ?_
        rintro _ _ (⟨rfl, rfl⟩ | ⟨rfl, rfl⟩)
        · (refine GO.not rfl rfl ?_; refine GO.nil ?_; refine kthen_n ?_; refine G.condF rfl rfl ?_; refine G.skip ?_; refine kblock_n ?_)
          refine kB_n (ImpS.sb ?_)
          ((refine Sb.c Tk.h ?_; refine Sb.c (Tk.t (Tk.t Tk.h)) ?_; refine Sb.c (Tk.t (Tk.t Tk.h)) ?_; refine Sb.c (Tk.t (Tk.t Tk.h)) ?_; refine Sb.c (Tk.t (Tk.t Tk.h)) ?_; refine Sb.c Tk.h ?_); (refine Sb.s ?_; exact Sb.r))
        · (refine GO.not rfl rfl ?_; refine GO.nil ?_; refine kthen_n ?_; refine G.condT rfl rfl ?_; refine G.seq ?_; refine G.region ?_; refine GO.store1 rfl rfl rfl (Tk.t (Tk.t (Tk.t (Tk.t (Tk.t (Tk.t Tk.h)))))) (by decide) ?_; refine GO.nil ?_; refine kthen_n ?_; refine G.ret ?_; refine kblock_r ?_)
          refine kB_r (ImpS.pur ⟨rfl, hnk⟩ (ImpS.sb ?_))
          ((refine Sb.c (Tk.t Tk.h) ?_; refine Sb.c (Tk.t (Tk.t (Tk.t Tk.h))) ?_; refine Sb.c (Tk.t (Tk.t (Tk.t Tk.h))) ?_; refine Sb.c (Tk.t (Tk.t (Tk.t Tk.h))) ?_; refine Sb.c Tk.h ?_; refine Sb.c Tk.h ?_); (refine Sb.s ?_; exact Sb.r))
      · rw [List.length_map, cellsL_one]
        change G _ _ _ _ _ (J (n + (rowL 0 w).length) :: pt b7 (row (plV X z) 106) :: pt b5 (row [i64 r] 3) :: pt b3 (row [.func fn #[] caps] 92) :: pt b4 (row [.bool false] 4) :: q :: pt bI (row (cells (updB zeroB 0 w)) 104) :: o :: F)
        (refine G.region ?_; refine GO.addi rfl rfl rfl (by omega) ?_; refine GO.move rfl rfl ?_; refine GO.nil ?_; refine kthen_n ?_)
        rw [List.length_map] at hnx hnl'
        refine ⟨m + 1, n + (rowL 0 w).length, ⟨by omega, z % 16 + 1, by omega, hup', by rw [hnx, hz1], hnl'⟩, by omega, ?_, ?_⟩
        · (refine SubE.c rfl rfl ?_; refine SubE.c rfl rfl ?_; refine SubE.c rfl rfl ?_; refine SubE.c rfl rfl ?_; refine SubE.c rfl rfl ?_; refine SubE.c rfl rfl ?_; refine SubE.c rfl rfl ?_; refine SubE.c rfl rfl ?_; exact SubE.n)
        · ((refine Sb.c (Tk.t (Tk.t Tk.h)) ?_; refine Sb.c (Tk.t (Tk.t Tk.h)) ?_; refine Sb.c (Tk.t (Tk.t Tk.h)) ?_; refine Sb.c Tk.h ?_; refine Sb.c (Tk.t Tk.h) ?_; refine Sb.c (Tk.t (Tk.t Tk.h)) ?_); (refine Sb.s ?_; refine Sb.s ?_; exact Sb.r))
      · intro k jc hk
        change G _ _ _ _ _ (pur (jc = .ret ∧ n + k < (cellsX X).length) :: S (n + k) :: pt b7 (row (plV X z) 106) :: pt b5 (row [i64 r] 3) :: pt b3 (row [.func fn #[] caps] 92) :: pt b4 (row [.bool false] 4) :: q :: pt bI (row (cells (updB zeroB 0 w)) 104) :: o :: F)
        refine G.pur fun h => ?_
        obtain ⟨rfl, hlt⟩ := h
        (refine G.ret ?_; refine kblock_r ?_; refine kblock_r ?_; refine kthen_r ?_; refine kthen_r ?_; refine kblock_r ?_; refine kblock_r ?_; refine kthen_r ?_; refine kthen_r ?_; refine kblock_r ?_; refine kthen_r ?_)
        refine KF2.r1 rfl (RV.c1 rfl rfl (by (exact (Tk.t (Tk.t (Tk.t (Tk.t Tk.h)))))) rfl) (.inr ⟨rfl, n + k, hlt, rfl⟩) (ImpS.sb ?_)
        ((refine Sb.c Tk.h ?_; refine Sb.c (Tk.t (Tk.t (Tk.t (Tk.t Tk.h)))) ?_; refine Sb.c (Tk.t (Tk.t (Tk.t (Tk.t (Tk.t Tk.h))))) ?_); (refine Sb.s ?_; refine Sb.s ?_; refine Sb.s ?_; refine Sb.s ?_; refine Sb.s ?_; exact Sb.r))
    · have hmg : g.length ≤ m := by omega
      have hd' := hd.trans (gap_row hg hi hr64 (Nat.le_refl 16) hj0 (fun y hy _ => hup.all hmg hy))
      rw [show 65536 * i + 1024 * r + 64 * 16 = 65536 * i + 1024 * (r + 1) by omega] at hd'
      (refine G.exit ?_; refine kthen_x ?_; refine kthen_x ?_; refine kblock_x ?_; refine kblock_n ?_; refine kthen_n ?_; refine G.region ?_; refine GO.addi rfl rfl rfl (by omega) ?_; refine GO.move rfl rfl ?_; refine GO.nil ?_; refine kthen_n ?_)
      refine ⟨r + 1, n, ⟨by omega, hd', hnl⟩, by omega, ?_, ?_⟩
      · (refine SubE.c rfl rfl ?_; refine SubE.c rfl rfl ?_; refine SubE.c rfl rfl ?_; refine SubE.c rfl rfl ?_; exact SubE.n)
      · ((refine Sb.c (Tk.t Tk.h) ?_; refine Sb.c (Tk.t Tk.h) ?_; refine Sb.c (Tk.t Tk.h) ?_; refine Sb.c (Tk.t Tk.h) ?_; refine Sb.c (Tk.t Tk.h) ?_); (refine Sb.s ?_; exact Sb.r))
  · obtain rfl : r = 64 := by omega
    (refine G.exit ?_; refine kthen_x ?_; refine kthen_x ?_; refine kblock_x ?_; refine kthen_n ?_; refine G.seq ?_; refine G.region ?_; refine GO.store1 rfl rfl rfl (Tk.t Tk.h) (by decide) ?_; refine GO.nil ?_; refine kthen_n ?_; refine G.ret ?_)
    refine KF2.r1 rfl (RV.c1 rfl rfl (by (exact Tk.h)) rfl) (.inl ⟨rfl, n, by rw [hd]; rfl, hnl, rfl⟩) (ImpS.sb ?_)
    ((refine Sb.c (Tk.t (Tk.t Tk.h)) ?_; refine Sb.c (Tk.t (Tk.t Tk.h)) ?_; refine Sb.c (Tk.t (Tk.t Tk.h)) ?_); (refine Sb.s ?_; refine Sb.s ?_; exact Sb.r))
end Go.Proofs.YtpfcgfgkmgnaaaaDoor
namespace Go.Proofs.YtpfcgfgkmgnaaaaDoor
open Go
theorem cellsX_pos {side : Nat} {X : Nat → Nat → Bool} (hs : side ≤ 1024) (hin : ∀ r c, X r c = true → r < side ∧ c < side) {r c : Nat} (h : X r c = true) : (r, c) ∈ cellsX X := by
  have := hin r c h
  unfold cellsX restX
  refine List.mem_map.2 ⟨1024 * r + c, List.mem_filter.2 ⟨List.mem_range'_1.2 ⟨by omega, by omega⟩, ?_⟩, ?_⟩
  · show X ((1024 * r + c) / 1024) ((1024 * r + c) % 1024) = true
    rw [show (1024 * r + c) / 1024 = r by omega, show (1024 * r + c) % 1024 = c by omega]
    exact h
  · show ((1024 * r + c) / 1024, (1024 * r + c) % 1024) = (r, c)
    rw [show (1024 * r + c) / 1024 = r by omega, show (1024 * r + c) % 1024 = c by omega]
theorem cellsX_true {X : Nat → Nat → Bool} {p : Nat × Nat} (h : p ∈ cellsX X) : X p.1 p.2 = true := by
  unfold cellsX restX at h
  obtain ⟨z, hz, rfl⟩ := List.mem_map.1 h
  exact (List.mem_filter.1 hz).2
theorem cellsX_some {X : Nat → Nat → Bool} {z : Nat} (hz : z ∈ posL X) : ∃ u, ((cellsX X).map celV)[0]? = some u := by
  have h0 : restX X 0 ≠ [] := fun h => by
    obtain ⟨hz1, hz2⟩ := posL_mem.1 hz
    obtain ⟨r, c, hr, hc, hx⟩ := hasB_iff.1 hz2
    have hm : (64 * (z / 16) + r, 64 * (z % 16) + c) ∈ restX X 0 := by
      unfold restX
      refine List.mem_map.2 ⟨1024 * (64 * (z / 16) + r) + (64 * (z % 16) + c), List.mem_filter.2 ⟨List.mem_range'_1.2 ⟨by omega, by omega⟩, ?_⟩, ?_⟩
      · show X ((1024 * (64 * (z / 16) + r) + (64 * (z % 16) + c)) / 1024) ((1024 * (64 * (z / 16) + r) + (64 * (z % 16) + c)) % 1024) = true
        rw [show (1024 * (64 * (z / 16) + r) + (64 * (z % 16) + c)) / 1024 = 64 * (z / 16) + r by omega, show (1024 * (64 * (z / 16) + r) + (64 * (z % 16) + c)) % 1024 = 64 * (z % 16) + c by omega]
        exact hx
      · show ((1024 * (64 * (z / 16) + r) + (64 * (z % 16) + c)) / 1024, (1024 * (64 * (z / 16) + r) + (64 * (z % 16) + c)) % 1024) = _
        rw [show (1024 * (64 * (z / 16) + r) + (64 * (z % 16) + c)) / 1024 = 64 * (z / 16) + r by omega, show (1024 * (64 * (z / 16) + r) + (64 * (z % 16) + c)) % 1024 = 64 * (z % 16) + c by omega]
    rw [h] at hm
    cases hm
  show ∃ u, ((restX X 0).map celV)[0]? = some u
  cases hl : restX X 0 with
  | nil => exact absurd hl h0
  | cons p l => exact ⟨celV p, rfl⟩
theorem plV_row (X : Nat → Nat → Bool) (z : Nat) : (plV X z)[0]? = some (i64 ((z / 16 : Nat) : Int)) := rfl
attribute [local irreducible] G GO GR GT Fn FnV pt init exs pur sat own ImpS mat posL allV orL restX cellsX
/-- Where the rows of blocks that have come end. -/
theorem rows_end {X : Nat → Nat → Bool} {f t z : Nat} {i0 : Nat} (hup : UpTo (posL X) f i0 (fun z => z / 16)) (hz : (posL X)[f]? = some z) (hft : f < t) (hin : ∀ k y, (posL X)[k]? = some y → f ≤ k → k < t → y / 16 = z / 16) (hout : ∀ y, (posL X)[t]? = some y → y / 16 ≠ z / 16) :
    (∀ k y, (posL X)[k]? = some y → ((f ≤ k ∧ k < t) ↔ y / 16 = z / 16)) ∧ UpTo (posL X) t (z / 16 + 1) (fun z => z / 16) := by
  have hge : i0 ≤ z / 16 := hup.ge hz
  have hlate : ∀ k y, (posL X)[k]? = some y → t ≤ k → z / 16 < y / 16 := fun k y hy htk => by
    obtain ⟨x, hx⟩ : ∃ x, (posL X)[t]? = some x := ⟨_, List.getElem?_eq_getElem (Nat.lt_of_le_of_lt htk (List.getElem?_eq_some_iff.1 hy).1)⟩
    have h1 := hout x hx
    have h2 : z / 16 ≤ x / 16 := posL_weak f t z x hft hz hx
    rcases Nat.lt_or_ge t k with h | h
    · have h3 : x / 16 ≤ y / 16 := posL_weak t k x y h hx hy
      omega
    · obtain rfl : t = k := by omega
      rw [hx] at hy; obtain rfl : x = y := by simpa using hy
      omega
  have hearly : ∀ k y, (posL X)[k]? = some y → k < f → y / 16 < z / 16 := fun k y hy hk => by
    have : y / 16 < i0 := (hup k y hy).1 hk
    omega
  constructor
  · intro k y hy
    constructor
    · rintro ⟨h1, h2⟩; exact hin k y hy h1 h2
    · intro e
      refine ⟨?_, ?_⟩
      · apply Classical.byContradiction; intro h; have := hearly k y hy (by omega); omega
      · apply Classical.byContradiction; intro h; have := hlate k y hy (by omega); omega
  · intro k y hy
    show k < t ↔ y / 16 < z / 16 + 1
    constructor
    · intro h
      rcases Nat.lt_or_ge k f with h' | h'
      · have := hearly k y hy h'; omega
      · have := hin k y hy h' h; omega
    · intro h
      apply Classical.byContradiction; intro hn
      have := hlate k y hy (by omega); omega
set_option maxHeartbeats 4000000 in
theorem cells1_spec (q : HP) (hq : Tab q) (X : Nat → Nat → Bool) (bx : Nat) (v y : Value) (J S : Nat → HP)
    (hy : ∀ n u, ((cellsX X).map celV)[n]? = some u → FnV Tryd.prog y u [J n, q] (fun v Q => (v = .bool true ∧ Q = [J (n + 1), q]) ∨ (v = .bool false ∧ Q = [S n, q]))) :
    Fn Tryd.prog 96 #[y, .pointer (some ⟨bx, 0, none⟩)] [J 0, q, bkM X bx v] (fun _ Q => Q = [J (cellsX X).length, q, bkM X bx v] ∨ ∃ n, n < (cellsX X).length ∧ Q = [S n, q, bkM X bx v]) := by
  have hpl : ¬ 256 < (posL X).length := by have := posL_len X; omega
  refine Fn.mk2 Tryd.func96 rfl rfl fun w0 F => ?_
  refine G.take (Tk.t (Tk.t Tk.h)) (G.flat ?_)
  (refine G.seq ?_; refine G.region ?_; refine GO.assign rfl rfl ?_; refine GO.nil ?_; refine kthen_n ?_; refine G.block ?_)
  refine G.loop2 (fun (f : Nat) (_ : Nat) => [(0, y), (1, .pointer (some ⟨bx, 0, none⟩)), (3, i64 f)])
    (fun _ n => pt bx (row [v] 101) :: own 106 66 (posL X).length v (allV X (posL X)) :: J n :: q :: F)
    (fun f n => f ≤ (posL X).length ∧ ∃ i0, i0 ≤ 16 ∧ UpTo (posL X) f i0 (fun z => z / 16) ∧ (cellsX X).drop n = restX X (65536 * i0) ∧ n ≤ (cellsX X).length) (fun f _ => (posL X).length - f) 0 0 ⟨by omega, 0, by omega, UpTo.nil (fun _ _ => Nat.zero_le _), by rw [List.drop_zero]; unfold cellsX; rfl, Nat.zero_le _⟩ ?_ ?_ ?_
  · (refine SubE.c rfl rfl ?_; refine SubE.c rfl rfl ?_; refine SubE.c rfl rfl ?_; exact SubE.n)
  · ((refine Sb.c Tk.h ?_; refine Sb.c Tk.h ?_; refine Sb.c Tk.h ?_; refine Sb.c Tk.h ?_); (exact Sb.r))
  rintro f n ⟨hf, i0, hi0, hup, hd, hn⟩
  (refine G.seq ?_; refine G.seq ?_; refine G.region ?_; refine GO.move rfl rfl ?_; refine GO.load1 rfl rfl rfl Tk.h rfl ?_; refine GO.lenOwn rfl rfl (Tk.t Tk.h) ?_; refine GO.lti rfl rfl rfl ?_; refine GO.nil ?_; refine kthen_n ?_)
  refine G.condD rfl (fun hlt => ?_) (fun hge => ?_)
  · have hlt' : f < (posL X).length := by omega
    obtain ⟨z, hz⟩ : ∃ z, (posL X)[f]? = some z := ⟨_, List.getElem?_eq_getElem hlt'⟩
    have hyf : ∃ fn caps, y = .func fn #[] caps := by
      obtain ⟨u, hu⟩ := cellsX_some (List.mem_of_getElem? hz)
      exact (hy 0 u hu).form
    refine G.ownForm (by omega) (Tk.t Tk.h) fun bl capl e2 hd1 hd2 hd3 => ?_
    subst e2
    have hz16 : z / 16 < 16 := by have := (posL_mem.1 (List.mem_of_getElem? hz)).1; omega
    have rd : ∀ k x, (posL X)[k]? = some x → Rd (own 106 66 (posL X).length (.slice (some ⟨bl, 0, none⟩) (posL X).length capl) (allV X (posL X))) ⟨bl, 0 + k * 66, none⟩ (i64 ((x / 16 : Nat) : Int)) := fun k x hx => by
      rw [Nat.zero_add]
      refine Rd.own ?_
      have := allV_get (X := X) (j := 0) hx (by decide)
      rw [Nat.add_zero] at this
      rw [this, plV_row]
    have rdf := rd f z hz
    (refine G.skip ?_; refine kthen_n ?_; refine G.block ?_; refine G.seq ?_; refine G.region ?_; refine GO.move rfl rfl ?_; refine GO.assign rfl rfl ?_; refine GO.nil ?_; refine kthen_n ?_; refine G.seq ?_; refine G.block ?_)
    refine G.loop (fun t : Nat => [(0, y), (1, .pointer (some ⟨bx, 0, none⟩)), (3, i64 f), (4, i64 t)])
      (fun _ => pt bx (row [.slice (some ⟨bl, 0, none⟩) (posL X).length capl] 101) :: own 106 66 (posL X).length (.slice (some ⟨bl, 0, none⟩) (posL X).length capl) (allV X (posL X)) :: J n :: q :: F)
      (fun t => f ≤ t ∧ t ≤ (posL X).length ∧ ∀ k x, (posL X)[k]? = some x → f ≤ k → k < t → x / 16 = z / 16) (fun t => (posL X).length - t) f ⟨by omega, by omega, fun k x _ h1 h2 => by omega⟩ ?_ ?_ ?_
    · (refine SubE.c rfl rfl ?_; refine SubE.c rfl rfl ?_; refine SubE.c rfl rfl ?_; refine SubE.c rfl rfl ?_; exact SubE.n)
    · ((refine Sb.c Tk.h ?_; refine Sb.c Tk.h ?_; refine Sb.c Tk.h ?_; refine Sb.c Tk.h ?_); (exact Sb.r))
    rintro t ⟨ht1, ht2, hin⟩
    (refine G.seq ?_; refine G.seq ?_)
    cases h4 : decide ((t : Int) < ((posL X).length : Int)) with
    | true =>
      have ht3 : t < (posL X).length := by have := of_decide_eq_true h4; omega
      obtain ⟨x, hx⟩ : ∃ x, (posL X)[t]? = some x := ⟨_, List.getElem?_eq_getElem ht3⟩
      have rdt := rd t x hx
      refine G.draw 19 (by kernel_rfl) ?_
      ((apply GQ.step; focus (intro Z; refine GO.move rfl rfl ?_; exact KQ.z)); (apply GQ.step; focus (intro Z; refine GO.load1 rfl rfl rfl Tk.h rfl ?_; exact KQ.z)); (apply GQ.step; focus (intro Z; refine GO.lenS rfl rfl ?_; exact KQ.z)); (apply GQ.step; focus (intro Z; refine GO.lti rfl rfl rfl ?_; exact KQ.z)); (apply GQ.step; focus (intro Z; refine GO.move rfl rfl ?_; exact KQ.z)); (apply GQ.step; focus (intro Z; refine GO.gT rfl rfl (by assumption) ?_; refine GO.load1 rfl rfl rfl Tk.h rfl ?_; exact KQ.z)); (apply GQ.step; focus (intro Z; refine GO.gT rfl rfl (by assumption) ?_; refine GO.move rfl rfl ?_; exact KQ.z)); (apply GQ.step; focus (intro Z; refine GO.gT rfl rfl (by assumption) ?_; refine GO.idxS rfl rfl rfl ⟨rfl, by omega⟩ ?_; exact KQ.z)); (apply GQ.step; focus (intro Z; refine GO.gT rfl rfl (by assumption) ?_; refine GO.fieldAddr rfl rfl ?_; exact KQ.z)); (apply GQ.step; focus (intro Z; refine GO.gT rfl rfl (by assumption) ?_; refine GO.fieldAddr rfl rfl ?_; exact KQ.z)); (apply GQ.step; focus (intro Z; refine GO.gT rfl rfl (by assumption) ?_; refine GO.loadQ rfl rfl rfl (Tk.t Tk.h) (by assumption) ?_; exact KQ.z)); (apply GQ.step; focus (intro Z; refine GO.gT rfl rfl (by assumption) ?_; refine GO.load1 rfl rfl rfl Tk.h rfl ?_; exact KQ.z)); (apply GQ.step; focus (intro Z; refine GO.gT rfl rfl (by assumption) ?_; refine GO.move rfl rfl ?_; exact KQ.z)); (apply GQ.step; focus (intro Z; refine GO.gT rfl rfl (by assumption) ?_; refine GO.idxS rfl rfl rfl ⟨rfl, by omega⟩ ?_; exact KQ.z)); (apply GQ.step; focus (intro Z; refine GO.gT rfl rfl (by assumption) ?_; refine GO.fieldAddr rfl rfl ?_; exact KQ.z)); (apply GQ.step; focus (intro Z; refine GO.gT rfl rfl (by assumption) ?_; refine GO.fieldAddr rfl rfl ?_; exact KQ.z)); (apply GQ.step; focus (intro Z; refine GO.gT rfl rfl (by assumption) ?_; refine GO.loadQ rfl rfl rfl (Tk.t Tk.h) (by assumption) ?_; exact KQ.z)); (apply GQ.step; focus (intro Z; refine GO.gT rfl rfl (by assumption) ?_; refine GO.eqi rfl rfl rfl ?_; exact KQ.z)); (apply GQ.step; focus (intro Z; refine GO.pickTa rfl rfl (by assumption) rfl ?_; exact KQ.z)); refine GQ.nil ?_)
      (refine GO.nil ?_; refine kthen_n ?_)
      refine G.condD rfl (fun hxe => ?_) (fun hxe => ?_)
      · have hxe' : x / 16 = z / 16 := by omega
        (refine G.skip ?_; refine kthen_n ?_; refine G.block ?_; refine G.region ?_; refine GO.move rfl rfl ?_; refine GO.addi rfl rfl rfl (by omega) ?_; refine GO.assign rfl rfl ?_; refine GO.nil ?_; refine kblock_n ?_; refine kthen_n ?_)
        refine ⟨t + 1, ⟨by omega, by omega, fun k u hu h1 h2 => ?_⟩, by omega, ?_, ?_⟩
        · rcases Nat.lt_or_ge k t with h | h
          · exact hin k u hu h1 h
          · obtain rfl : k = t := by omega
            rw [hx] at hu; obtain rfl : x = u := by simpa using hu
            exact hxe'
        · (refine SubE.c rfl rfl ?_; refine SubE.c rfl rfl ?_; refine SubE.c rfl rfl ?_; refine SubE.c rfl rfl ?_; exact SubE.n)
        · ((refine Sb.c Tk.h ?_; refine Sb.c Tk.h ?_; refine Sb.c Tk.h ?_; refine Sb.c Tk.h ?_); (exact Sb.r))
      · have hxe' : ¬ x / 16 = z / 16 := by omega
        have hft : f < t := by
          rcases Nat.lt_or_ge f t with h | h
          · exact h
          · obtain rfl : f = t := by omega
            rw [hz] at hx; obtain rfl : z = x := by simpa using hx
            exact absurd rfl hxe'
        have hout : ∀ y, (posL X)[t]? = some y → y / 16 ≠ z / 16 := fun u hu => by
          rw [hx] at hu; obtain rfl : x = u := by simpa using hu
          exact hxe'
        (refine G.exit ?_; refine kthen_x ?_; refine kthen_x ?_; refine kblock_x ?_; refine kthen_n ?_; refine G.seq ?_; refine G.seq ?_; refine G.region ?_; refine GO.load1 rfl rfl rfl Tk.h rfl ?_; refine GO.move rfl rfl ?_; refine GO.move rfl rfl ?_)
        obtain ⟨hend, hup'⟩ := rows_end hup hz hft hin hout
        have hgl := grp_len (X := X) (f := f) ht2
        have hgo := grp_ok (X := X) ht2 hend
        have hd' := hd.trans (gap_rows (Nat.le_of_lt hz16) (hup.ge hz) (fun y hy h => hup.gapW posL_weak hz hy h))
        have hsl : Sl (own 106 66 (posL X).length (.slice (some ⟨bl, 0, none⟩) (posL X).length capl) (allV X (posL X))) (.slice (some ⟨bl, 0 + f * 66, none⟩) (t - f) (capl - f)) (grp X f t).length 66 (allV X (grp X f t)) := ⟨_, _, by rw [hgl], allV_len X _, fun _ => ⟨bl, 0 + f * 66, rfl, fun j u hj => by rw [Nat.zero_add]; exact Rd.own (allV_grp hj)⟩⟩
        refine GO.sliceLH (l := f) (h := t) rfl rfl rfl rfl ⟨rfl, rfl, hft, by omega⟩ ?_
        (refine GO.move rfl rfl ?_)
        refine GO.call2 rfl rfl rfl (gcells_spec q (own 106 66 (posL X).length (.slice (some ⟨bl, 0, none⟩) (posL X).length capl) (allV X (posL X))) hq X (z / 16) hz16 (grp X f t) hgo (by rw [hgl]; omega) (.slice (some ⟨bl, 0 + f * 66, none⟩) (t - f) (capl - f)) y hyf hsl J S hy n hd' hn) (Tks.c (Tk.t (Tk.t Tk.h)) (Tks.c (Tk.t (Tk.t Tk.h)) (Tks.c (Tk.t Tk.h) Tks.n))) ?_
        rintro _ _ (⟨rfl, n', hn', hn2, rfl⟩ | ⟨rfl, n', hn', rfl⟩)
        · (refine GO.not rfl rfl ?_; refine GO.nil ?_; refine kthen_n ?_; refine G.condF rfl rfl ?_; refine G.skip ?_; refine kthen_n ?_; refine G.region ?_; refine GO.move rfl rfl ?_; refine GO.assign rfl rfl ?_; refine GO.nil ?_; refine kblock_n ?_; refine kthen_n ?_)
          refine ⟨t, n', ⟨ht2, z / 16 + 1, by omega, hup', hn', hn2⟩, by omega, ?_, ?_⟩
          · (refine SubE.c rfl rfl ?_; refine SubE.c rfl rfl ?_; refine SubE.c rfl rfl ?_; exact SubE.n)
          · ((refine Sb.c (Tk.t (Tk.t (Tk.t Tk.h))) ?_; refine Sb.c (Tk.t (Tk.t Tk.h)) ?_; refine Sb.c Tk.h ?_; refine Sb.c Tk.h ?_); (exact Sb.r))
        · (refine GO.not rfl rfl ?_; refine GO.nil ?_; refine kthen_n ?_; refine G.condT rfl rfl ?_; refine G.ret ?_; refine kthen_r ?_; refine kblock_r ?_; refine kthen_r ?_; refine kblock_r ?_)
          refine KF2.r0 rfl (.inr ⟨n', hn', rfl⟩) ?_
          exact ImpS.cons Tk.h (ImpS.cons Tk.h (ImpS.flat (k := [pt bx (row [.slice (some ⟨bl, 0, none⟩) (posL X).length capl] 101), own 106 66 (posL X).length (.slice (some ⟨bl, 0, none⟩) (posL X).length capl) (allV X (posL X))]) (M := F) (ImpS.sb (by ((refine Sb.c (Tk.t Tk.h) ?_; refine Sb.c Tk.h ?_); (exact Sb.r))))))
    | false =>
      have ht3 : ¬ t < (posL X).length := by have := of_decide_eq_false h4; omega
      have hft : f < t := by omega
      have hout : ∀ y, (posL X)[t]? = some y → y / 16 ≠ z / 16 := fun u hu => absurd (List.getElem?_eq_some_iff.1 hu).1 ht3
      refine G.draw 19 (by kernel_rfl) ?_
      ((apply GQ.step; focus (intro Z; refine GO.move rfl rfl ?_; exact KQ.z)); (apply GQ.step; focus (intro Z; refine GO.load1 rfl rfl rfl Tk.h rfl ?_; exact KQ.z)); (apply GQ.step; focus (intro Z; refine GO.lenS rfl rfl ?_; exact KQ.z)); (apply GQ.step; focus (intro Z; refine GO.lti rfl rfl rfl ?_; exact KQ.z)); (apply GQ.step; focus (intro Z; refine GO.move rfl rfl ?_; exact KQ.z)); (apply GQ.step; focus (intro Z; refine GO.gF rfl rfl rfl (by assumption) ?_; exact KQ.z)); (apply GQ.step; focus (intro Z; refine GO.gF rfl rfl rfl (by assumption) ?_; exact KQ.z)); (apply GQ.step; focus (intro Z; refine GO.gF rfl rfl rfl (by assumption) ?_; exact KQ.z)); (apply GQ.step; focus (intro Z; refine GO.gF rfl rfl rfl (by assumption) ?_; exact KQ.z)); (apply GQ.step; focus (intro Z; refine GO.gF rfl rfl rfl (by assumption) ?_; exact KQ.z)); (apply GQ.step; focus (intro Z; refine GO.gF rfl rfl rfl (by assumption) ?_; exact KQ.z)); (apply GQ.step; focus (intro Z; refine GO.gF rfl rfl rfl (by assumption) ?_; exact KQ.z)); (apply GQ.step; focus (intro Z; refine GO.gF rfl rfl rfl (by assumption) ?_; exact KQ.z)); (apply GQ.step; focus (intro Z; refine GO.gF rfl rfl rfl (by assumption) ?_; exact KQ.z)); (apply GQ.step; focus (intro Z; refine GO.gF rfl rfl rfl (by assumption) ?_; exact KQ.z)); (apply GQ.step; focus (intro Z; refine GO.gF rfl rfl rfl (by assumption) ?_; exact KQ.z)); (apply GQ.step; focus (intro Z; refine GO.gF rfl rfl rfl (by assumption) ?_; exact KQ.z)); (apply GQ.step; focus (intro Z; refine GO.gF rfl rfl rfl (by assumption) ?_; exact KQ.z)); (apply GQ.step; focus (intro Z; refine GO.pickFa rfl rfl (by assumption) rfl ?_; exact KQ.z)); refine GQ.nil ?_)
      (refine GO.nil ?_; refine kthen_n ?_; refine G.condF rfl rfl ?_; refine G.exit ?_; refine kthen_x ?_; refine kthen_x ?_; refine kblock_x ?_; refine kthen_n ?_; refine G.seq ?_; refine G.seq ?_; refine G.region ?_; refine GO.load1 rfl rfl rfl Tk.h rfl ?_; refine GO.move rfl rfl ?_; refine GO.move rfl rfl ?_)
      obtain ⟨hend, hup'⟩ := rows_end hup hz hft hin hout
      have hgl := grp_len (X := X) (f := f) ht2
      have hgo := grp_ok (X := X) ht2 hend
      have hd' := hd.trans (gap_rows (Nat.le_of_lt hz16) (hup.ge hz) (fun y hy h => hup.gapW posL_weak hz hy h))
      have hsl : Sl (own 106 66 (posL X).length (.slice (some ⟨bl, 0, none⟩) (posL X).length capl) (allV X (posL X))) (.slice (some ⟨bl, 0 + f * 66, none⟩) (t - f) (capl - f)) (grp X f t).length 66 (allV X (grp X f t)) := ⟨_, _, by rw [hgl], allV_len X _, fun _ => ⟨bl, 0 + f * 66, rfl, fun j u hj => by rw [Nat.zero_add]; exact Rd.own (allV_grp hj)⟩⟩
      refine GO.sliceLH (l := f) (h := t) rfl rfl rfl rfl ⟨rfl, rfl, hft, by omega⟩ ?_
      (refine GO.move rfl rfl ?_)
      refine GO.call2 rfl rfl rfl (gcells_spec q (own 106 66 (posL X).length (.slice (some ⟨bl, 0, none⟩) (posL X).length capl) (allV X (posL X))) hq X (z / 16) hz16 (grp X f t) hgo (by rw [hgl]; omega) (.slice (some ⟨bl, 0 + f * 66, none⟩) (t - f) (capl - f)) y hyf hsl J S hy n hd' hn) (Tks.c (Tk.t (Tk.t Tk.h)) (Tks.c (Tk.t (Tk.t Tk.h)) (Tks.c (Tk.t Tk.h) Tks.n))) ?_
      rintro _ _ (⟨rfl, n', hn', hn2, rfl⟩ | ⟨rfl, n', hn', rfl⟩)
      · (refine GO.not rfl rfl ?_; refine GO.nil ?_; refine kthen_n ?_; refine G.condF rfl rfl ?_; refine G.skip ?_; refine kthen_n ?_; refine G.region ?_; refine GO.move rfl rfl ?_; refine GO.assign rfl rfl ?_; refine GO.nil ?_; refine kblock_n ?_; refine kthen_n ?_)
        refine ⟨t, n', ⟨ht2, z / 16 + 1, by omega, hup', hn', hn2⟩, by omega, ?_, ?_⟩
        · (refine SubE.c rfl rfl ?_; refine SubE.c rfl rfl ?_; refine SubE.c rfl rfl ?_; exact SubE.n)
        · ((refine Sb.c (Tk.t (Tk.t (Tk.t Tk.h))) ?_; refine Sb.c (Tk.t (Tk.t Tk.h)) ?_; refine Sb.c Tk.h ?_; refine Sb.c Tk.h ?_); (exact Sb.r))
      · (refine GO.not rfl rfl ?_; refine GO.nil ?_; refine kthen_n ?_; refine G.condT rfl rfl ?_; refine G.ret ?_; refine kthen_r ?_; refine kblock_r ?_; refine kthen_r ?_; refine kblock_r ?_)
        refine KF2.r0 rfl (.inr ⟨n', hn', rfl⟩) ?_
        exact ImpS.cons Tk.h (ImpS.cons Tk.h (ImpS.flat (k := [pt bx (row [.slice (some ⟨bl, 0, none⟩) (posL X).length capl] 101), own 106 66 (posL X).length (.slice (some ⟨bl, 0, none⟩) (posL X).length capl) (allV X (posL X))]) (M := F) (ImpS.sb (by ((refine Sb.c (Tk.t Tk.h) ?_; refine Sb.c Tk.h ?_); (exact Sb.r))))))
  · have hfl : (posL X).length ≤ f := by omega
    have hdz : (cellsX X).drop n = [] := by
      rw [hd, gap_rows (Nat.le_refl 16) hi0 (fun y hy _ => hup.all hfl hy)]
      exact restX_end X
    have hnl : n = (cellsX X).length := by
      have := congrArg List.length hdz
      rw [List.length_drop, List.length_nil] at this
      omega
    subst hnl
    (refine G.exit ?_; refine kthen_x ?_; refine kthen_x ?_; refine kblock_x ?_)
    refine KF2.n0 rfl (.inl rfl) ?_
    exact ImpS.cons (Tk.t (Tk.t Tk.h)) (ImpS.cons (Tk.t (Tk.t Tk.h)) (ImpS.flat (k := [pt bx (row [v] 101), own 106 66 (posL X).length v (allV X (posL X))]) (M := F) ImpS.refl))
end Go.Proofs.YtpfcgfgkmgnaaaaDoor
namespace Go.Proofs.YtpfcgfgkmgnaaaaDoor
open Go
attribute [local irreducible] G GO GR GT Fn FnV pt init exs pur sat own ImpS mat posL allV orL restX cellsX
theorem mcells_seq (q : HP) (hq : Tab q) (X : Nat → Nat → Bool) (bx : Nat) (v : Value) : SeqOK Tryd.prog (.func (.func 96) #[] #[.pointer (some ⟨bx, 0, none⟩)]) ((cellsX X).map celV) [q] [bkM X bx v] :=
  SeqOK.of1 (caps := #[.pointer (some ⟨bx, 0, none⟩)]) fun y J S hy => by rw [List.length_map]; exact cells1_spec q hq X bx v y J S hy
theorem mcells_mat (side b : Nat) (X : Nat → Nat → Bool) : Fn Tryd.prog 65 #[.pointer (some ⟨b, 0, none⟩)] [mat side X b] (fun r Q => ∃ b3 v, r = .func (.func 96) #[] #[.pointer (some ⟨b3, 0, none⟩)] ∧ Q = [bkM X b3 v, mat side X b]) := by
  refine Fn.mk2 Tryd.func65 rfl rfl fun w0 F => ?_
  (refine G.seq ?_; refine G.region ?_; refine GO.assign rfl rfl ?_; refine GO.nil ?_; refine kthen_n ?_; refine G.seq ?_; refine G.region ?_; refine GO.move rfl rfl ?_)
  refine GO.call1 rfl rfl (all_mat side b X) (Tks.c Tk.h Tks.n) ?_
  rintro v5 _ rfl
  refine GO.ownOne Tk.h fun hone => ?_
  (refine GO.alloc rfl fun b3 => ?_; refine GO.store1 rfl rfl (by assumption) Tk.h (by decide) ?_; refine GO.nil ?_; refine kthen_n ?_; refine G.seq ?_; refine G.region ?_; refine GO.makeFunc1 rfl rfl ?_; refine GO.assign rfl rfl ?_; refine GO.nil ?_; refine kthen_n ?_; refine G.ret ?_)
  refine KF2.r1 rfl (RV.t rfl) ⟨_, v5, rfl, rfl⟩ ?_
  refine ImpS.trans (ImpS.sb (M := pt b3 (row [v5] 101) :: own 106 66 (posL X).length v5 (allV X (posL X)) :: mat side X b :: F) ?_) ?_
  · ((refine Sb.c Tk.h ?_; refine Sb.c Tk.h ?_; refine Sb.c Tk.h ?_); (exact Sb.r))
  · exact ImpS.flat (k := [pt b3 (row [v5] 101), own 106 66 (posL X).length v5 (allV X (posL X))]) (M := mat side X b :: F) ImpS.refl
end Go.Proofs.YtpfcgfgkmgnaaaaDoor
namespace Go.Proofs.YtpfcgfgkmgnaaaaDoor
open Go
theorem less_bit (b : Blk) (X : Nat → Nat → Bool) (i j r c : Nat) (hc : c < 64) : (lessB b (blkAt X i j) r).getLsbD c = ((b r).getLsbD c && !X (64 * i + r) (64 * j + c)) := by
  unfold lessB
  rw [BitVec.getLsbD_and, BitVec.getLsbD_not, blkAt_bit _ _ _ _ _ hc]
  simp [hc]
attribute [local irreducible] G GO GR GT Fn FnV pt init exs pur sat own ImpS mat posL allV orL cntX
end Go.Proofs.YtpfcgfgkmgnaaaaDoor
namespace Go.Proofs.YtpfcgfgkmgnaaaaDoor
open Go
/-- One's cells and the other's. -/
def uniX (X Y : Nat → Nat → Bool) : Nat → Nat → Bool := fun r c => X r c || Y r c
attribute [local irreducible] G GO GR GT Fn FnV pt init exs pur sat own ImpS mat posL allV orL orX cntX
end Go.Proofs.YtpfcgfgkmgnaaaaDoor
namespace Go.Proofs.YtpfcgfgkmgnaaaaDoor
open Go
theorem getM_at {X : Nat → Nat → Bool} {side r c : Nat} (hr : r < side) (hc : c < side) : getM X side r c = .tuple #[.bool (X r c), i64 0] := by
  unfold getM
  rw [inM_nat hr hc, if_pos rfl]
  rfl
attribute [local irreducible] G GO GR GT Fn FnV pt init exs pur sat own ImpS mat posL allV orL cntX restX cellsX
end Go.Proofs.YtpfcgfgkmgnaaaaDoor
namespace Go.Proofs.YtpfcgfgkmgnaaaaDoor
open Go
theorem sumTo_zero {f : Nat → Nat} (h : ∀ i, f i = 0) : ∀ n, sumTo f n = 0
  | 0 => rfl
  | n + 1 => by simp only [sumTo]; rw [sumTo_zero h n, h n]
theorem sumTo_add (f g : Nat → Nat) : ∀ n, sumTo (fun i => f i + g i) n = sumTo f n + sumTo g n
  | 0 => rfl
  | n + 1 => by simp only [sumTo]; rw [sumTo_add f g n]; omega
theorem cnt_sub {Y Z : Nat → Nat → Bool} (h : ∀ r c, Y r c = true → Z r c = true) : cntX (diffX Z Y) + cntX Y = cntX Z := by
  have hb : ∀ i j, lenB (blkAt Z i j) 64 = lenB (blkAt (diffX Z Y) i j) 64 + lenB (blkAt Y i j) 64 := fun i j => by
    have e1 : lenB (blkAt Z i j) 64 = lenB (orB (blkAt Y i j) (blkAt Z i j)) 64 := lenB_congr fun r hr => eq_of_bits fun c hc => by
      unfold orB
      rw [BitVec.getLsbD_or, blkAt_bit _ _ _ _ _ hc, blkAt_bit _ _ _ _ _ hc]
      cases hy : Y (64 * i + r) (64 * j + c) with
      | true => rw [h _ _ hy]; rfl
      | false => rfl
    have e2 : lenB (lessB (blkAt Z i j) (blkAt Y i j)) 64 = lenB (blkAt (diffX Z Y) i j) 64 := lenB_congr fun r hr => eq_of_bits fun c hc => by
      rw [less_bit _ _ _ _ _ _ hc, blkAt_bit _ _ _ _ _ hc, blkAt_bit _ _ _ _ _ hc]
      rfl
    rw [e1, lenB_or, e2, Nat.add_comm]
  unfold cntX
  rw [← sumTo_add]
  refine sumTo_congr fun i _ => ?_
  rw [← sumTo_add]
  exact sumTo_congr fun j _ => (hb i j).symm
theorem lenB_max (B : Blk) : ∀ n, lenB B n ≤ n * 64
  | 0 => Nat.zero_le _
  | n + 1 => by
    have h1 := lenB_max B n
    have h2 : ∀ (x : BitVec 64) m, cnt x m ≤ m := fun x m => by
      induction m with
      | zero => exact Nat.le_refl _
      | succ m ih => simp only [cnt]; cases x.getLsbD m <;> simp <;> omega
    have h3 := h2 (B n) 64
    simp only [lenB]
    rw [ones_cnt]
    omega
theorem cnt_max (X : Nat → Nat → Bool) : ¬ 1048576 < cntX X := by
  have h := sumTo_le (f := fun i => sumTo (fun j => lenB (blkAt X i j) 64) 16) (m := 65536) (fun i => by
    have := sumTo_le (f := fun j => lenB (blkAt X i j) 64) (m := 4096) (fun j => lenB_max _ 64) 16
    omega) 16
  unfold cntX
  omega
attribute [local irreducible] G GO GR GT Fn FnV pt init exs pur sat own ImpS mat posL allV orL cntX restX cellsX uniX diffX
end Go.Proofs.YtpfcgfgkmgnaaaaDoor
namespace Go.Proofs.YtpfcgfgkmgnaaaaDoor
open Go
theorem telescope {f g : Nat → Nat} : ∀ {n : Nat}, (∀ j, j < n → g j = f j + g (j + 1)) → g 0 = sumTo f n + g n
  | 0, _ => by simp [sumTo]
  | n + 1, h => by
    have h1 := telescope (n := n) (fun j hj => h j (by omega))
    have h2 := h n (by omega)
    simp only [sumTo]
    omega
theorem sumTo_swap (f : Nat → Nat → Nat) (m : Nat) : ∀ n, sumTo (fun i => sumTo (fun j => f i j) m) n = sumTo (fun j => sumTo (fun i => f i j) n) m
  | 0 => (sumTo_zero (fun _ => rfl) m).symm
  | n + 1 => by
    simp only [sumTo]
    rw [sumTo_swap f m n, sumTo_add]
theorem lenB_sum (B : Blk) : ∀ n, lenB B n = sumTo (fun r => cnt (B r) 64) n
  | 0 => rfl
  | n + 1 => by simp only [lenB, sumTo]; rw [lenB_sum B n, ones_cnt]
attribute [local irreducible] sumTo restX
theorem cellsX_len (X : Nat → Nat → Bool) : (cellsX X).length = cntX X := by
  have h1 : ∀ i r, i < 16 → r < 64 → (restX X (65536 * i + 1024 * r)).length = sumTo (fun j => cnt (blkAt X i j r) 64) 16 + (restX X (65536 * i + 1024 * (r + 1))).length := fun i r hi hr => by
    have h : (restX X (65536 * i + 1024 * r + 64 * 0)).length = sumTo (fun j => cnt (blkAt X i j r) 64) 16 + (restX X (65536 * i + 1024 * r + 64 * 16)).length := telescope (f := fun j => cnt (blkAt X i j r) 64) (g := fun j => (restX X (65536 * i + 1024 * r + 64 * j)).length) (n := 16) (fun j hj => by
      show (restX X (65536 * i + 1024 * r + 64 * j)).length = _
      rw [restX_row X hi hr hj, List.length_append, List.length_map, rowL_len])
    rw [show 65536 * i + 1024 * r + 64 * 0 = 65536 * i + 1024 * r by omega, show 65536 * i + 1024 * r + 64 * 16 = 65536 * i + 1024 * (r + 1) by omega] at h
    exact h
  have h2 : ∀ i, i < 16 → (restX X (65536 * i)).length = sumTo (fun j => lenB (blkAt X i j) 64) 16 + (restX X (65536 * (i + 1))).length := fun i hi => by
    have h : (restX X (65536 * i + 1024 * 0)).length = sumTo (fun r => sumTo (fun j => cnt (blkAt X i j r) 64) 16) 64 + (restX X (65536 * i + 1024 * 64)).length := telescope (f := fun r => sumTo (fun j => cnt (blkAt X i j r) 64) 16) (g := fun r => (restX X (65536 * i + 1024 * r)).length) (n := 64) (fun r hr => h1 i r hi hr)
    have e : sumTo (fun j => lenB (blkAt X i j) 64) 16 = sumTo (fun j => sumTo (fun r => cnt (blkAt X i j r) 64) 64) 16 := sumTo_congr fun j _ => lenB_sum _ _
    rw [sumTo_swap, ← e, show 65536 * i + 1024 * 0 = 65536 * i by omega, show 65536 * i + 1024 * 64 = 65536 * (i + 1) by omega] at h
    exact h
  have h3 : (restX X (65536 * 0)).length = sumTo (fun i => sumTo (fun j => lenB (blkAt X i j) 64) 16) 16 + (restX X (65536 * 16)).length := telescope (f := fun i => sumTo (fun j => lenB (blkAt X i j) 64) 16) (g := fun i => (restX X (65536 * i)).length) (n := 16) h2
  have e0 : (restX X (65536 * 16)).length = 0 := by rw [show 65536 * 16 = 1048576 by omega, restX_end, List.length_nil]
  rw [e0, Nat.mul_zero, Nat.add_zero] at h3
  have e1 : cntX X = sumTo (fun i => sumTo (fun j => lenB (blkAt X i j) 64) 16) 16 := by unfold cntX; rfl
  have e2 : cellsX X = restX X 0 := by unfold cellsX; rfl
  rw [e1, e2]
  exact h3
attribute [local semireducible] sumTo restX
/-- A row's cells. -/
def rowX (X : Nat → Nat → Bool) (i : Nat) : List Nat := (List.range 1024).filter fun c => X i c
theorem restX_line (X : Nat → Nat → Bool) {i : Nat} (hi : i < 1024) : restX X (1024 * i) = ((rowX X i).map fun c => (i, c)) ++ restX X (1024 * (i + 1)) := by
  rw [restX_cut X (K' := 1024 * (i + 1)) (by omega) (by omega), show 1024 * (i + 1) - 1024 * i = 1024 by omega]
  refine congrArg (fun l => l ++ restX X (1024 * (i + 1))) ?_
  unfold rowX
  rw [List.range'_eq_map_range, List.filter_map, List.map_map]
  have hm : ∀ c, c < 1024 → (1024 * i + c) / 1024 = i ∧ (1024 * i + c) % 1024 = c := fun c hc => by omega
  rw [List.filter_congr (q := fun c => X i c) (fun c hc => ?_)]
  · refine List.map_congr_left fun c hc => ?_
    have hc' := hm c (by have := (List.mem_filter.1 hc).1; simpa using this)
    show (_, _) = (_, _)
    rw [hc'.1, hc'.2]
  · have hc' : c < 1024 := by simpa using hc
    show X _ _ = _
    rw [(hm c hc').1, (hm c hc').2]
def lines (X : Nat → Nat → Bool) (i : Nat) : List (Nat × Nat) := (List.range i).flatMap fun r => (rowX X r).map fun c => (r, c)
theorem lines_succ (X : Nat → Nat → Bool) (i : Nat) : lines X (i + 1) = lines X i ++ (rowX X i).map fun c => (i, c) := by
  unfold lines; rw [List.range_succ, List.flatMap_append]; simp
theorem lines_rest (X : Nat → Nat → Bool) : ∀ {i : Nat}, i ≤ 1024 → cellsX X = lines X i ++ restX X (1024 * i)
  | 0, _ => rfl
  | i + 1, h => by rw [lines_rest X (i := i) (by omega), restX_line X (by omega), lines_succ, List.append_assoc]
theorem lines_all {side : Nat} {X : Nat → Nat → Bool} (hs : side ≤ 1024) (hin : ∀ r c, X r c = true → r < side ∧ c < side) : lines X side = cellsX X := by
  rw [lines_rest X hs, restX_skip (K' := 1048576) (by omega) (Nat.le_refl _) (fun z h1 h2 => ?_), restX_end, List.append_nil]
  cases hx : X (z / 1024) (z % 1024) with
  | false => rfl
  | true => have := hin _ _ hx; omega
/-! ## A row, block by block -/
def rowTo (X : Nat → Nat → Bool) (i n : Nat) : List Nat := (List.range n).filter fun c => X i c
theorem rowTo_end {side : Nat} {X : Nat → Nat → Bool} (hin : ∀ r c, X r c = true → r < side ∧ c < side) {i n : Nat} (h1 : side ≤ n) (h2 : n ≤ 1024) : rowTo X i n = rowX X i := by
  unfold rowTo rowX
  have e : List.range 1024 = List.range n ++ (List.range (1024 - n)).map (n + ·) := by rw [← List.range_add]; congr 1; omega
  rw [e, List.filter_append, (List.filter_eq_nil_iff (l := (List.range (1024 - n)).map (n + ·))).2, List.append_nil]
  intro c hc
  obtain ⟨d, hd, rfl⟩ := List.mem_map.1 hc
  cases hx : X i (n + d) with
  | false => simp
  | true => have := hin _ _ hx; omega
theorem rowTo_len (X : Nat → Nat → Bool) (i n : Nat) : (rowTo X i n).length ≤ n := by
  have := List.length_filter_le (fun c => X i c) (List.range n)
  rw [List.length_range] at this
  exact this
end Go.Proofs.YtpfcgfgkmgnaaaaDoor
namespace Go.Proofs.YtpfcgfgkmgnaaaaDoor
open Go
/-- Numbers as cells. -/
def natsV (l : List Nat) : List Value := l.map fun c => i64 (c : Nat)
theorem natsV_one (l : List Nat) (c : Nat) : natsV l ++ [i64 (c : Nat)] = natsV (l ++ [c]) := by simp [natsV]
theorem natsV_get {l : List Nat} {k c : Nat} (h : l[k]? = some c) : (natsV l)[k]? = some (i64 (c : Nat)) := by simp [natsV, h]
attribute [local irreducible] G GO GR GT Fn FnV pt init exs pur sat own ImpS mat posL allV orL restX cellsX natsV rowTo rowX
end Go.Proofs.YtpfcgfgkmgnaaaaDoor
namespace Go.Proofs.YtpfcgfgkmgnaaaaDoor
open Go
abbrev Cl := Int × Int
def ltC (p q : Cl) : Bool := decide (p.1 < q.1) || (decide (p.1 = q.1) && decide (p.2 < q.2))
def mrg : List Cl → List Cl → List Cl
  | [], ys => ys
  | xs, [] => xs
  | a :: xs, b :: ys => if ltC a b then a :: mrg xs (b :: ys) else if a = b then b :: mrg xs ys else b :: mrg (a :: xs) ys
termination_by xs ys => xs.length + ys.length
/-- Has the second one a cell that the first has not? -/
def mrgM : List Cl → List Cl → Bool
  | [], ys => !ys.isEmpty
  | _, [] => false
  | a :: xs, b :: ys => if ltC a b then mrgM xs (b :: ys) else if a = b then mrgM xs ys else true
termination_by xs ys => xs.length + ys.length
theorem mrg_nil (xs : List Cl) : mrg xs [] = xs := by cases xs <;> simp [mrg]
theorem mrg_nil' (ys : List Cl) : mrg [] ys = ys := by simp [mrg]
theorem mrgM_nil (xs : List Cl) : mrgM xs [] = false := by cases xs <;> simp [mrgM]
theorem mrgM_nil' (b : Cl) (ys : List Cl) : mrgM [] (b :: ys) = true := by simp [mrgM]
theorem mrg_lt {a b : Cl} {xs ys : List Cl} (h : ltC a b = true) : mrg (a :: xs) (b :: ys) = a :: mrg xs (b :: ys) := by rw [mrg, if_pos h]
theorem mrg_eq {a b : Cl} {xs ys : List Cl} (h : ltC a b = false) (e : a = b) : mrg (a :: xs) (b :: ys) = b :: mrg xs ys := by rw [mrg, if_neg (by simp [h]), if_pos e]
theorem mrg_gt {a b : Cl} {xs ys : List Cl} (h : ltC a b = false) (e : a ≠ b) : mrg (a :: xs) (b :: ys) = b :: mrg (a :: xs) ys := by rw [mrg, if_neg (by simp [h]), if_neg e]
theorem mrgM_lt {a b : Cl} {xs ys : List Cl} (h : ltC a b = true) : mrgM (a :: xs) (b :: ys) = mrgM xs (b :: ys) := by rw [mrgM, if_pos h]
theorem mrgM_eq {a b : Cl} {xs ys : List Cl} (h : ltC a b = false) (e : a = b) : mrgM (a :: xs) (b :: ys) = mrgM xs ys := by rw [mrgM, if_neg (by simp [h]), if_pos e]
theorem mrgM_gt {a b : Cl} {xs ys : List Cl} (h : ltC a b = false) (e : a ≠ b) : mrgM (a :: xs) (b :: ys) = true := by rw [mrgM, if_neg (by simp [h]), if_neg e]
theorem drop_at {α : Type} {l : List α} {k : Nat} {x : α} (h : l[k]? = some x) : l.drop k = x :: l.drop (k + 1) := by
  obtain ⟨hk, rfl⟩ := List.getElem?_eq_some_iff.1 h
  exact List.drop_eq_getElem_cons hk
theorem cellsV_snoc (l : List Cl) (p : Cl) : cellsV l ++ [i64 p.1, i64 p.2] = cellsV (l ++ [p]) := by simp [cellsV]
attribute [local irreducible] G GO GR GT GQ Fn FnV pt init exs pur sat own ImpS
theorem before_spec (p r : Cl) : Fn Tryd.prog 103 #[.agg #[i64 p.1, i64 p.2], .agg #[i64 r.1, i64 r.2]] [] (fun v Q => v = .bool (ltC p r) ∧ Q = []) := by
  obtain ⟨a, b⟩ := p
  obtain ⟨c, d⟩ := r
  refine Fn.mk2 Tryd.func103 rfl rfl fun w0 F => ?_
  unfold ltC
  dsimp only
  cases h1 : decide (a < c) with
  | true =>
    (refine G.seq ?_; refine G.region ?_; refine GO.box rfl rfl rfl fun b2 => ?_; refine GO.box rfl rfl rfl fun b3 => ?_; refine GO.assign rfl rfl ?_; refine GO.nil ?_; refine kthen_n ?_; refine G.seq ?_; refine G.region ?_; refine GO.fieldAddr rfl rfl ?_; refine GO.load1 rfl rfl rfl (Tk.t Tk.h) rfl ?_; refine GO.fieldAddr rfl rfl ?_; refine GO.load1 rfl rfl rfl Tk.h rfl ?_; refine GO.lti rfl rfl rfl ?_; refine GO.move rfl rfl ?_; refine GO.gF rfl rfl rfl (by assumption) ?_; refine GO.gF rfl rfl rfl (by assumption) ?_; refine GO.gF rfl rfl rfl (by assumption) ?_; refine GO.gF rfl rfl rfl (by assumption) ?_; refine GO.gF rfl rfl rfl (by assumption) ?_; refine GO.gF rfl rfl rfl (by assumption) ?_; refine GO.gU rfl rfl rfl ?_; refine GO.gU rfl rfl rfl ?_; refine GO.gU rfl rfl rfl ?_; refine GO.gU rfl rfl rfl ?_; refine GO.gU rfl rfl rfl ?_; refine GO.gF rfl rfl rfl (by assumption) ?_; refine GO.pickTa rfl rfl (by assumption) rfl ?_; refine GO.assign rfl rfl ?_; refine GO.nil ?_; refine kthen_n ?_; refine G.ret ?_)
    refine KF2.r1 rfl (RV.t rfl) ⟨by rw [Bool.true_or], rfl⟩ (ImpS.sb ?_)
    (skip; (refine Sb.s ?_; refine Sb.s ?_; exact Sb.r))
  | false =>
    cases h2 : decide (a = c) with
    | true =>
      (refine G.seq ?_; refine G.region ?_; refine GO.box rfl rfl rfl fun b2 => ?_; refine GO.box rfl rfl rfl fun b3 => ?_; refine GO.assign rfl rfl ?_; refine GO.nil ?_; refine kthen_n ?_; refine G.seq ?_; refine G.region ?_; refine GO.fieldAddr rfl rfl ?_; refine GO.load1 rfl rfl rfl (Tk.t Tk.h) rfl ?_; refine GO.fieldAddr rfl rfl ?_; refine GO.load1 rfl rfl rfl Tk.h rfl ?_; refine GO.lti rfl rfl rfl ?_; refine GO.move rfl rfl ?_; refine GO.gT rfl rfl (by assumption) ?_; refine GO.fieldAddr rfl rfl ?_; refine GO.gT rfl rfl (by assumption) ?_; refine GO.load1 rfl rfl rfl (Tk.t Tk.h) rfl ?_; refine GO.gT rfl rfl (by assumption) ?_; refine GO.fieldAddr rfl rfl ?_; refine GO.gT rfl rfl (by assumption) ?_; refine GO.load1 rfl rfl rfl Tk.h rfl ?_; refine GO.gT rfl rfl (by assumption) ?_; refine GO.eqi rfl rfl rfl ?_; refine GO.gT rfl rfl (by assumption) ?_; refine GO.move rfl rfl ?_; refine GO.gT rfl rfl (by assumption) ?_; refine GO.fieldAddr rfl rfl ?_; refine GO.gT rfl rfl (by assumption) ?_; refine GO.load1 rfl rfl rfl (Tk.t Tk.h) rfl ?_; refine GO.gT rfl rfl (by assumption) ?_; refine GO.fieldAddr rfl rfl ?_; refine GO.gT rfl rfl (by assumption) ?_; refine GO.load1 rfl rfl rfl Tk.h rfl ?_; refine GO.gT rfl rfl (by assumption) ?_; refine GO.lti rfl rfl rfl ?_; refine GO.gT rfl rfl (by assumption) ?_; refine GO.pickTa rfl rfl (by assumption) rfl ?_; refine GO.pickFa rfl rfl (by assumption) rfl ?_; refine GO.assign rfl rfl ?_; refine GO.nil ?_; refine kthen_n ?_; refine G.ret ?_)
      refine KF2.r1 rfl (RV.t rfl) ⟨by rw [Bool.false_or, Bool.true_and], rfl⟩ (ImpS.sb ?_)
      (skip; (refine Sb.s ?_; refine Sb.s ?_; exact Sb.r))
    | false =>
      (refine G.seq ?_; refine G.region ?_; refine GO.box rfl rfl rfl fun b2 => ?_; refine GO.box rfl rfl rfl fun b3 => ?_; refine GO.assign rfl rfl ?_; refine GO.nil ?_; refine kthen_n ?_; refine G.seq ?_; refine G.region ?_; refine GO.fieldAddr rfl rfl ?_; refine GO.load1 rfl rfl rfl (Tk.t Tk.h) rfl ?_; refine GO.fieldAddr rfl rfl ?_; refine GO.load1 rfl rfl rfl Tk.h rfl ?_; refine GO.lti rfl rfl rfl ?_; refine GO.move rfl rfl ?_; refine GO.gT rfl rfl (by assumption) ?_; refine GO.fieldAddr rfl rfl ?_; refine GO.gT rfl rfl (by assumption) ?_; refine GO.load1 rfl rfl rfl (Tk.t Tk.h) rfl ?_; refine GO.gT rfl rfl (by assumption) ?_; refine GO.fieldAddr rfl rfl ?_; refine GO.gT rfl rfl (by assumption) ?_; refine GO.load1 rfl rfl rfl Tk.h rfl ?_; refine GO.gT rfl rfl (by assumption) ?_; refine GO.eqi rfl rfl rfl ?_; refine GO.gT rfl rfl (by assumption) ?_; refine GO.move rfl rfl ?_; refine GO.gF rfl rfl rfl (by assumption) ?_; refine GO.gF rfl rfl rfl (by assumption) ?_; refine GO.gF rfl rfl rfl (by assumption) ?_; refine GO.gF rfl rfl rfl (by assumption) ?_; refine GO.gF rfl rfl rfl (by assumption) ?_; refine GO.gT rfl rfl (by assumption) ?_; refine GO.pickFa rfl rfl (by assumption) rfl ?_; refine GO.pickFa rfl rfl (by assumption) rfl ?_; refine GO.assign rfl rfl ?_; refine GO.nil ?_; refine kthen_n ?_; refine G.ret ?_)
      refine KF2.r1 rfl (RV.t rfl) ⟨by rw [Bool.false_or, Bool.false_and], rfl⟩ (ImpS.sb ?_)
      (skip; (refine Sb.s ?_; refine Sb.s ?_; exact Sb.r))
end Go.Proofs.YtpfcgfgkmgnaaaaDoor
namespace Go.Proofs.YtpfcgfgkmgnaaaaDoor
open Go
theorem EqR.celC {d : Nat} (p r : Cl) : EqR Tryd.prog (d + 2) 63 (.agg #[i64 p.1, i64 p.2]) (.agg #[i64 r.1, i64 r.2]) (decide (p = r)) := by
  have h := EqR.cell (d := d) (a := p.1) (b := p.2) (a' := r.1) (b' := r.2)
  rwa [show (decide (p.1 = r.1) && decide (p.2 = r.2)) = decide (p = r) by rw [Bool.eq_iff_iff, Bool.and_eq_true, decide_eq_true_iff, decide_eq_true_iff, decide_eq_true_iff]; exact ⟨fun h => Prod.ext h.1 h.2, fun h => by rw [h]; exact ⟨rfl, rfl⟩⟩] at h
attribute [local irreducible] G GO GR GT GQ Fn FnV pt init exs pur sat own ImpS cellsV
set_option maxHeartbeats 8000000 in
theorem merge_spec (R : HP) (va vb : Value) (la lb : List Cl) (ha : SlR R va la.length 2 (cellsV la)) (hb : SlR R vb lb.length 2 (cellsV lb)) (hn : (la.length + lb.length) * 16 ≤ 140737488355328) :
    Fn Tryd.prog 101 #[va, vb] [R] (fun r Q => ∃ v, r = .tuple #[v, .bool (mrgM la lb)] ∧ Q = [own 63 2 (mrg la lb).length v (cellsV (mrg la lb)), R]) := by
  obtain ⟨aa, ca, rfl, _, hra⟩ := ha
  obtain ⟨ab, cb, rfl, _, hrb⟩ := hb
  refine Fn.mk2 Tryd.func101 rfl rfl fun w0 F => ?_
  refine G.ownNil (T := 63) (sz := 2) ?_
  (refine G.seq ?_; refine G.region ?_; refine GO.assign rfl rfl ?_; refine GO.assign rfl rfl ?_; refine GO.nil ?_; refine kthen_n ?_; refine G.seq ?_; refine G.region ?_; refine GO.assign rfl rfl ?_; refine GO.nil ?_; refine kthen_n ?_; refine G.seq ?_; refine G.region ?_; refine GO.assign rfl rfl ?_; refine GO.nil ?_; refine kthen_n ?_; refine G.seq ?_; refine G.region ?_; refine GO.assign rfl rfl ?_; refine GO.assign rfl rfl ?_; refine GO.nil ?_; refine kthen_n ?_; refine G.seq ?_; refine G.block ?_)
  refine G.loop (fun st : Nat × Nat × Value × List Cl × Bool => [(0, .slice aa la.length ca), (1, .slice ab lb.length cb), (6, st.2.2.1), (7, .bool st.2.2.2.2), (8, i64 (st.1 : Nat)), (9, i64 (st.2.1 : Nat))])
    (fun st => own 63 2 st.2.2.2.1.length st.2.2.1 (cellsV st.2.2.2.1) :: R :: F)
    (fun st => st.1 ≤ la.length ∧ st.2.1 ≤ lb.length ∧ st.2.2.2.1 ++ mrg (la.drop st.1) (lb.drop st.2.1) = mrg la lb ∧ (st.2.2.2.2 || mrgM (la.drop st.1) (lb.drop st.2.1)) = mrgM la lb ∧ st.2.2.2.1.length ≤ st.1 + st.2.1)
    (fun st => (la.length - st.1) + (lb.length - st.2.1)) (0, 0, .slice none 0 0, [], false) ⟨Nat.zero_le _, Nat.zero_le _, rfl, rfl, Nat.le_refl _⟩ ?_ ?_ ?_
  · (refine SubE.c rfl rfl ?_; refine SubE.c rfl rfl ?_; refine SubE.c rfl rfl ?_; refine SubE.c rfl rfl ?_; refine SubE.c rfl rfl ?_; refine SubE.c rfl rfl ?_; exact SubE.n)
  · rw [show cellsV [] = [] by unfold cellsV; rfl]
    ((refine Sb.c Tk.h ?_; refine Sb.c Tk.h ?_); (exact Sb.r))
  rintro ⟨i, j, v, out, more⟩ ⟨hi, hj, hout, hmore, hlen⟩
  dsimp only at hi hj hout hmore hlen ⊢
  cases hx : la[i]? with
  | none =>
    have hil : i = la.length := by have := List.getElem?_eq_none_iff.1 hx; omega
    have hda : la.drop i = [] := List.drop_eq_nil_iff.2 (by omega)
    rw [hda] at hout hmore
    have d1 : decide ((i : Int) < (la.length : Int)) = false := decide_eq_false (by omega)
    cases hy : lb[j]? with
    | none =>
      have hjl : j = lb.length := by have := List.getElem?_eq_none_iff.1 hy; omega
      have hdb : lb.drop j = [] := List.drop_eq_nil_iff.2 (by omega)
      rw [hdb, mrg_nil, List.append_nil] at hout
      rw [hdb, mrgM_nil, Bool.or_false] at hmore
      have d2 : decide ((j : Int) < (lb.length : Int)) = false := decide_eq_false (by omega)
      (refine G.seq ?_; refine G.seq ?_; refine G.region ?_; refine GO.move rfl rfl ?_; refine GO.move rfl rfl ?_; refine GO.lenS rfl rfl ?_; refine GO.lti rfl rfl rfl ?_; refine GO.move rfl rfl ?_; refine GO.gT rfl rfl (by assumption) ?_; refine GO.move rfl rfl ?_; refine GO.gT rfl rfl (by assumption) ?_; refine GO.move rfl rfl ?_; refine GO.gT rfl rfl (by assumption) ?_; refine GO.lenS rfl rfl ?_; refine GO.gT rfl rfl (by assumption) ?_; refine GO.lti rfl rfl rfl ?_; refine GO.pickFa rfl rfl (by assumption) rfl ?_; refine GO.nil ?_; refine kthen_n ?_; refine G.condF rfl (by assumption) ?_; refine G.exit ?_; refine kthen_x ?_; refine kthen_x ?_; refine kblock_x ?_; refine kthen_n ?_; refine G.seq ?_; refine G.region ?_; refine GO.move rfl rfl ?_; refine GO.move rfl rfl ?_; refine GO.assign rfl rfl ?_; refine GO.assign rfl rfl ?_; refine GO.nil ?_; refine kthen_n ?_; refine G.ret ?_)
      refine KF2.r2 rfl (RV.t rfl) (RV.t rfl) ⟨v, by rw [hmore], rfl⟩ (ImpS.sb ?_)
      rw [← hout]
      ((refine Sb.c Tk.h ?_; refine Sb.c Tk.h ?_); (exact Sb.r))
    | some y =>
      have hjl := (List.getElem?_eq_some_iff.1 hy).1
      rw [drop_at hy] at hout hmore
      rw [mrg_nil'] at hout
      rw [mrgM_nil', Bool.or_true] at hmore
      have d2 : decide ((j : Int) < (lb.length : Int)) = true := decide_eq_true (by omega)
      have d3 : decide ((j : Int) = (lb.length : Int)) = false := decide_eq_false (by omega)
      obtain ⟨bb, ob, rfl, hr⟩ := hrb (by omega)
      have r1 : Rd R ⟨bb, ob + j * 2, none⟩ (i64 y.1) := hr _ _ (cellsV_get hy).1
      have r2 : Rd R ⟨bb, ob + j * 2 + 1, none⟩ (i64 y.2) := hr _ _ (cellsV_get hy).2
      (refine G.seq ?_; refine G.seq ?_; refine G.region ?_; refine GO.move rfl rfl ?_; refine GO.move rfl rfl ?_; refine GO.lenS rfl rfl ?_; refine GO.lti rfl rfl rfl ?_; refine GO.move rfl rfl ?_; refine GO.gT rfl rfl (by assumption) ?_; refine GO.move rfl rfl ?_; refine GO.gT rfl rfl (by assumption) ?_; refine GO.move rfl rfl ?_; refine GO.gT rfl rfl (by assumption) ?_; refine GO.lenS rfl rfl ?_; refine GO.gT rfl rfl (by assumption) ?_; refine GO.lti rfl rfl rfl ?_; refine GO.pickFa rfl rfl (by assumption) rfl ?_; refine GO.nil ?_; refine kthen_n ?_; refine G.condT rfl (by assumption) ?_; refine G.skip ?_; refine kthen_n ?_; refine G.block ?_; refine G.seq ?_; refine G.seq ?_)
      refine G.draw 21 (by kernel_rfl) ?_
      ((apply GQ.step; focus (intro Z; refine GO.move rfl rfl ?_; exact KQ.z)); (apply GQ.step; focus (intro Z; refine GO.move rfl rfl ?_; exact KQ.z)); (apply GQ.step; focus (intro Z; refine GO.lenS rfl rfl ?_; exact KQ.z)); (apply GQ.step; focus (intro Z; refine GO.eqi rfl rfl rfl ?_; exact KQ.z)); (apply GQ.step; focus (intro Z; refine GO.move rfl rfl ?_; exact KQ.z)); (apply GQ.step; focus (intro Z; refine GO.gT rfl rfl (by assumption) ?_; refine GO.move rfl rfl ?_; exact KQ.z)); (apply GQ.step; focus (intro Z; refine GO.gT rfl rfl (by assumption) ?_; refine GO.move rfl rfl ?_; exact KQ.z)); (apply GQ.step; focus (intro Z; refine GO.gT rfl rfl (by assumption) ?_; refine GO.lenS rfl rfl ?_; exact KQ.z)); (apply GQ.step; focus (intro Z; refine GO.gT rfl rfl (by assumption) ?_; refine GO.lti rfl rfl rfl ?_; exact KQ.z)); (apply GQ.step; focus (intro Z; refine GO.gT rfl rfl (by assumption) ?_; refine GO.move rfl rfl ?_; exact KQ.z)); (apply GQ.step; focus (intro Z; refine GO.gF rfl rfl rfl (by assumption) ?_; exact KQ.z)); (apply GQ.step; focus (intro Z; refine GO.gF rfl rfl rfl (by assumption) ?_; exact KQ.z)); (apply GQ.step; focus (intro Z; refine GO.gF rfl rfl rfl (by assumption) ?_; exact KQ.z)); (apply GQ.step; focus (intro Z; refine GO.gF rfl rfl rfl (by assumption) ?_; exact KQ.z)); (apply GQ.step; focus (intro Z; refine GO.gF rfl rfl rfl (by assumption) ?_; exact KQ.z)); (apply GQ.step; focus (intro Z; refine GO.gF rfl rfl rfl (by assumption) ?_; exact KQ.z)); (apply GQ.step; focus (intro Z; refine GO.gF rfl rfl rfl (by assumption) ?_; exact KQ.z)); (apply GQ.step; focus (intro Z; refine GO.gF rfl rfl rfl (by assumption) ?_; exact KQ.z)); (apply GQ.step; focus (intro Z; refine GO.gF rfl rfl rfl (by assumption) ?_; exact KQ.z)); (apply GQ.step; focus (intro Z; refine GO.gT rfl rfl (by assumption) ?_; refine GO.pickFa rfl rfl (by assumption) rfl ?_; exact KQ.z)); (apply GQ.step; focus (intro Z; refine GO.pickFa rfl rfl (by assumption) rfl ?_; exact KQ.z)); refine GQ.nil ?_)
      (refine GO.nil ?_; refine kthen_n ?_; refine G.condF rfl rfl ?_; refine G.skip ?_; refine kthen_n ?_; refine G.seq ?_; refine G.seq ?_)
      refine G.draw 15 (by kernel_rfl) ?_
      ((apply GQ.step; focus (intro Z; refine GO.move rfl rfl ?_; exact KQ.z)); (apply GQ.step; focus (intro Z; refine GO.move rfl rfl ?_; exact KQ.z)); (apply GQ.step; focus (intro Z; refine GO.lenS rfl rfl ?_; exact KQ.z)); (apply GQ.step; focus (intro Z; refine GO.lti rfl rfl rfl ?_; exact KQ.z)); (apply GQ.step; focus (intro Z; refine GO.move rfl rfl ?_; exact KQ.z)); (apply GQ.step; focus (intro Z; refine GO.gF rfl rfl rfl (by assumption) ?_; exact KQ.z)); (apply GQ.step; focus (intro Z; refine GO.gF rfl rfl rfl (by assumption) ?_; exact KQ.z)); (apply GQ.step; focus (intro Z; refine GO.gF rfl rfl rfl (by assumption) ?_; exact KQ.z)); (apply GQ.step; focus (intro Z; refine GO.gF rfl rfl rfl (by assumption) ?_; exact KQ.z)); (apply GQ.step; focus (intro Z; refine GO.gF rfl rfl rfl (by assumption) ?_; exact KQ.z)); (apply GQ.step; focus (intro Z; refine GO.gF rfl rfl rfl (by assumption) ?_; exact KQ.z)); (apply GQ.step; focus (intro Z; refine GO.gF rfl rfl rfl (by assumption) ?_; exact KQ.z)); (apply GQ.step; focus (intro Z; refine GO.gF rfl rfl rfl (by assumption) ?_; exact KQ.z)); (apply GQ.step; focus (intro Z; refine GO.gF rfl rfl rfl (by assumption) ?_; exact KQ.z)); (apply GQ.step; focus (intro Z; refine GO.pickFa rfl rfl (by assumption) rfl ?_; exact KQ.z)); refine GQ.nil ?_)
      (refine GO.nil ?_; refine kthen_n ?_; refine G.condF rfl rfl ?_; refine G.region ?_; refine GO.assign rfl rfl ?_; refine GO.nil ?_; refine kthen_n ?_; refine G.seq ?_; refine G.region ?_; refine GO.move rfl rfl ?_; refine GO.move rfl rfl ?_; refine GO.move rfl rfl ?_; refine GO.idxS rfl rfl rfl ⟨rfl, by omega⟩ ?_; refine GO.load2 rfl rfl rfl (Tk.t Tk.h) (by assumption) (by assumption) ?_)
      refine GO.buildSlice1 rfl rfl (by simp; rfl) rfl ⟨by omega, by omega⟩ fun bs => ?_
      refine GO.appendOwn (m := 1) (news := [i64 y.1, i64 y.2]) rfl rfl rfl (Tk.t Tk.h) Tk.h rfl (by simp [Value.oneCell']) ⟨by decide, rfl⟩ Nat.one_pos (by unfold maxLen; omega) (by omega) fun v4 => ?_
      rw [cellsV_snoc, show out.length + 1 = (out ++ [y]).length by rw [List.length_append]; rfl]
      (refine GO.assign rfl rfl ?_; refine GO.nil ?_; refine kthen_n ?_; refine G.region ?_; refine GO.move rfl rfl ?_; refine GO.addi rfl rfl rfl (by omega) ?_; refine GO.assign rfl rfl ?_; refine GO.nil ?_; refine kblock_n ?_; refine kthen_n ?_)
      refine ⟨(i, j + 1, v4, out ++ [y], true), ⟨by dsimp only; omega, by dsimp only; omega, by dsimp only; rw [hda, mrg_nil', List.append_assoc]; exact hout, by dsimp only; rw [Bool.true_or]; exact hmore, by dsimp only; rw [List.length_append, List.length_singleton]; omega⟩, by dsimp only; omega, ?_, ?_⟩
      · (refine SubE.c rfl rfl ?_; refine SubE.c rfl rfl ?_; refine SubE.c rfl rfl ?_; refine SubE.c rfl rfl ?_; refine SubE.c rfl rfl ?_; refine SubE.c rfl rfl ?_; exact SubE.n)
      · ((refine Sb.c Tk.h ?_; refine Sb.c (Tk.t Tk.h) ?_); (refine Sb.s ?_; exact Sb.r))
  | some x =>
    have hil := (List.getElem?_eq_some_iff.1 hx).1
    have d1 : decide ((i : Int) < (la.length : Int)) = true := decide_eq_true (by omega)
    have hdx := drop_at hx
    rw [hdx] at hout hmore
    obtain ⟨ba, oa, rfl, hrx⟩ := hra (by omega)
    have r1 : Rd R ⟨ba, oa + i * 2, none⟩ (i64 x.1) := hrx _ _ (cellsV_get hx).1
    have r2 : Rd R ⟨ba, oa + i * 2 + 1, none⟩ (i64 x.2) := hrx _ _ (cellsV_get hx).2
    cases hy : lb[j]? with
    | none =>
      have hjl : j = lb.length := by have := List.getElem?_eq_none_iff.1 hy; omega
      have hdb : lb.drop j = [] := List.drop_eq_nil_iff.2 (by omega)
      rw [hdb, mrg_nil] at hout
      rw [hdb, mrgM_nil] at hmore
      have d3 : decide ((j : Int) = (lb.length : Int)) = true := decide_eq_true (by omega)
      (refine G.seq ?_; refine G.seq ?_; refine G.region ?_; refine GO.move rfl rfl ?_; refine GO.move rfl rfl ?_; refine GO.lenS rfl rfl ?_; refine GO.lti rfl rfl rfl ?_; refine GO.move rfl rfl ?_; refine GO.gF rfl rfl rfl (by assumption) ?_; refine GO.gF rfl rfl rfl (by assumption) ?_; refine GO.gF rfl rfl rfl (by assumption) ?_; refine GO.gF rfl rfl rfl (by assumption) ?_; refine GO.pickTa rfl rfl (by assumption) rfl ?_; refine GO.nil ?_; refine kthen_n ?_; refine G.condT rfl rfl ?_; refine G.skip ?_; refine kthen_n ?_; refine G.block ?_; refine G.seq ?_; refine G.seq ?_)
      refine G.draw 21 (by kernel_rfl) ?_
      ((apply GQ.step; focus (intro Z; refine GO.move rfl rfl ?_; exact KQ.z)); (apply GQ.step; focus (intro Z; refine GO.move rfl rfl ?_; exact KQ.z)); (apply GQ.step; focus (intro Z; refine GO.lenS rfl rfl ?_; exact KQ.z)); (apply GQ.step; focus (intro Z; refine GO.eqi rfl rfl rfl ?_; exact KQ.z)); (apply GQ.step; focus (intro Z; refine GO.move rfl rfl ?_; exact KQ.z)); (apply GQ.step; focus (intro Z; refine GO.gF rfl rfl rfl (by assumption) ?_; exact KQ.z)); (apply GQ.step; focus (intro Z; refine GO.gF rfl rfl rfl (by assumption) ?_; exact KQ.z)); (apply GQ.step; focus (intro Z; refine GO.gF rfl rfl rfl (by assumption) ?_; exact KQ.z)); (apply GQ.step; focus (intro Z; refine GO.gF rfl rfl rfl (by assumption) ?_; exact KQ.z)); (apply GQ.step; focus (intro Z; refine GO.gF rfl rfl rfl (by assumption) ?_; exact KQ.z)); (apply GQ.step; focus (intro Z; refine GO.gU rfl rfl rfl ?_; exact KQ.z)); (apply GQ.step; focus (intro Z; refine GO.gU rfl rfl rfl ?_; exact KQ.z)); (apply GQ.step; focus (intro Z; refine GO.gU rfl rfl rfl ?_; exact KQ.z)); (apply GQ.step; focus (intro Z; refine GO.gU rfl rfl rfl ?_; exact KQ.z)); (apply GQ.step; focus (intro Z; refine GO.gU rfl rfl rfl ?_; exact KQ.z)); (apply GQ.step; focus (intro Z; refine GO.gU rfl rfl rfl ?_; exact KQ.z)); (apply GQ.step; focus (intro Z; refine GO.gU rfl rfl rfl ?_; exact KQ.z)); (apply GQ.step; focus (intro Z; refine GO.gU rfl rfl rfl ?_; exact KQ.z)); (apply GQ.step; focus (intro Z; refine GO.gU rfl rfl rfl ?_; exact KQ.z)); (apply GQ.step; focus (intro Z; refine GO.gF rfl rfl rfl (by assumption) ?_; exact KQ.z)); (apply GQ.step; focus (intro Z; refine GO.pickTa rfl rfl (by assumption) rfl ?_; exact KQ.z)); refine GQ.nil ?_)
      (refine GO.nil ?_; refine kthen_n ?_; refine G.condT rfl rfl ?_; refine G.seq ?_; refine G.region ?_; refine GO.move rfl rfl ?_; refine GO.move rfl rfl ?_; refine GO.move rfl rfl ?_; refine GO.idxS rfl rfl rfl ⟨rfl, by omega⟩ ?_; refine GO.load2 rfl rfl rfl (Tk.t Tk.h) (by assumption) (by assumption) ?_)
      refine GO.buildSlice1 rfl rfl (by simp; rfl) rfl ⟨by omega, by omega⟩ fun bs => ?_
      refine GO.appendOwn (m := 1) (news := [i64 x.1, i64 x.2]) rfl rfl rfl (Tk.t Tk.h) Tk.h rfl (by simp [Value.oneCell']) ⟨by decide, rfl⟩ Nat.one_pos (by unfold maxLen; omega) (by omega) fun v4 => ?_
      rw [cellsV_snoc, show out.length + 1 = (out ++ [x]).length by rw [List.length_append]; rfl]
      (refine GO.assign rfl rfl ?_; refine GO.nil ?_; refine kthen_n ?_; refine G.seq ?_; refine G.region ?_; refine GO.move rfl rfl ?_; refine GO.addi rfl rfl rfl (by omega) ?_; refine GO.assign rfl rfl ?_; refine GO.nil ?_; refine kthen_n ?_; refine G.exit ?_; refine kthen_x ?_; refine kblock_x ?_; refine kthen_n ?_)
      refine ⟨(i + 1, j, v4, out ++ [x], more), ⟨by dsimp only; omega, by dsimp only; omega, by dsimp only; rw [hdb, mrg_nil, List.append_assoc]; exact hout, by dsimp only; rw [hdb, mrgM_nil]; exact hmore, by dsimp only; rw [List.length_append, List.length_singleton]; omega⟩, by dsimp only; omega, ?_, ?_⟩
      · (refine SubE.c rfl rfl ?_; refine SubE.c rfl rfl ?_; refine SubE.c rfl rfl ?_; refine SubE.c rfl rfl ?_; refine SubE.c rfl rfl ?_; refine SubE.c rfl rfl ?_; exact SubE.n)
      · ((refine Sb.c Tk.h ?_; refine Sb.c (Tk.t Tk.h) ?_); (refine Sb.s ?_; exact Sb.r))
    | some y =>
      have hjl := (List.getElem?_eq_some_iff.1 hy).1
      have hdy := drop_at hy
      rw [hdy] at hout hmore
      have d3 : decide ((j : Int) = (lb.length : Int)) = false := decide_eq_false (by omega)
      obtain ⟨bb, ob, rfl, hry⟩ := hrb (by omega)
      have r3 : Rd R ⟨bb, ob + j * 2, none⟩ (i64 y.1) := hry _ _ (cellsV_get hy).1
      have r4 : Rd R ⟨bb, ob + j * 2 + 1, none⟩ (i64 y.2) := hry _ _ (cellsV_get hy).2
      (refine G.seq ?_; refine G.seq ?_; refine G.region ?_; refine GO.move rfl rfl ?_; refine GO.move rfl rfl ?_; refine GO.lenS rfl rfl ?_; refine GO.lti rfl rfl rfl ?_; refine GO.move rfl rfl ?_; refine GO.gF rfl rfl rfl (by assumption) ?_; refine GO.gF rfl rfl rfl (by assumption) ?_; refine GO.gF rfl rfl rfl (by assumption) ?_; refine GO.gF rfl rfl rfl (by assumption) ?_; refine GO.pickTa rfl rfl (by assumption) rfl ?_; refine GO.nil ?_; refine kthen_n ?_; refine G.condT rfl rfl ?_; refine G.skip ?_; refine kthen_n ?_; refine G.block ?_; refine G.seq ?_; refine G.seq ?_)
      refine G.draw 21 (by kernel_rfl) ?_
      ((apply GQ.step; focus (intro Z; refine GO.move rfl rfl ?_; exact KQ.z)); (apply GQ.step; focus (intro Z; refine GO.move rfl rfl ?_; exact KQ.z)); (apply GQ.step; focus (intro Z; refine GO.lenS rfl rfl ?_; exact KQ.z)); (apply GQ.step; focus (intro Z; refine GO.eqi rfl rfl rfl ?_; exact KQ.z)); (apply GQ.step; focus (intro Z; refine GO.move rfl rfl ?_; exact KQ.z)); (apply GQ.step; focus (intro Z; refine GO.gT rfl rfl (by assumption) ?_; refine GO.move rfl rfl ?_; exact KQ.z)); (apply GQ.step; focus (intro Z; refine GO.gT rfl rfl (by assumption) ?_; refine GO.move rfl rfl ?_; exact KQ.z)); (apply GQ.step; focus (intro Z; refine GO.gT rfl rfl (by assumption) ?_; refine GO.lenS rfl rfl ?_; exact KQ.z)); (apply GQ.step; focus (intro Z; refine GO.gT rfl rfl (by assumption) ?_; refine GO.lti rfl rfl rfl ?_; exact KQ.z)); (apply GQ.step; focus (intro Z; refine GO.gT rfl rfl (by assumption) ?_; refine GO.move rfl rfl ?_; exact KQ.z)); (apply GQ.step; focus (intro Z; refine GO.gT rfl rfl (by assumption) ?_; refine GO.move rfl rfl ?_; exact KQ.z)); (apply GQ.step; focus (intro Z; refine GO.gT rfl rfl (by assumption) ?_; refine GO.move rfl rfl ?_; exact KQ.z)); (apply GQ.step; focus (intro Z; refine GO.gT rfl rfl (by assumption) ?_; refine GO.idxS rfl rfl rfl ⟨rfl, by omega⟩ ?_; exact KQ.z)); (apply GQ.step; focus (intro Z; refine GO.gT rfl rfl (by assumption) ?_; refine GO.load2 rfl rfl rfl (Tk.t Tk.h) (by assumption) (by assumption) ?_; exact KQ.z)); (apply GQ.step; focus (intro Z; refine GO.gT rfl rfl (by assumption) ?_; refine GO.move rfl rfl ?_; exact KQ.z)); (apply GQ.step; focus (intro Z; refine GO.gT rfl rfl (by assumption) ?_; refine GO.move rfl rfl ?_; exact KQ.z)); (apply GQ.step; focus (intro Z; refine GO.gT rfl rfl (by assumption) ?_; refine GO.idxS rfl rfl rfl ⟨rfl, by omega⟩ ?_; exact KQ.z)); (apply GQ.step; focus (intro Z; refine GO.gT rfl rfl (by assumption) ?_; refine GO.load2 rfl rfl rfl (Tk.t Tk.h) (by assumption) (by assumption) ?_; exact KQ.z)))
      apply GQ.step; focus (intro Z; refine GO.gT rfl rfl (by assumption) ?_; refine GO.call2 rfl rfl rfl (before_spec x y) Tks.n ?_; rintro _ _ ⟨rfl, rfl⟩; exact KQ.z)
      cases hl : ltC x y with
      | true =>
        rw [mrg_lt hl] at hout
        rw [mrgM_lt hl] at hmore
        ((apply GQ.step; focus (intro Z; refine GO.gT rfl rfl (by assumption) ?_; refine GO.pickTa rfl rfl (by assumption) rfl ?_; exact KQ.z)); (apply GQ.step; focus (intro Z; refine GO.pickFa rfl rfl (by assumption) rfl ?_; exact KQ.z)); refine GQ.nil ?_)
        (refine GO.nil ?_; refine kthen_n ?_; refine G.condT rfl rfl ?_; refine G.seq ?_; refine G.region ?_; refine GO.move rfl rfl ?_; refine GO.move rfl rfl ?_; refine GO.move rfl rfl ?_; refine GO.idxS rfl rfl rfl ⟨rfl, by omega⟩ ?_; refine GO.load2 rfl rfl rfl (Tk.t Tk.h) (by assumption) (by assumption) ?_)
        refine GO.buildSlice1 rfl rfl (by simp; rfl) rfl ⟨by omega, by omega⟩ fun bs => ?_
        refine GO.appendOwn (m := 1) (news := [i64 x.1, i64 x.2]) rfl rfl rfl (Tk.t Tk.h) Tk.h rfl (by simp [Value.oneCell']) ⟨by decide, rfl⟩ Nat.one_pos (by unfold maxLen; omega) (by omega) fun v4 => ?_
        rw [cellsV_snoc, show out.length + 1 = (out ++ [x]).length by rw [List.length_append]; rfl]
        (refine GO.assign rfl rfl ?_; refine GO.nil ?_; refine kthen_n ?_; refine G.seq ?_; refine G.region ?_; refine GO.move rfl rfl ?_; refine GO.addi rfl rfl rfl (by omega) ?_; refine GO.assign rfl rfl ?_; refine GO.nil ?_; refine kthen_n ?_; refine G.exit ?_; refine kthen_x ?_; refine kblock_x ?_; refine kthen_n ?_)
        refine ⟨(i + 1, j, v4, out ++ [x], more), ⟨by dsimp only; omega, by dsimp only; omega, by dsimp only; rw [hdy, List.append_assoc]; exact hout, by dsimp only; rw [hdy]; exact hmore, by dsimp only; rw [List.length_append, List.length_singleton]; omega⟩, by dsimp only; omega, ?_, ?_⟩
        · (refine SubE.c rfl rfl ?_; refine SubE.c rfl rfl ?_; refine SubE.c rfl rfl ?_; refine SubE.c rfl rfl ?_; refine SubE.c rfl rfl ?_; refine SubE.c rfl rfl ?_; exact SubE.n)
        · ((refine Sb.c Tk.h ?_; refine Sb.c (Tk.t Tk.h) ?_); (refine Sb.s ?_; exact Sb.r))
      | false =>
        ((apply GQ.step; focus (intro Z; refine GO.gT rfl rfl (by assumption) ?_; refine GO.pickTa rfl rfl (by assumption) rfl ?_; exact KQ.z)); (apply GQ.step; focus (intro Z; refine GO.pickFa rfl rfl (by assumption) rfl ?_; exact KQ.z)); refine GQ.nil ?_)
        (refine GO.nil ?_; refine kthen_n ?_; refine G.condF rfl rfl ?_; refine G.skip ?_; refine kthen_n ?_; refine G.seq ?_; refine G.seq ?_)
        refine G.draw 15 (by kernel_rfl) ?_
        ((apply GQ.step; focus (intro Z; refine GO.move rfl rfl ?_; exact KQ.z)); (apply GQ.step; focus (intro Z; refine GO.move rfl rfl ?_; exact KQ.z)); (apply GQ.step; focus (intro Z; refine GO.lenS rfl rfl ?_; exact KQ.z)); (apply GQ.step; focus (intro Z; refine GO.lti rfl rfl rfl ?_; exact KQ.z)); (apply GQ.step; focus (intro Z; refine GO.move rfl rfl ?_; exact KQ.z)); (apply GQ.step; focus (intro Z; refine GO.gT rfl rfl (by assumption) ?_; refine GO.move rfl rfl ?_; exact KQ.z)); (apply GQ.step; focus (intro Z; refine GO.gT rfl rfl (by assumption) ?_; refine GO.move rfl rfl ?_; exact KQ.z)); (apply GQ.step; focus (intro Z; refine GO.gT rfl rfl (by assumption) ?_; refine GO.idxS rfl rfl rfl ⟨rfl, by omega⟩ ?_; exact KQ.z)); (apply GQ.step; focus (intro Z; refine GO.gT rfl rfl (by assumption) ?_; refine GO.load2 rfl rfl rfl (Tk.t Tk.h) (by assumption) (by assumption) ?_; exact KQ.z)); (apply GQ.step; focus (intro Z; refine GO.gT rfl rfl (by assumption) ?_; refine GO.move rfl rfl ?_; exact KQ.z)); (apply GQ.step; focus (intro Z; refine GO.gT rfl rfl (by assumption) ?_; refine GO.move rfl rfl ?_; exact KQ.z)); (apply GQ.step; focus (intro Z; refine GO.gT rfl rfl (by assumption) ?_; refine GO.idxS rfl rfl rfl ⟨rfl, by omega⟩ ?_; exact KQ.z)); (apply GQ.step; focus (intro Z; refine GO.gT rfl rfl (by assumption) ?_; refine GO.load2 rfl rfl rfl (Tk.t Tk.h) (by assumption) (by assumption) ?_; exact KQ.z)))
        apply GQ.step; focus (intro Z; refine GO.gT rfl rfl (by assumption) ?_; refine GO.eqlA (EqR.celC x y) rfl rfl rfl ?_; exact KQ.z)
        by_cases he : x = y
        · rw [decide_eq_true he]
          rw [mrg_eq hl he] at hout
          rw [mrgM_eq hl he] at hmore
          ((apply GQ.step; focus (intro Z; refine GO.pickTa rfl rfl (by assumption) rfl ?_; exact KQ.z)); refine GQ.nil ?_)
          (refine GO.nil ?_; refine kthen_n ?_; refine G.condT rfl rfl ?_; refine G.region ?_; refine GO.move rfl rfl ?_; refine GO.addi rfl rfl rfl (by omega) ?_; refine GO.assign rfl rfl ?_; refine GO.nil ?_; refine kthen_n ?_; refine G.seq ?_; refine G.region ?_; refine GO.move rfl rfl ?_; refine GO.move rfl rfl ?_; refine GO.move rfl rfl ?_; refine GO.idxS rfl rfl rfl ⟨rfl, by omega⟩ ?_; refine GO.load2 rfl rfl rfl (Tk.t Tk.h) (by assumption) (by assumption) ?_)
          refine GO.buildSlice1 rfl rfl (by simp; rfl) rfl ⟨by omega, by omega⟩ fun bs => ?_
          refine GO.appendOwn (m := 1) (news := [i64 y.1, i64 y.2]) rfl rfl rfl (Tk.t Tk.h) Tk.h rfl (by simp [Value.oneCell']) ⟨by decide, rfl⟩ Nat.one_pos (by unfold maxLen; omega) (by omega) fun v4 => ?_
          rw [cellsV_snoc, show out.length + 1 = (out ++ [y]).length by rw [List.length_append]; rfl]
          (refine GO.assign rfl rfl ?_; refine GO.nil ?_; refine kthen_n ?_; refine G.region ?_; refine GO.move rfl rfl ?_; refine GO.addi rfl rfl rfl (by omega) ?_; refine GO.assign rfl rfl ?_; refine GO.nil ?_; refine kblock_n ?_; refine kthen_n ?_)
          refine ⟨(i + 1, j + 1, v4, out ++ [y], more), ⟨by dsimp only; omega, by dsimp only; omega, by dsimp only; rw [List.append_assoc]; exact hout, by dsimp only; exact hmore, by dsimp only; rw [List.length_append, List.length_singleton]; omega⟩, by dsimp only; omega, ?_, ?_⟩
          · (refine SubE.c rfl rfl ?_; refine SubE.c rfl rfl ?_; refine SubE.c rfl rfl ?_; refine SubE.c rfl rfl ?_; refine SubE.c rfl rfl ?_; refine SubE.c rfl rfl ?_; exact SubE.n)
          · ((refine Sb.c Tk.h ?_; refine Sb.c (Tk.t Tk.h) ?_); (refine Sb.s ?_; exact Sb.r))
        · rw [decide_eq_false he]
          rw [mrg_gt hl he] at hout
          rw [mrgM_gt hl he, Bool.or_true] at hmore
          ((apply GQ.step; focus (intro Z; refine GO.pickTa rfl rfl (by assumption) rfl ?_; exact KQ.z)); refine GQ.nil ?_)
          (refine GO.nil ?_; refine kthen_n ?_; refine G.condF rfl rfl ?_; refine G.region ?_; refine GO.assign rfl rfl ?_; refine GO.nil ?_; refine kthen_n ?_; refine G.seq ?_; refine G.region ?_; refine GO.move rfl rfl ?_; refine GO.move rfl rfl ?_; refine GO.move rfl rfl ?_; refine GO.idxS rfl rfl rfl ⟨rfl, by omega⟩ ?_; refine GO.load2 rfl rfl rfl (Tk.t Tk.h) (by assumption) (by assumption) ?_)
          refine GO.buildSlice1 rfl rfl (by simp; rfl) rfl ⟨by omega, by omega⟩ fun bs => ?_
          refine GO.appendOwn (m := 1) (news := [i64 y.1, i64 y.2]) rfl rfl rfl (Tk.t Tk.h) Tk.h rfl (by simp [Value.oneCell']) ⟨by decide, rfl⟩ Nat.one_pos (by unfold maxLen; omega) (by omega) fun v4 => ?_
          rw [cellsV_snoc, show out.length + 1 = (out ++ [y]).length by rw [List.length_append]; rfl]
          (refine GO.assign rfl rfl ?_; refine GO.nil ?_; refine kthen_n ?_; refine G.region ?_; refine GO.move rfl rfl ?_; refine GO.addi rfl rfl rfl (by omega) ?_; refine GO.assign rfl rfl ?_; refine GO.nil ?_; refine kblock_n ?_; refine kthen_n ?_)
          refine ⟨(i, j + 1, v4, out ++ [y], true), ⟨by dsimp only; omega, by dsimp only; omega, by dsimp only; rw [hdx, List.append_assoc]; exact hout, by dsimp only; rw [Bool.true_or]; exact hmore, by dsimp only; rw [List.length_append, List.length_singleton]; omega⟩, by dsimp only; omega, ?_, ?_⟩
          · (refine SubE.c rfl rfl ?_; refine SubE.c rfl rfl ?_; refine SubE.c rfl rfl ?_; refine SubE.c rfl rfl ?_; refine SubE.c rfl rfl ?_; refine SubE.c rfl rfl ?_; exact SubE.n)
          · ((refine Sb.c Tk.h ?_; refine Sb.c (Tk.t Tk.h) ?_); (refine Sb.s ?_; exact Sb.r))
end Go.Proofs.YtpfcgfgkmgnaaaaDoor
namespace Go.Proofs.YtpfcgfgkmgnaaaaDoor
open Go
def srt (l : List Cl) : List Cl := if l.length < 2 then l else mrg (srt (l.take (l.length / 2))) (srt (l.drop (l.length / 2)))
termination_by l.length
decreasing_by
  · rw [List.length_take]; omega
  · rw [List.length_drop]; omega
theorem srt_small {l : List Cl} (h : l.length < 2) : srt l = l := by rw [srt, if_pos h]
theorem srt_big {l : List Cl} (h : ¬ l.length < 2) : srt l = mrg (srt (l.take (l.length / 2))) (srt (l.drop (l.length / 2))) := by rw [srt, if_neg h]
theorem mrg_len : ∀ (n : Nat) (xs ys : List Cl), xs.length + ys.length ≤ n → (mrg xs ys).length ≤ xs.length + ys.length
  | _, [], ys, _ => by rw [mrg_nil']; simp
  | _, x :: xs, [], _ => by rw [mrg_nil]; simp
  | 0, x :: xs, y :: ys, h => by simp at h
  | n + 1, x :: xs, y :: ys, h => by
    simp only [List.length_cons] at h ⊢
    cases hl : ltC x y with
    | true =>
      rw [mrg_lt hl, List.length_cons]
      have := mrg_len n xs (y :: ys) (by simp only [List.length_cons]; omega)
      simp only [List.length_cons] at this
      omega
    | false =>
      by_cases e : x = y
      · rw [mrg_eq hl e, List.length_cons]
        have := mrg_len n xs ys (by omega)
        omega
      · rw [mrg_gt hl e, List.length_cons]
        have := mrg_len n (x :: xs) ys (by simp only [List.length_cons]; omega)
        simp only [List.length_cons] at this
        omega
theorem srt_len : ∀ (n : Nat) (l : List Cl), l.length ≤ n → (srt l).length ≤ l.length
  | 0, l, h => by rw [srt_small (by omega)]; exact Nat.le_refl _
  | n + 1, l, h => by
    by_cases h2 : l.length < 2
    · rw [srt_small h2]; exact Nat.le_refl _
    · rw [srt_big h2]
      have h3 := mrg_len _ (srt (l.take (l.length / 2))) (srt (l.drop (l.length / 2))) (Nat.le_refl _)
      have h4 := srt_len n (l.take (l.length / 2)) (by rw [List.length_take]; omega)
      have h5 := srt_len n (l.drop (l.length / 2)) (by rw [List.length_drop]; omega)
      rw [List.length_take] at h4
      rw [List.length_drop] at h5
      omega
/-- A slice of cells that can be read, its room at least its length. -/
def SlC (q : HP) (v : Value) (l : List Cl) : Prop := ∃ a cap, v = .slice a l.length cap ∧ l.length ≤ cap ∧ (0 < l.length → ∃ b o, a = some ⟨b, o, none⟩ ∧ ∀ j u, (cellsV l)[j]? = some u → Rd q ⟨b, o + j, none⟩ u)
theorem SlC.slR {q : HP} {v : Value} {l : List Cl} (h : SlC q v l) : SlR q v l.length 2 (cellsV l) := let ⟨a, cap, h1, _, h3⟩ := h; ⟨a, cap, h1, cellsV_len l, h3⟩
theorem cellsV_take {l : List Cl} {h j : Nat} {u : Value} (hu : (cellsV (l.take h))[j]? = some u) : (cellsV l)[j]? = some u := by
  have e : cellsV l = cellsV (l.take h) ++ cellsV (l.drop h) := by rw [← cellsV_app, List.take_append_drop]
  rw [e, List.getElem?_append_left (List.getElem?_eq_some_iff.1 hu).1]
  exact hu
theorem cellsV_drop {l : List Cl} {h j : Nat} {u : Value} (hh : h ≤ l.length) (hu : (cellsV (l.drop h))[j]? = some u) : (cellsV l)[h * 2 + j]? = some u := by
  have e : cellsV l = cellsV (l.take h) ++ cellsV (l.drop h) := by rw [← cellsV_app, List.take_append_drop]
  have hl : (cellsV (l.take h)).length = h * 2 := by rw [cellsV_len, List.length_take]; omega
  rw [e, List.getElem?_append_right (by omega), hl, show h * 2 + j - h * 2 = j by omega]
  exact hu
theorem Sl.slR {q : HP} {v : Value} {l : List Cl} (h : Sl q v l.length 2 (cellsV l)) : SlR q v l.length 2 (cellsV l) := h
theorem cellsV_ones (l : List Cl) : ∀ u ∈ cellsV l, u.oneCell' = true := by
  intro u hu
  obtain ⟨p, _, hp⟩ := List.mem_flatMap.1 hu
  simp at hp
  rcases hp with rfl | rfl <;> rfl
attribute [local irreducible] G GO GR GT GQ Fn FnV pt init exs pur sat own ImpS cellsV
set_option maxHeartbeats 8000000 in
theorem sorted_spec : ∀ (n : Nat) (l : List Cl), l.length ≤ n → ∀ (R : HP) (v : Value), SlC R v l → l.length * 16 ≤ 140737488355328 →
    Fn Tryd.prog 74 #[v] [R] (fun r Q => Q = [own 63 2 (srt l).length r (cellsV (srt l)), R]) := by
  intro n
  induction n with
  | zero =>
    intro l hl R v hv hb
    obtain rfl : l = [] := List.eq_nil_of_length_eq_zero (by omega)
    have hv2 := hv.slR
    obtain ⟨a, cap, rfl, hc, hr⟩ := hv
    refine Fn.mk2 Tryd.func74 rfl rfl fun w0 F => ?_
    rw [srt_small (by simp)]
    (refine G.seq ?_; refine G.region ?_; refine GO.assign rfl rfl ?_; refine GO.nil ?_; refine kthen_n ?_; refine G.seq ?_; refine G.seq ?_; refine G.region ?_; refine GO.move rfl rfl ?_; refine GO.lenS rfl rfl ?_; refine GO.lti rfl rfl rfl ?_; refine GO.nil ?_; refine kthen_n ?_; refine G.condT rfl rfl ?_; refine G.seq ?_; refine G.region ?_)
    refine GO.buildSlice0 rfl fun v16 => ?_
    (refine GO.move rfl rfl ?_)
    refine GO.appendFrom (m := ([] : List Cl).length) (q := R) rfl rfl rfl Tk.h Tk.h hv2 (cellsV_ones _) ⟨by decide, rfl⟩ (by decide) (by decide) fun v12 => ?_
    rw [List.nil_append, Nat.zero_add]
    (refine GO.assign rfl rfl ?_; refine GO.nil ?_; refine kthen_n ?_; refine G.ret ?_; refine kthen_r ?_)
    refine KF2.r1 rfl (RV.t rfl) rfl (ImpS.sb ?_)
    ((refine Sb.c Tk.h ?_; refine Sb.c Tk.h ?_); (exact Sb.r))
  | succ n ih =>
    intro l hl R v hv hb
    have hv2 := hv.slR
    obtain ⟨a, cap, rfl, hc, hr⟩ := hv
    refine Fn.mk2 Tryd.func74 rfl rfl fun w0 F => ?_
    (refine G.seq ?_; refine G.region ?_; refine GO.assign rfl rfl ?_; refine GO.nil ?_; refine kthen_n ?_; refine G.seq ?_; refine G.seq ?_; refine G.region ?_; refine GO.move rfl rfl ?_; refine GO.lenS rfl rfl ?_; refine GO.lti rfl rfl rfl ?_; refine GO.nil ?_; refine kthen_n ?_)
    refine G.condD rfl (fun hlt => ?_) (fun hge => ?_)
    · rw [srt_small (by omega)]
      (refine G.seq ?_; refine G.region ?_)
      refine GO.buildSlice0 rfl fun v16 => ?_
      (refine GO.move rfl rfl ?_)
      refine GO.appendFrom (m := l.length) (q := R) rfl rfl rfl Tk.h Tk.h hv2 (cellsV_ones _) ⟨by decide, rfl⟩ (by unfold maxLen; omega) (by omega) fun v12 => ?_
      rw [List.nil_append, Nat.zero_add]
      (refine GO.assign rfl rfl ?_; refine GO.nil ?_; refine kthen_n ?_; refine G.ret ?_; refine kthen_r ?_)
      refine KF2.r1 rfl (RV.t rfl) rfl (ImpS.sb ?_)
      ((refine Sb.c Tk.h ?_; refine Sb.c Tk.h ?_); (exact Sb.r))
    · obtain ⟨bo, oo, rfl, hrd⟩ := hr (by omega)
      rw [srt_big (by omega)]
      have hA := srt_len _ (l.take (l.length / 2)) (Nat.le_refl _)
      have hB := srt_len _ (l.drop (l.length / 2)) (Nat.le_refl _)
      have hlt : (l.take (l.length / 2)).length = l.length / 2 := by rw [List.length_take]; omega
      have hld : (l.drop (l.length / 2)).length = l.length - l.length / 2 := List.length_drop
      have s1 : SlC R (.slice (some ⟨bo, oo, none⟩) (l.length / 2) cap) (l.take (l.length / 2)) := ⟨_, _, by rw [hlt], by omega, fun _ => ⟨bo, oo, rfl, fun j u hj => hrd _ _ (cellsV_take hj)⟩⟩
      have s2 : SlC R (.slice (some ⟨bo, oo + l.length / 2 * 2, none⟩) (l.length - l.length / 2) (cap - l.length / 2)) (l.drop (l.length / 2)) := ⟨_, _, by rw [hld], by omega, fun _ => ⟨bo, _, rfl, fun j u hj => by rw [Nat.add_assoc]; exact hrd _ _ (cellsV_drop (by omega) hj)⟩⟩
      have i1 := ih (l.take (l.length / 2)) (by omega) R _ s1 (by omega)
      have i2 := ih (l.drop (l.length / 2)) (by omega) R _ s2 (by omega)
      generalize srt (l.take (l.length / 2)) = A at hA i1 ⊢
      generalize srt (l.drop (l.length / 2)) = B at hB i2 ⊢
      (refine G.skip ?_; refine kthen_n ?_; refine G.seq ?_)
      refine G.drawT 14 14368 [] (R :: F) (by kernel_rfl) (keys_of rfl) (ImpS.sb Sb.r) ?_
      ((apply GR.step rfl; focus (intro Z; refine GO.move rfl rfl ?_; exact KQ.z)); (apply GR.step rfl; focus (intro Z; refine GO.move rfl rfl ?_; exact KQ.z)); (apply GR.step rfl; focus (intro Z; refine GO.lenS rfl rfl ?_; exact KQ.z)); (apply GR.step rfl; focus (intro Z; refine GO.quoi rfl rfl rfl (by omega) ?_; exact KQ.z)))
      apply GR.step rfl; focus (intro Z; refine GO.sliceHi (l := l.length / 2) rfl rfl rfl ⟨by omega, by omega⟩ ?_; exact KQ.z)
      (refine GR.skip rfl ?_; (apply GR.step rfl; focus (intro Z; refine GO.move rfl rfl ?_; exact KQ.z)); (apply GR.step rfl; focus (intro Z; refine GO.move rfl rfl ?_; exact KQ.z)); (apply GR.step rfl; focus (intro Z; refine GO.lenS rfl rfl ?_; exact KQ.z)); (apply GR.step rfl; focus (intro Z; refine GO.quoi rfl rfl rfl (by omega) ?_; exact KQ.z)))
      apply GR.step rfl; focus (intro Z; refine GO.sliceLo (l := l.length / 2) rfl rfl rfl ⟨by omega, by omega, by omega⟩ ?_; exact KQ.z)
      (refine GR.skip rfl ?_; refine GR.skip rfl ?_; refine GR.skip rfl ?_; refine GR.nil ?_)
      (repeat refine GT.skip rfl ?_)
      refine GT.step rfl ?_
      refine GO.call1 rfl rfl (i1) (Tks.c Tk.h Tks.n) ?_
      rintro v3 _ rfl
      refine GO.nil ⟨rfl, _, own 63 2 A.length v3 (cellsV A) :: R :: F, rfl, ImpS.sb (by ((refine Sb.c Tk.h ?_; refine Sb.c Tk.h ?_); (exact Sb.r))), ?_⟩
      (repeat refine GT.skip rfl ?_)
      refine GT.step rfl ?_
      refine GO.call1 rfl rfl (i2) (Tks.c (Tk.t Tk.h) Tks.n) ?_
      rintro v4 _ rfl
      refine GO.nil ⟨rfl, _, own 63 2 B.length v4 (cellsV B) :: own 63 2 A.length v3 (cellsV A) :: R :: F, rfl, ImpS.sb (by ((refine Sb.c Tk.h ?_; refine Sb.c (Tk.t Tk.h) ?_; refine Sb.c Tk.h ?_); (exact Sb.r))), ?_⟩
      refine GT.step rfl ?_
      refine GO.assign rfl rfl ?_
      refine GO.nil ⟨rfl, _, _, rfl, ImpS.refl, ?_⟩
      refine GT.step rfl ?_
      refine GO.assign rfl rfl ?_
      refine GO.nil ⟨rfl, _, _, rfl, ImpS.refl, ?_⟩
      refine GT.nil ?_
      refine GO.ownSl Tk.h fun sl4 => ?_
      refine GO.ownSl (Tk.t Tk.h) fun sl3 => ?_
      (refine GO.nil ?_; refine kthen_n ?_; refine G.seq ?_; refine G.region ?_; refine GO.move rfl rfl ?_; refine GO.move rfl rfl ?_)
      refine GO.merge (x := own 63 2 A.length v3 (cellsV A)) (y := own 63 2 B.length v4 (cellsV B)) (Tks.c (Tk.t Tk.h) (Tks.c Tk.h Tks.n)) ?_
      refine GO.call2 rfl rfl rfl (merge_spec (star [own 63 2 A.length v3 (cellsV A), own 63 2 B.length v4 (cellsV B)]) v3 v4 A B (Sl.sup (Sup.left _ _) sl3) (Sl.sup (Sup.right _ _) sl4) (by omega)) (Tks.c Tk.h Tks.n) ?_
      rintro _ _ ⟨v, rfl, rfl⟩
      (refine GO.move rfl rfl ?_; refine GO.extract rfl rfl rfl ?_; refine GO.extract rfl rfl rfl ?_; refine GO.assign rfl rfl ?_; refine GO.assign rfl rfl ?_; refine GO.nil ?_; refine kthen_n ?_; refine G.seq ?_; refine G.region ?_; refine GO.move rfl rfl ?_; refine GO.assign rfl rfl ?_; refine GO.nil ?_; refine kthen_n ?_; refine G.ret ?_)
      refine KF2.r1 rfl (RV.t rfl) rfl (ImpS.sb ?_)
      ((refine Sb.c Tk.h ?_; refine Sb.c (Tk.t Tk.h) ?_); (refine Sb.s ?_; exact Sb.r))
end Go.Proofs.YtpfcgfgkmgnaaaaDoor
namespace Go.Proofs.YtpfcgfgkmgnaaaaDoor
open Go
theorem ltC_iff (p r : Cl) : ltC p r = true ↔ p.1 < r.1 ∨ (p.1 = r.1 ∧ p.2 < r.2) := by
  unfold ltC
  simp only [Bool.or_eq_true, Bool.and_eq_true, decide_eq_true_eq]
theorem ltC_trans {a b c : Cl} (h1 : ltC a b = true) (h2 : ltC b c = true) : ltC a c = true := by rw [ltC_iff] at *; omega
theorem ltC_asymm {a b : Cl} (h : ltC a b = true) : ¬ ltC b a = true := by rw [ltC_iff] at *; omega
theorem ltC_irr (a : Cl) : ¬ ltC a a = true := by rw [ltC_iff]; omega
theorem ltC_tri {a b : Cl} (h : ltC a b = false) (e : a ≠ b) : ltC b a = true := by
  have h1 : ¬ ltC a b = true := by rw [h]; simp
  rw [ltC_iff] at *
  have : ¬ (a.1 = b.1 ∧ a.2 = b.2) := fun h => e (Prod.ext h.1 h.2)
  omega
/-- Rising, each once. -/
def Up (l : List Cl) : Prop := l.Pairwise fun a b => ltC a b = true
theorem mrg_mem : ∀ (n : Nat) (xs ys : List Cl), xs.length + ys.length ≤ n → ∀ p, p ∈ mrg xs ys ↔ p ∈ xs ∨ p ∈ ys
  | _, [], ys, _, p => by rw [mrg_nil']; simp
  | _, x :: xs, [], _, p => by rw [mrg_nil]; simp
  | 0, x :: xs, y :: ys, h, p => by simp at h
  | n + 1, x :: xs, y :: ys, h, p => by
    simp only [List.length_cons] at h
    cases hl : ltC x y with
    | true =>
      have ih := mrg_mem n xs (y :: ys) (by simp only [List.length_cons]; omega) p
      rw [mrg_lt hl, List.mem_cons, ih, List.mem_cons, List.mem_cons]
      exact ⟨fun h => by rcases h with h | h | h | h <;> simp [h], fun h => by rcases h with (h | h) | h | h <;> simp [h]⟩
    | false =>
      by_cases e : x = y
      · have ih := mrg_mem n xs ys (by omega) p
        rw [mrg_eq hl e, List.mem_cons, ih, List.mem_cons, List.mem_cons, e]
        exact ⟨fun h => by rcases h with h | h | h <;> simp [h], fun h => by rcases h with (h | h) | h | h <;> simp [h]⟩
      · have ih := mrg_mem n (x :: xs) ys (by simp only [List.length_cons]; omega) p
        rw [mrg_gt hl e, List.mem_cons, ih, List.mem_cons, List.mem_cons]
        exact ⟨fun h => by rcases h with h | (h | h) | h <;> simp [h], fun h => by rcases h with (h | h) | h | h <;> simp [h]⟩
theorem mrg_up : ∀ (n : Nat) (xs ys : List Cl), xs.length + ys.length ≤ n → Up xs → Up ys → Up (mrg xs ys)
  | _, [], ys, _, _, hy => by rw [mrg_nil']; exact hy
  | _, x :: xs, [], _, hx, _ => by rw [mrg_nil]; exact hx
  | 0, x :: xs, y :: ys, h, _, _ => by simp at h
  | n + 1, x :: xs, y :: ys, h, hx, hy => by
    simp only [List.length_cons] at h
    have hx' := List.pairwise_cons.1 hx
    have hy' := List.pairwise_cons.1 hy
    cases hl : ltC x y with
    | true =>
      rw [mrg_lt hl]
      refine List.pairwise_cons.2 ⟨fun p hp => ?_, mrg_up n xs (y :: ys) (by simp only [List.length_cons]; omega) hx'.2 hy⟩
      rcases (mrg_mem _ _ _ (Nat.le_refl _) p).1 hp with h | h
      · exact hx'.1 p h
      · rcases List.mem_cons.1 h with rfl | h
        · exact hl
        · exact ltC_trans hl (hy'.1 p h)
    | false =>
      by_cases e : x = y
      · subst e
        rw [mrg_eq hl rfl]
        refine List.pairwise_cons.2 ⟨fun p hp => ?_, mrg_up n xs ys (by omega) hx'.2 hy'.2⟩
        rcases (mrg_mem _ _ _ (Nat.le_refl _) p).1 hp with h | h
        · exact hx'.1 p h
        · exact hy'.1 p h
      · have hg := ltC_tri hl e
        rw [mrg_gt hl e]
        refine List.pairwise_cons.2 ⟨fun p hp => ?_, mrg_up n (x :: xs) ys (by simp only [List.length_cons]; omega) hx hy'.2⟩
        rcases (mrg_mem _ _ _ (Nat.le_refl _) p).1 hp with h | h
        · rcases List.mem_cons.1 h with rfl | h
          · exact hg
          · exact ltC_trans hg (hx'.1 p h)
        · exact hy'.1 p h
theorem srt_mem : ∀ (n : Nat) (l : List Cl), l.length ≤ n → ∀ p, p ∈ srt l ↔ p ∈ l
  | 0, l, h, p => by rw [srt_small (by omega)]
  | n + 1, l, h, p => by
    by_cases h2 : l.length < 2
    · rw [srt_small h2]
    · rw [srt_big h2, mrg_mem _ _ _ (Nat.le_refl _), srt_mem n (l.take (l.length / 2)) (by rw [List.length_take]; omega), srt_mem n (l.drop (l.length / 2)) (by rw [List.length_drop]; omega), ← List.mem_append, List.take_append_drop]
theorem srt_up : ∀ (n : Nat) (l : List Cl), l.length ≤ n → Up (srt l)
  | 0, l, h => by
    obtain rfl : l = [] := List.eq_nil_of_length_eq_zero (by omega)
    rw [srt_small (by simp)]; exact List.Pairwise.nil
  | n + 1, l, h => by
    by_cases h2 : l.length < 2
    · rw [srt_small h2]
      match l, h2 with
      | [], _ => exact List.Pairwise.nil
      | [x], _ => exact List.pairwise_singleton _ _
    · rw [srt_big h2]
      exact mrg_up _ _ _ (Nat.le_refl _) (srt_up n _ (by rw [List.length_take]; omega)) (srt_up n _ (by rw [List.length_drop]; omega))
theorem up_unique {l m : List Cl} (hl : Up l) (hm : Up m) (h : ∀ p, p ∈ l ↔ p ∈ m) : l = m := strict_unique (R := fun a b => ltC a b = true) (fun _ _ h => ltC_asymm h) hl hm h
theorem cells_up (X : Nat → Nat → Bool) : Up (castL (cellsX X)) := by
  unfold Up castL cellsX restX
  rw [List.map_map, List.pairwise_map]
  refine List.Pairwise.imp ?_ (List.Pairwise.filter _ (List.pairwise_lt_range' (s := 0) (n := 1048576 - 0) 1))
  intro a b hab
  rw [ltC_iff]
  show ((a / 1024 : Nat) : Int) < ((b / 1024 : Nat) : Int) ∨ (((a / 1024 : Nat) : Int) = ((b / 1024 : Nat) : Int) ∧ ((a % 1024 : Nat) : Int) < ((b % 1024 : Nat) : Int))
  omega
theorem cast_mem {s : Nat} {X : Nat → Nat → Bool} (hs : s ≤ 1024) (hx : ∀ r c, X r c = true → r < s ∧ c < s) (p : Cl) : p ∈ castL (cellsX X) ↔ 0 ≤ p.1 ∧ 0 ≤ p.2 ∧ X p.1.toNat p.2.toNat = true := by
  unfold castL
  rw [List.mem_map]
  constructor
  · rintro ⟨u, hu, rfl⟩
    refine ⟨by dsimp only; omega, by dsimp only; omega, ?_⟩
    show X ((u.1 : Int)).toNat ((u.2 : Int)).toNat = true
    rw [Int.toNat_natCast, Int.toNat_natCast]
    exact cellsX_true hu
  · rintro ⟨h1, h2, h3⟩
    refine ⟨(p.1.toNat, p.2.toNat), cellsX_pos hs hx h3, Prod.ext ?_ ?_⟩
    · show ((p.1.toNat : Nat) : Int) = p.1; omega
    · show ((p.2.toNat : Nat) : Int) = p.2; omega
theorem setL_mem {s : Nat} (r c : Nat) : ∀ (l : List Cl) (Y : Nat → Nat → Bool), inL s l = true → (setL Y l r c = true ↔ Y r c = true ∨ ((r : Int), (c : Int)) ∈ l)
  | [], Y, _ => by simp [setL]
  | p :: l, Y, h => by
    have hp : inM s p.1 p.2 = true ∧ inL s l = true := by unfold inL at h ⊢; simpa using h
    obtain ⟨m, n, e1, e2, _, _⟩ := inM_at hp.1
    show setL (addX Y p.1.toNat p.2.toNat) l r c = true ↔ _
    rw [setL_mem r c l _ hp.2, List.mem_cons]
    have ea : (addX Y p.1.toNat p.2.toNat r c = true) ↔ (Y r c = true ∨ ((r : Int), (c : Int)) = p) := by
      unfold addX
      rw [Bool.or_eq_true, Bool.and_eq_true, decide_eq_true_iff, decide_eq_true_iff]
      refine or_congr Iff.rfl ⟨fun h => Prod.ext ?_ ?_, fun h => ?_⟩
      · show (r : Int) = p.1; omega
      · show (c : Int) = p.2; omega
      · have h1 : (r : Int) = p.1 := congrArg Prod.fst h
        have h2 : (c : Int) = p.2 := congrArg Prod.snd h
        omega
    rw [ea, or_assoc]
/-- The reference's list is the matrix's. -/
theorem srt_cells {s : Nat} {l : List Cl} (hs : s ≤ 1024) (h : inL s l = true) : srt l = castL (cellsX (setL noX l)) := by
  have hall : ∀ p, p ∈ l → ∃ m n : Nat, p.1 = m ∧ p.2 = n ∧ m < s ∧ n < s := fun p hp => inM_at ((List.all_eq_true.1 h) p hp)
  have hm := fun r c => setL_mem (s := s) r c l noX h
  have hx : ∀ r c, setL noX l r c = true → r < s ∧ c < s := fun r c hx => by
    rcases (hm r c).1 hx with h0 | h0
    · cases h0
    · obtain ⟨m, n, e1, e2, h1, h2⟩ := hall _ h0
      have e1 : (r : Int) = m := e1
      have e2 : (c : Int) = n := e2
      omega
  refine up_unique (srt_up _ _ (Nat.le_refl _)) (cells_up _) fun p => ?_
  rw [srt_mem _ _ (Nat.le_refl _), cast_mem hs hx]
  constructor
  · intro hp
    obtain ⟨m, n, e1, e2, _, _⟩ := hall p hp
    refine ⟨by omega, by omega, (hm _ _).2 (.inr ?_)⟩
    rw [show (((p.1.toNat : Nat) : Int), ((p.2.toNat : Nat) : Int)) = p from Prod.ext (by show ((p.1.toNat : Nat) : Int) = p.1; omega) (by show ((p.2.toNat : Nat) : Int) = p.2; omega)]
    exact hp
  · rintro ⟨h1, h2, h3⟩
    rcases (hm _ _).1 h3 with h0 | h0
    · cases h0
    · rwa [show (((p.1.toNat : Nat) : Int), ((p.2.toNat : Nat) : Int)) = p from Prod.ext (by show ((p.1.toNat : Nat) : Int) = p.1; omega) (by show ((p.2.toNat : Nat) : Int) = p.2; omega)] at h0
end Go.Proofs.YtpfcgfgkmgnaaaaDoor
namespace Go.Proofs.YtpfcgfgkmgnaaaaDoor
open Go
abbrev refV (s : Int) (v : Value) : Value := .agg #[i64 s, v]
theorem built_ref (s : Int) : Tryd.prog.built 28 [(0, i64 s)] = some [i64 s, .slice none 0 0].toArray := by kernel_rfl
def inS (s : Int) (i : Int) : Bool := decide (0 ≤ i) && decide (i < s)
def refOk (s : Int) : Bool := !(decide (s < 1) || decide (1024 < s))
theorem refOk_t {s : Int} (h : refOk s = true) : 1 ≤ s ∧ s ≤ 1024 := by
  unfold refOk at h
  simp at h
  omega
theorem refOk_f {s : Int} (h : refOk s = false) : ¬ (1 ≤ s ∧ s ≤ 1024) := by
  unfold refOk at h
  simp at h
  omega
attribute [local irreducible] G GO GR GT GQ Fn FnV pt init exs pur sat own ImpS cellsV
set_option maxRecDepth 40000 in
theorem refIn_spec (s i : Int) (v : Value) (hv : v.oneCell' = true) : Fn Tryd.prog 73 #[refV s v, i64 i] [] (fun r Q => r = .bool (inS s i) ∧ Q = []) := by
  refine Fn.mk2 Tryd.func73 rfl rfl fun w0 F => ?_
  unfold inS
  (refine G.seq ?_; refine G.region ?_; refine GO.box rfl rfl rfl fun b2 => ?_; refine GO.assign rfl rfl ?_; refine GO.nil ?_; refine kthen_n ?_; refine G.seq ?_; refine G.region ?_; refine GO.move rfl rfl ?_; refine GO.gei rfl rfl rfl ?_; refine GO.move rfl rfl ?_)
  cases h1 : decide (0 ≤ i) with
  | true =>
    (refine GO.gT rfl rfl rfl ?_; refine GO.move rfl rfl ?_; refine GO.gT rfl rfl rfl ?_; refine GO.fieldAddr rfl rfl ?_; refine GO.gT rfl rfl rfl ?_; refine GO.load1 rfl rfl rfl Tk.h rfl ?_; refine GO.gT rfl rfl rfl ?_; refine GO.lti rfl rfl rfl ?_; refine GO.pickT rfl rfl rfl ?_; refine GO.assign rfl rfl ?_; refine GO.nil ?_; refine kthen_n ?_; refine G.ret ?_)
    refine KF2.r1 rfl (RV.t rfl) ⟨by rw [Bool.true_and], rfl⟩ (ImpS.sb ?_)
    (skip; (refine Sb.s ?_; exact Sb.r))
  | false =>
    (refine GO.gF rfl rfl rfl rfl ?_; refine GO.gF rfl rfl rfl rfl ?_; refine GO.gF rfl rfl rfl rfl ?_; refine GO.gF rfl rfl rfl rfl ?_; refine GO.pickF rfl rfl rfl ?_; refine GO.assign rfl rfl ?_; refine GO.nil ?_; refine kthen_n ?_; refine G.ret ?_)
    refine KF2.r1 rfl (RV.t rfl) ⟨by rw [Bool.false_and], rfl⟩ (ImpS.sb ?_)
    (skip; (refine Sb.s ?_; exact Sb.r))
set_option maxRecDepth 40000 in
theorem refNew_spec (s : Int) : Fn Tryd.prog 42 #[i64 s] [] (fun r Q => r = (if refOk s then .tuple #[refV s (.slice none 0 0), i64 0] else .tuple #[refV 0 (.slice none 0 0), i64 2]) ∧ Q = []) := by
  refine Fn.mk2 Tryd.func42 rfl rfl fun w0 F => ?_
  unfold refOk
  (refine G.seq ?_; refine G.region ?_; refine GO.alloc rfl fun b2 => ?_; refine GO.assign rfl rfl ?_; refine GO.nil ?_; refine kthen_n ?_; refine G.seq ?_; refine G.seq ?_; refine G.region ?_; refine GO.move rfl rfl ?_; refine GO.lti rfl rfl rfl ?_; refine GO.move rfl rfl ?_)
  by_cases a : s < 1
  · rw [show decide (s < 1) = true from decide_eq_true a]
    (refine GO.gF rfl rfl rfl rfl ?_; refine GO.gF rfl rfl rfl rfl ?_; refine GO.pickT rfl rfl rfl ?_; refine GO.nil ?_; refine kthen_n ?_; refine G.condT rfl rfl ?_; refine G.seq ?_; refine G.region ?_; refine GO.build0 rfl ?_; refine GO.storeW rfl rfl Tk.h ⟨rfl, rfl⟩ (by simp [Value.oneCell']) ?_; refine GO.assign rfl rfl ?_; refine GO.nil ?_; refine kthen_n ?_; refine G.ret ?_; refine kthen_r ?_)
    refine KF2.r2 rfl (RV.cW (n := 2) rfl rfl (by (exact Tk.h)) rfl) (RV.t rfl) ⟨rfl, rfl⟩ (ImpS.sb ?_)
    (skip; (refine Sb.s ?_; exact Sb.r))
  · rw [show decide (s < 1) = false from decide_eq_false a]
    (refine GO.gT rfl rfl rfl ?_; refine GO.move rfl rfl ?_; refine GO.gT rfl rfl rfl ?_; refine GO.gti rfl rfl rfl ?_; refine GO.pickF rfl rfl rfl ?_; refine GO.nil ?_; refine kthen_n ?_)
    by_cases b : 1024 < s
    · rw [show decide (1024 < s) = true from decide_eq_true b]
      (refine G.condT rfl rfl ?_; refine G.seq ?_; refine G.region ?_; refine GO.build0 rfl ?_; refine GO.storeW rfl rfl Tk.h ⟨rfl, rfl⟩ (by simp [Value.oneCell']) ?_; refine GO.assign rfl rfl ?_; refine GO.nil ?_; refine kthen_n ?_; refine G.ret ?_; refine kthen_r ?_)
      refine KF2.r2 rfl (RV.cW (n := 2) rfl rfl (by (exact Tk.h)) rfl) (RV.t rfl) ⟨rfl, rfl⟩ (ImpS.sb ?_)
      (skip; (refine Sb.s ?_; exact Sb.r))
    · rw [show decide (1024 < s) = false from decide_eq_false b]
      (refine G.condF rfl rfl ?_; refine G.skip ?_; refine kthen_n ?_; refine G.seq ?_; refine G.region ?_; refine GO.move rfl rfl ?_)
      refine GO.buildPart1 (built_ref s) rfl rfl ?_
      (refine GO.storeW rfl rfl Tk.h ⟨rfl, rfl⟩ (by simp [Value.oneCell']) ?_; refine GO.assign rfl rfl ?_; refine GO.nil ?_; refine kthen_n ?_; refine G.ret ?_)
      refine KF2.r2 rfl (RV.cW (n := 2) rfl rfl (by (exact Tk.h)) rfl) (RV.t rfl) ⟨rfl, rfl⟩ (ImpS.sb ?_)
      (skip; (refine Sb.s ?_; exact Sb.r))
theorem inM_inS (n : Nat) (a b : Int) : inM n a b = (inS n a && inS n b) := by
  unfold inM inS
  rw [Bool.decide_and, Bool.decide_and]
def refOfR (s : Int) (l : List Cl) (R : HP) (r : Value) (Q : List HP) : Prop :=
  (∃ n : Nat, s = n ∧ 1 ≤ n ∧ n ≤ 1024 ∧ inL n l = true ∧ ∃ v, r = .tuple #[refV n v, i64 0] ∧ Q = [own 63 2 (srt l).length v (cellsV (srt l)), R]) ∨
  (¬ (1 ≤ s ∧ s ≤ 1024 ∧ inL s.toNat l = true) ∧ r = .tuple #[refV 0 (.slice none 0 0), i64 2] ∧ Q = [R])
set_option maxHeartbeats 4000000 in
set_option maxRecDepth 40000 in
theorem refOf_spec (s : Int) (R : HP) (v : Value) (l : List Cl) (hv : SlC R v l) (hb : l.length * 16 ≤ 140737488355328) : Fn Tryd.prog 40 #[i64 s, v] [R] (refOfR s l R) := by
  have hv2 := hv
  obtain ⟨a, cap, rfl, hc, hr⟩ := hv
  refine Fn.mk2 Tryd.func40 rfl rfl fun w0 F => ?_
  (refine G.seq ?_; refine G.region ?_; refine GO.alloc rfl fun b4 => ?_; refine GO.assign rfl rfl ?_; refine GO.nil ?_; refine kthen_n ?_; refine G.seq ?_; refine G.region ?_; refine GO.move rfl rfl ?_)
  refine GO.call1 rfl rfl (refNew_spec s) Tks.n ?_
  rintro _ _ ⟨rfl, rfl⟩
  cases hok : refOk s with
  | false =>
    rw [if_neg (by simp)]
    (refine GO.move rfl rfl ?_; refine GO.extract rfl rfl rfl ?_; refine GO.extract rfl rfl rfl ?_; refine GO.alloc rfl fun b6 => ?_; refine GO.storeW rfl rfl Tk.h ⟨rfl, rfl⟩ (by simp [Value.oneCell']) ?_; refine GO.assign rfl rfl ?_; refine GO.nil ?_; refine kthen_n ?_; refine G.seq ?_; refine G.seq ?_; refine G.region ?_; refine GO.move rfl rfl ?_; refine GO.nei rfl rfl rfl ?_; refine GO.nil ?_; refine kthen_n ?_; refine G.condT rfl rfl ?_; refine G.seq ?_; refine G.region ?_; refine GO.build0 rfl ?_; refine GO.move rfl rfl ?_; refine GO.storeW rfl rfl (Tk.t Tk.h) ⟨rfl, rfl⟩ (by simp [Value.oneCell']) ?_; refine GO.assign rfl rfl ?_; refine GO.nil ?_; refine kthen_n ?_; refine G.ret ?_; refine kthen_r ?_)
    refine KF2.r2 rfl (RV.cW (n := 2) rfl rfl (by (exact Tk.h)) rfl) (RV.t rfl) (.inr ⟨fun h => refOk_f hok ⟨h.1, h.2.1⟩, rfl, rfl⟩) (ImpS.sb ?_)
    ((refine Sb.c (Tk.t (Tk.t Tk.h)) ?_); (refine Sb.s ?_; refine Sb.s ?_; exact Sb.r))
  | true =>
    rw [if_pos rfl]
    obtain ⟨n, rfl⟩ := Int.eq_ofNat_of_zero_le (show 0 ≤ s by have := refOk_t hok; omega)
    have hn := refOk_t hok
    clear hok
    (refine GO.move rfl rfl ?_; refine GO.extract rfl rfl rfl ?_; refine GO.extract rfl rfl rfl ?_; refine GO.alloc rfl fun b6 => ?_; refine GO.storeW rfl rfl Tk.h ⟨rfl, rfl⟩ (by simp [Value.oneCell']) ?_; refine GO.assign rfl rfl ?_; refine GO.nil ?_; refine kthen_n ?_; refine G.seq ?_; refine G.seq ?_; refine G.region ?_; refine GO.move rfl rfl ?_; refine GO.neF rfl rfl rfl rfl ?_; refine GO.nil ?_; refine kthen_n ?_; refine G.condF rfl rfl ?_; refine G.skip ?_; refine kthen_n ?_; refine G.seq ?_; refine G.seq ?_; refine G.region ?_; refine GO.assign rfl rfl ?_; refine GO.nil ?_; refine kthen_n ?_; refine G.block ?_)
    refine G.loop (fun k : Nat => [(1, .slice a l.length cap), (4, .pointer (some ⟨b4, 0, none⟩)), (6, .pointer (some ⟨b6, 0, none⟩)), (8, i64 k)])
      (fun k => pt b4 (row [i64 0, .slice none 0 0] 28) :: pt b6 (row [i64 (n : Nat), .slice none 0 0] 28) :: R :: F) (fun k => k ≤ l.length ∧ inL n (l.take k) = true) (fun k => l.length - k) 0 ⟨by omega, by simp [inL]⟩ ?_ ?_ ?_
    · (refine SubE.c rfl rfl ?_; refine SubE.c rfl rfl ?_; refine SubE.c rfl rfl ?_; refine SubE.c rfl rfl ?_; exact SubE.n)
    · ((refine Sb.c (Tk.t Tk.h) ?_; refine Sb.c Tk.h ?_; refine Sb.c Tk.h ?_); (exact Sb.r))
    rintro k ⟨hk, hall⟩
    (refine G.seq ?_; refine G.seq ?_; refine G.region ?_; refine GO.move rfl rfl ?_; refine GO.move rfl rfl ?_; refine GO.lenS rfl rfl ?_; refine GO.lti rfl rfl rfl ?_; refine GO.nil ?_; refine kthen_n ?_)
    refine G.condD rfl (fun hlt => ?_) (fun hge => ?_)
    · have hlt' : k < l.length := by omega
      obtain ⟨b', o, rfl, hrd⟩ := hr (by omega)
      obtain ⟨p, hp⟩ : ∃ p, l[k]? = some p := ⟨l[k], by simp [hlt']⟩
      have r1 : Rd R ⟨b', o + k * 2, none⟩ (i64 p.1) := hrd _ _ (cellsV_get hp).1
      have r2 : Rd R ⟨b', o + k * 2 + 1, none⟩ (i64 p.2) := hrd _ _ (cellsV_get hp).2
      (refine G.skip ?_; refine kthen_n ?_; refine G.seq ?_; refine G.block ?_; refine G.seq ?_)
      refine G.draw 18 (by kernel_rfl) ?_
      ((apply GQ.step; focus (intro Z; refine GO.loadW rfl rfl rfl (Tk.t Tk.h) rfl ?_; exact KQ.z)); (apply GQ.step; focus (intro Z; refine GO.move rfl rfl ?_; exact KQ.z)); (apply GQ.step; focus (intro Z; refine GO.move rfl rfl ?_; exact KQ.z)); (apply GQ.step; focus (intro Z; refine GO.idxS rfl rfl rfl ⟨rfl, by omega⟩ ?_; exact KQ.z)); (apply GQ.step; focus (intro Z; refine GO.fieldAddr rfl rfl ?_; exact KQ.z)); (apply GQ.step; focus (intro Z; refine GO.loadQ rfl rfl rfl (Tk.t (Tk.t Tk.h)) (by assumption) ?_; exact KQ.z)))
      apply GQ.step; focus (intro Z; refine GO.call2 rfl rfl rfl (refIn_spec (n : Int) p.1 (.slice none 0 0) rfl) Tks.n ?_; rintro _ _ ⟨rfl, rfl⟩; exact KQ.z)
      cases h1 : inS n p.1 with
      | false =>
        ((apply GQ.step; focus (intro Z; refine GO.not rfl rfl ?_; exact KQ.z)); (apply GQ.step; focus (intro Z; refine GO.move rfl rfl ?_; exact KQ.z)); (apply GQ.step; focus (intro Z; refine GO.gF rfl rfl rfl rfl ?_; exact KQ.z)); (apply GQ.step; focus (intro Z; refine GO.gF rfl rfl rfl rfl ?_; exact KQ.z)); (apply GQ.step; focus (intro Z; refine GO.gF rfl rfl rfl rfl ?_; exact KQ.z)); (apply GQ.step; focus (intro Z; refine GO.gF rfl rfl rfl rfl ?_; exact KQ.z)); (apply GQ.step; focus (intro Z; refine GO.gF rfl rfl rfl rfl ?_; exact KQ.z)); (apply GQ.step; focus (intro Z; refine GO.gF rfl rfl rfl rfl ?_; exact KQ.z)); (apply GQ.step; focus (intro Z; refine GO.gF rfl rfl rfl rfl ?_; exact KQ.z)); (apply GQ.step; focus (intro Z; refine GO.gF rfl rfl rfl rfl ?_; exact KQ.z)); (apply GQ.step; focus (intro Z; refine GO.pickT rfl rfl rfl ?_; exact KQ.z)); refine GQ.nil ?_)
        (refine GO.nil ?_; refine kthen_n ?_; refine G.condT rfl rfl ?_; refine G.seq ?_; refine G.region ?_; refine GO.build0 rfl ?_; refine GO.storeW rfl rfl Tk.h ⟨rfl, rfl⟩ (by simp [Value.oneCell']) ?_; refine GO.assign rfl rfl ?_; refine GO.nil ?_; refine kthen_n ?_; refine G.ret ?_; refine kblock_r ?_; refine kthen_r ?_; refine kthen_r ?_; refine kblock_r ?_; refine kthen_r ?_)
        refine KF2.r2 rfl (RV.cW (n := 2) rfl rfl (by (exact Tk.h)) rfl) (RV.t rfl) (.inr ⟨fun h => ?_, rfl, rfl⟩) (ImpS.sb ?_)
        · have h3 := h.2.2
          rw [Int.toNat_natCast, inL_not hp (by rw [inM_inS, h1]; rfl)] at h3
          cases h3
        · ((refine Sb.c (Tk.t (Tk.t Tk.h)) ?_); (refine Sb.s ?_; refine Sb.s ?_; exact Sb.r))
      | true =>
        ((apply GQ.step; focus (intro Z; refine GO.not rfl rfl ?_; exact KQ.z)); (apply GQ.step; focus (intro Z; refine GO.move rfl rfl ?_; exact KQ.z)); (apply GQ.step; focus (intro Z; refine GO.gT rfl rfl rfl ?_; refine GO.loadW rfl rfl rfl (Tk.t Tk.h) rfl ?_; exact KQ.z)); (apply GQ.step; focus (intro Z; refine GO.gT rfl rfl rfl ?_; refine GO.move rfl rfl ?_; exact KQ.z)); (apply GQ.step; focus (intro Z; refine GO.gT rfl rfl rfl ?_; refine GO.move rfl rfl ?_; exact KQ.z)); (apply GQ.step; focus (intro Z; refine GO.gT rfl rfl rfl ?_; refine GO.idxS rfl rfl rfl ⟨rfl, by omega⟩ ?_; exact KQ.z)); (apply GQ.step; focus (intro Z; refine GO.gT rfl rfl rfl ?_; refine GO.fieldAddr rfl rfl ?_; exact KQ.z)); (apply GQ.step; focus (intro Z; refine GO.gT rfl rfl rfl ?_; refine GO.loadQ rfl rfl rfl (Tk.t (Tk.t Tk.h)) (by assumption) ?_; exact KQ.z)))
        apply GQ.step; focus (intro Z; refine GO.gT rfl rfl rfl ?_; refine GO.call2 rfl rfl rfl (refIn_spec (n : Int) p.2 (.slice none 0 0) rfl) Tks.n ?_; rintro _ _ ⟨rfl, rfl⟩; exact KQ.z)
        cases h2 : inS n p.2 with
        | false =>
          ((apply GQ.step; focus (intro Z; refine GO.gT rfl rfl rfl ?_; refine GO.not rfl rfl ?_; exact KQ.z)); (apply GQ.step; focus (intro Z; refine GO.pickF rfl rfl rfl ?_; exact KQ.z)); refine GQ.nil ?_)
          (refine GO.nil ?_; refine kthen_n ?_; refine G.condT rfl rfl ?_; refine G.seq ?_; refine G.region ?_; refine GO.build0 rfl ?_; refine GO.storeW rfl rfl Tk.h ⟨rfl, rfl⟩ (by simp [Value.oneCell']) ?_; refine GO.assign rfl rfl ?_; refine GO.nil ?_; refine kthen_n ?_; refine G.ret ?_; refine kblock_r ?_; refine kthen_r ?_; refine kthen_r ?_; refine kblock_r ?_; refine kthen_r ?_)
          refine KF2.r2 rfl (RV.cW (n := 2) rfl rfl (by (exact Tk.h)) rfl) (RV.t rfl) (.inr ⟨fun h => ?_, rfl, rfl⟩) (ImpS.sb ?_)
          · have h3 := h.2.2
            rw [Int.toNat_natCast, inL_not hp (by rw [inM_inS, h2]; exact Bool.and_false _)] at h3
            cases h3
          · ((refine Sb.c (Tk.t (Tk.t Tk.h)) ?_); (refine Sb.s ?_; refine Sb.s ?_; exact Sb.r))
        | true =>
          ((apply GQ.step; focus (intro Z; refine GO.gT rfl rfl rfl ?_; refine GO.not rfl rfl ?_; exact KQ.z)); (apply GQ.step; focus (intro Z; refine GO.pickF rfl rfl rfl ?_; exact KQ.z)); refine GQ.nil ?_)
          (refine GO.nil ?_; refine kthen_n ?_; refine G.condF rfl rfl ?_; refine G.skip ?_; refine kblock_n ?_; refine kthen_n ?_; refine G.region ?_; refine GO.move rfl rfl ?_; refine GO.addi rfl rfl rfl (by omega) ?_; refine GO.assign rfl rfl ?_; refine GO.nil ?_; refine kthen_n ?_)
          refine ⟨k + 1, ⟨by omega, inL_succ hp hall (by rw [inM_inS, h1, h2]; rfl)⟩, by omega, ?_, ?_⟩
          · (refine SubE.c rfl rfl ?_; refine SubE.c rfl rfl ?_; refine SubE.c rfl rfl ?_; refine SubE.c rfl rfl ?_; exact SubE.n)
          · ((refine Sb.c Tk.h ?_; refine Sb.c Tk.h ?_; refine Sb.c Tk.h ?_); (exact Sb.r))
    · obtain rfl : k = l.length := by omega
      rw [List.take_length] at hall
      (refine G.exit ?_; refine kthen_x ?_; refine kthen_x ?_; refine kblock_x ?_; refine kthen_n ?_; refine G.seq ?_; refine G.region ?_; refine GO.move rfl rfl ?_)
      refine GO.call1 rfl rfl (sorted_spec _ l (Nat.le_refl _) R (.slice a l.length cap) hv2 hb) (Tks.c (Tk.t (Tk.t Tk.h)) Tks.n) ?_
      rintro v2 _ rfl
      refine GO.ownOne Tk.h fun hone => ?_
      (refine GO.fieldAddr rfl rfl ?_; refine GO.store1 rfl rfl (by assumption) (Tk.t (Tk.t (Tk.t Tk.h))) (by simp) ?_; refine GO.nil ?_; refine kthen_n ?_; refine G.seq ?_; refine G.region ?_; refine GO.loadW rfl rfl rfl Tk.h rfl ?_; refine GO.storeW rfl rfl (Tk.t (Tk.t (Tk.t Tk.h))) ⟨rfl, rfl⟩ (by simp [Value.oneCell']; assumption) ?_; refine GO.assign rfl rfl ?_; refine GO.nil ?_; refine kthen_n ?_; refine G.ret ?_)
      refine KF2.r2 rfl (RV.cW (n := 2) rfl rfl (by (exact Tk.h)) rfl) (RV.t rfl) (.inl ⟨n, rfl, by omega, by omega, hall, v2, rfl, rfl⟩) (ImpS.sb ?_)
      ((refine Sb.c (Tk.t (Tk.t Tk.h)) ?_; refine Sb.c (Tk.t (Tk.t Tk.h)) ?_); (refine Sb.s ?_; refine Sb.s ?_; exact Sb.r))
end Go.Proofs.YtpfcgfgkmgnaaaaDoor
namespace Go.Proofs.YtpfcgfgkmgnaaaaDoor
open Go
/-- N slices of our own: the i-th is vs i, of ln i elements, its cells xs i. -/
def fam (T : TypeId) (sz N : Nat) (vs : Nat → Value) (ln : Nat → Nat) (xs : Nat → List Value) : HP := star ((List.range N).map fun i => own T sz (ln i) (vs i) (xs i))
/-- .. without the i-th. -/
def famW (T : TypeId) (sz N : Nat) (vs : Nat → Value) (ln : Nat → Nat) (xs : Nat → List Value) (i : Nat) : HP := star (((List.range N).erase i).map fun i => own T sz (ln i) (vs i) (xs i))
attribute [local irreducible] own
theorem fam_perm {T : TypeId} {sz N : Nat} {vs : Nat → Value} {ln : Nat → Nat} {xs : Nat → List Value} {i : Nat} (hi : i < N) :
    ((List.range N).map fun i => own T sz (ln i) (vs i) (xs i)).Perm (own T sz (ln i) (vs i) (xs i) :: ((List.range N).erase i).map fun i => own T sz (ln i) (vs i) (xs i)) := by
  have := (List.perm_cons_erase (List.mem_range.2 hi)).map fun i => own T sz (ln i) (vs i) (xs i)
  simpa using this
theorem fam_out {T : TypeId} {sz N : Nat} {vs : Nat → Value} {ln : Nat → Nat} {xs : Nat → List Value} {i : Nat} {H F : List HP} (hi : i < N) (tk : Tk (fam T sz N vs ln xs) H F) :
    ImpS H (own T sz (ln i) (vs i) (xs i) :: famW T sz N vs ln xs i :: F) := fun l w s => by
  have s1 : sat (fam T sz N vs ln xs :: (F ++ l)) w := sat_perm (List.Perm.append_right l tk) s
  have s2 := sat_flat.1 s1
  have s3 : sat (own T sz (ln i) (vs i) (xs i) :: ((((List.range N).erase i).map fun i => own T sz (ln i) (vs i) (xs i)) ++ (F ++ l))) w := sat_perm ((fam_perm (T := T) (sz := sz) (vs := vs) (ln := ln) (xs := xs) hi).append_right _) s2
  have s4 : sat ((((List.range N).erase i).map fun i => own T sz (ln i) (vs i) (xs i)) ++ (own T sz (ln i) (vs i) (xs i) :: (F ++ l))) w := sat_perm List.perm_middle.symm s3
  have s5 : sat (famW T sz N vs ln xs i :: own T sz (ln i) (vs i) (xs i) :: (F ++ l)) w := sat_flat.2 s4
  exact sat_perm (List.Perm.swap _ _ _) s5
theorem fam_in {T : TypeId} {sz N : Nat} {vs vs' : Nat → Value} {ln ln' : Nat → Nat} {xs xs' : Nat → List Value} {i : Nat} {H F : List HP} (hi : i < N) (he : ∀ j, j ≠ i → vs' j = vs j ∧ ln' j = ln j ∧ xs' j = xs j)
    (h : ImpS H (own T sz (ln' i) (vs' i) (xs' i) :: famW T sz N vs ln xs i :: F)) : ImpS H (fam T sz N vs' ln' xs' :: F) := fun l w s => by
  have s5 := sat_perm (List.Perm.swap _ _ _) (h l w s)
  have s4 := sat_flat.1 s5
  have e : (((List.range N).erase i).map fun i => own T sz (ln i) (vs i) (xs i)) = (((List.range N).erase i).map fun i => own T sz (ln' i) (vs' i) (xs' i)) := by
    refine List.map_congr_left fun j hj => ?_
    obtain ⟨h1, h2, h3⟩ := he j ((List.nodup_range.mem_erase_iff.1 hj).1)
    rw [h1, h2, h3]
  rw [e] at s4
  have s3 := sat_perm List.perm_middle s4
  exact sat_flat.2 (sat_perm ((fam_perm (T := T) (sz := sz) (vs := vs') (ln := ln') (xs := xs') hi).symm.append_right _) s3)
theorem fam_nil {T : TypeId} {sz : Nat} : ∀ {N : Nat} {F : List HP}, ImpS F (fam T sz N (fun _ => .slice none 0 0) (fun _ => 0) (fun _ => []) :: F)
  | 0, F => fun l w s => sat_flat.2 s
  | N + 1, F => fun l w s => by
    have s1 := fam_nil (T := T) (sz := sz) (N := N) (F := F) l w s
    have s2 := sat_flat.1 s1
    have s3 := own_nil (el := T) (sz := sz) s2
    refine sat_flat.2 (sat_perm ?_ s3)
    rw [List.range_succ, List.map_append, List.append_assoc]
    exact List.perm_middle.symm
attribute [irreducible] fam famW
section
variable {P : Program} {c : Cx} {A : Array Oper} {os : List Oper} {K : Kont} {L : Env} {H F : List HP} {C : Code} {T : TypeId} {sz N i : Nat} {vs : Nat → Value} {ln : Nat → Nat} {xs : Nat → List Value}
theorem G.famOut (hi : i < N) (tk : Tk (fam T sz N vs ln xs) H F) (k : G P c C K L (own T sz (ln i) (vs i) (xs i) :: famW T sz N vs ln xs i :: F)) : G P c C K L H := G.imp (fam_out hi tk) k
theorem GO.famOut (hi : i < N) (tk : Tk (fam T sz N vs ln xs) H F) (k : GO P c A os K L (own T sz (ln i) (vs i) (xs i) :: famW T sz N vs ln xs i :: F)) : GO P c A os K L H := GO.imp (fam_out hi tk) k
theorem GO.famNil (k : GO P c A os K L (fam T sz N (fun _ => .slice none 0 0) (fun _ => 0) (fun _ => []) :: H)) : GO P c A os K L H := GO.imp fam_nil k
end
end Go.Proofs.YtpfcgfgkmgnaaaaDoor
namespace Go.Proofs.YtpfcgfgkmgnaaaaDoor
open Go
/-- The Boolean product. -/
def mulX (X Y : Nat → Nat → Bool) : Nat → Nat → Bool := fun r c => (List.range 1024).any fun k => X r k && Y k c
theorem mulX_iff {X Y : Nat → Nat → Bool} {r c : Nat} : mulX X Y r c = true ↔ ∃ k, k < 1024 ∧ X r k = true ∧ Y k c = true := by
  unfold mulX
  simp only [List.any_eq_true, List.mem_range, Bool.and_eq_true]
attribute [irreducible] mulX
theorem mulX_in {s : Nat} {X Y : Nat → Nat → Bool} (hx : ∀ r c, X r c = true → r < s ∧ c < s) (hy : ∀ r c, Y r c = true → r < s ∧ c < s) : ∀ r c, mulX X Y r c = true → r < s ∧ c < s := fun r c h => by
  obtain ⟨k, _, h1, h2⟩ := mulX_iff.1 h
  exact ⟨(hx _ _ h1).1, (hy _ _ h2).2⟩
/-! ## The blocks, row by row -/
end Go.Proofs.YtpfcgfgkmgnaaaaDoor
namespace Go.Proofs.YtpfcgfgkmgnaaaaDoor
open Go
attribute [local irreducible] G GO GR GT Fn FnV pt init exs pur own ImpS mat posL allV orL restX cellsX
/-- Within a piece of two. -/
theorem Fn.left {P : Program} {f : FuncId} {args : Array Value} {A B : HP} {S : Value → List HP → Prop} (h : Fn P f args [A] (fun r Q => ∃ N, S r N ∧ Q = N ++ [A])) : Fn P f args [star [A, B]] (fun r Q => ∃ N, S r N ∧ Q = N ++ [star [A, B]]) := by
  unfold Fn at *
  intro F w s
  have s1 : sat ([A] ++ (B :: F)) w := (sat_flat (l := [A, B]) (l' := F)).1 s
  refine (h (B :: F) w s1).mono ?_
  rintro e w' ⟨v, Q, a, b, ⟨N, hS, rfl⟩, d⟩
  refine ⟨v, N ++ [star [A, B]], a, b, ⟨N, hS, rfl⟩, ?_⟩
  rw [List.append_assoc] at d ⊢
  have d2 : sat ([A, B] ++ (F ++ N)) w' := by
    refine sat_perm ?_ d
    exact (List.perm_append_comm (l₁ := N) (l₂ := [A] ++ (B :: F))).trans (by simp)
  exact sat_perm (List.perm_append_comm (l₁ := [star [A, B]] ++ F) (l₂ := N)) (sat_flat.2 d2)
theorem sat_swap2 {A B : HP} {l : List HP} {w : World} (s : sat (star [A, B] :: l) w) : sat (star [B, A] :: l) w := sat_flat.2 (sat_perm (List.Perm.swap _ _ _) (sat_flat.1 s))
theorem Fn.right {P : Program} {f : FuncId} {args : Array Value} {A B : HP} {S : Value → List HP → Prop} (h : Fn P f args [B] (fun r Q => ∃ N, S r N ∧ Q = N ++ [B])) : Fn P f args [star [A, B]] (fun r Q => ∃ N, S r N ∧ Q = N ++ [star [A, B]]) := by
  have h1 := Fn.left (B := A) h
  unfold Fn at *
  intro F w s
  refine (h1 F w (sat_swap2 s)).mono ?_
  rintro e w' ⟨v, Q, a, b, ⟨N, hS, rfl⟩, d⟩
  refine ⟨v, N ++ [star [A, B]], a, b, ⟨N, hS, rfl⟩, ?_⟩
  rw [List.append_assoc] at d ⊢
  have d1 := sat_perm (List.perm_middle (a := star [B, A]) (l₁ := N) (l₂ := F)) d
  exact sat_perm (List.perm_middle (a := star [A, B]) (l₁ := N) (l₂ := F)).symm (sat_swap2 d1)
/-- v is a matrix of side s with the cells X, that the piece R holds. -/
structure HasM (R : HP) (v : Value) (s : Nat) (X : Nat → Nat → Bool) : Prop where
  side : Fn Tryd.prog 23 #[v] [R] (fun r Q => r = i64 s ∧ Q = [R])
  blocks : Fn Tryd.prog 81 #[v] [R] (fun r Q => ∃ b3 v', r = .func (.func 104) #[] #[.pointer (some ⟨b3, 0, none⟩)] ∧ Q = [bkM X b3 v', R])
theorem HasM.one (s b : Nat) (X : Nat → Nat → Bool) : HasM (mat s X b) (.pointer (some ⟨b, 0, none⟩)) s X := ⟨side_mat s b X, blocks_mat s b X⟩
theorem HasM.left {A B : HP} {v : Value} {s : Nat} {X : Nat → Nat → Bool} (h : HasM A v s X) : HasM (star [A, B]) v s X :=
  ⟨(Fn.left (S := fun r N => r = i64 s ∧ N = []) (h.side.mono fun r Q hq => ⟨[], ⟨hq.1, rfl⟩, hq.2⟩)).mono fun r Q hq => by obtain ⟨N, ⟨h1, rfl⟩, h2⟩ := hq; exact ⟨h1, h2⟩,
   (Fn.left (S := fun r N => ∃ b3 v', r = .func (.func 104) #[] #[.pointer (some ⟨b3, 0, none⟩)] ∧ N = [bkM X b3 v']) (h.blocks.mono fun r Q hq => by obtain ⟨b3, v', h1, h2⟩ := hq; exact ⟨[bkM X b3 v'], ⟨b3, v', h1, rfl⟩, h2⟩)).mono fun r Q hq => by
     obtain ⟨N, ⟨b3, v', h1, rfl⟩, h2⟩ := hq; exact ⟨b3, v', h1, h2⟩⟩
theorem HasM.right {A B : HP} {v : Value} {s : Nat} {X : Nat → Nat → Bool} (h : HasM B v s X) : HasM (star [A, B]) v s X :=
  ⟨(Fn.right (S := fun r N => r = i64 s ∧ N = []) (h.side.mono fun r Q hq => ⟨[], ⟨hq.1, rfl⟩, hq.2⟩)).mono fun r Q hq => by obtain ⟨N, ⟨h1, rfl⟩, h2⟩ := hq; exact ⟨h1, h2⟩,
   (Fn.right (S := fun r N => ∃ b3 v', r = .func (.func 104) #[] #[.pointer (some ⟨b3, 0, none⟩)] ∧ N = [bkM X b3 v']) (h.blocks.mono fun r Q hq => by obtain ⟨b3, v', h1, h2⟩ := hq; exact ⟨[bkM X b3 v'], ⟨b3, v', h1, rfl⟩, h2⟩)).mono fun r Q hq => by
     obtain ⟨N, ⟨b3, v', h1, rfl⟩, h2⟩ := hq; exact ⟨b3, v', h1, h2⟩⟩
end Go.Proofs.YtpfcgfgkmgnaaaaDoor
namespace Go.Proofs.YtpfcgfgkmgnaaaaDoor
open Go
attribute [local irreducible] G GO GR GT Fn FnV pt init exs pur sat own ImpS mat posL allV orL restX cellsX
abbrev ptrV (b : Nat) : Value := .pointer (some ⟨b, 0, none⟩)
/-! ## The laws' helpers -/
end Go.Proofs.YtpfcgfgkmgnaaaaDoor
namespace Go.Proofs.YtpfcgfgkmgnaaaaDoor
open Go
/-- None, or a side and cells. -/
abbrev OptM := Option (Nat × (Nat → Nat → Bool))
def sideO : OptM → Nat
  | none => 0
  | some (s, _) => s
def setO : OptM → Nat → Nat → Bool
  | none => noX
  | some (_, X) => X
/-- v is such a matrix, that the piece R holds. -/
structure HasO (R : HP) (v : Value) (o : OptM) : Prop where
  side : Fn Tryd.prog 23 #[v] [R] (fun r Q => r = i64 (sideO o) ∧ Q = [R])
  len : Fn Tryd.prog 28 #[v] [R] (fun r Q => r = i64 (cntX (setO o)) ∧ Q = [R])
  cells : Fn Tryd.prog 65 #[v] [R] (fun r Q => ∃ b3 v', r = .func (.func 96) #[] #[.pointer (some ⟨b3, 0, none⟩)] ∧ Q = [bkM (setO o) b3 v', R])
  blocks : o ≠ none → Fn Tryd.prog 81 #[v] [R] (fun r Q => ∃ b3 v', r = .func (.func 104) #[] #[.pointer (some ⟨b3, 0, none⟩)] ∧ Q = [bkM (setO o) b3 v', R])
  form : (o = none ∧ v = .pointer none) ∨ (o ≠ none ∧ ∃ b, v = ptrV b)
theorem HasO.one (s b : Nat) (X : Nat → Nat → Bool) : HasO (mat s X b) (ptrV b) (some (s, X)) := ⟨side_mat s b X, len_mat s b X, mcells_mat s b X, fun _ => blocks_mat s b X, .inr ⟨by simp, b, rfl⟩⟩
theorem Fn.leftV {P : Program} {f : FuncId} {args : Array Value} {A B : HP} {S : Value → Prop} (h : Fn P f args [A] (fun r Q => S r ∧ Q = [A])) : Fn P f args [star [A, B]] (fun r Q => S r ∧ Q = [star [A, B]]) :=
  (Fn.left (S := fun r N => S r ∧ N = []) (h.mono fun r Q hq => ⟨[], ⟨hq.1, rfl⟩, hq.2⟩)).mono fun r Q hq => by obtain ⟨N, ⟨h1, rfl⟩, h2⟩ := hq; exact ⟨h1, h2⟩
theorem Fn.rightV {P : Program} {f : FuncId} {args : Array Value} {A B : HP} {S : Value → Prop} (h : Fn P f args [B] (fun r Q => S r ∧ Q = [B])) : Fn P f args [star [A, B]] (fun r Q => S r ∧ Q = [star [A, B]]) :=
  (Fn.right (S := fun r N => S r ∧ N = []) (h.mono fun r Q hq => ⟨[], ⟨hq.1, rfl⟩, hq.2⟩)).mono fun r Q hq => by obtain ⟨N, ⟨h1, rfl⟩, h2⟩ := hq; exact ⟨h1, h2⟩
theorem Fn.leftI {P : Program} {f : FuncId} {args : Array Value} {A B : HP} {S : Value → HP → Prop} (h : Fn P f args [A] (fun r Q => ∃ p, S r p ∧ Q = [p, A])) : Fn P f args [star [A, B]] (fun r Q => ∃ p, S r p ∧ Q = [p, star [A, B]]) :=
  (Fn.left (S := fun r N => ∃ p, S r p ∧ N = [p]) (h.mono fun r Q hq => by obtain ⟨p, h1, h2⟩ := hq; exact ⟨[p], ⟨p, h1, rfl⟩, h2⟩)).mono fun r Q hq => by obtain ⟨N, ⟨p, h1, rfl⟩, h2⟩ := hq; exact ⟨p, h1, h2⟩
theorem Fn.rightI {P : Program} {f : FuncId} {args : Array Value} {A B : HP} {S : Value → HP → Prop} (h : Fn P f args [B] (fun r Q => ∃ p, S r p ∧ Q = [p, B])) : Fn P f args [star [A, B]] (fun r Q => ∃ p, S r p ∧ Q = [p, star [A, B]]) :=
  (Fn.right (S := fun r N => ∃ p, S r p ∧ N = [p]) (h.mono fun r Q hq => by obtain ⟨p, h1, h2⟩ := hq; exact ⟨[p], ⟨p, h1, rfl⟩, h2⟩)).mono fun r Q hq => by obtain ⟨N, ⟨p, h1, rfl⟩, h2⟩ := hq; exact ⟨p, h1, h2⟩
theorem HasO.left {A B : HP} {v : Value} {o : OptM} (h : HasO A v o) : HasO (star [A, B]) v o :=
  ⟨Fn.leftV (S := fun r => r = i64 (sideO o)) h.side, Fn.leftV (S := fun r => r = i64 (cntX (setO o))) h.len,
   (Fn.leftI (S := fun r p => ∃ b3 v', r = .func (.func 96) #[] #[.pointer (some ⟨b3, 0, none⟩)] ∧ p = bkM (setO o) b3 v') (h.cells.mono fun r Q hq => by obtain ⟨b3, v', h1, h2⟩ := hq; exact ⟨_, ⟨b3, v', h1, rfl⟩, h2⟩)).mono fun r Q hq => by obtain ⟨p, ⟨b3, v', h1, rfl⟩, h2⟩ := hq; exact ⟨b3, v', h1, h2⟩,
   fun hne => (Fn.leftI (S := fun r p => ∃ b3 v', r = .func (.func 104) #[] #[.pointer (some ⟨b3, 0, none⟩)] ∧ p = bkM (setO o) b3 v') ((h.blocks hne).mono fun r Q hq => by obtain ⟨b3, v', h1, h2⟩ := hq; exact ⟨_, ⟨b3, v', h1, rfl⟩, h2⟩)).mono fun r Q hq => by obtain ⟨p, ⟨b3, v', h1, rfl⟩, h2⟩ := hq; exact ⟨b3, v', h1, h2⟩, h.form⟩
theorem HasO.right {A B : HP} {v : Value} {o : OptM} (h : HasO B v o) : HasO (star [A, B]) v o :=
  ⟨Fn.rightV (S := fun r => r = i64 (sideO o)) h.side, Fn.rightV (S := fun r => r = i64 (cntX (setO o))) h.len,
   (Fn.rightI (S := fun r p => ∃ b3 v', r = .func (.func 96) #[] #[.pointer (some ⟨b3, 0, none⟩)] ∧ p = bkM (setO o) b3 v') (h.cells.mono fun r Q hq => by obtain ⟨b3, v', h1, h2⟩ := hq; exact ⟨_, ⟨b3, v', h1, rfl⟩, h2⟩)).mono fun r Q hq => by obtain ⟨p, ⟨b3, v', h1, rfl⟩, h2⟩ := hq; exact ⟨b3, v', h1, h2⟩,
   fun hne => (Fn.rightI (S := fun r p => ∃ b3 v', r = .func (.func 104) #[] #[.pointer (some ⟨b3, 0, none⟩)] ∧ p = bkM (setO o) b3 v') ((h.blocks hne).mono fun r Q hq => by obtain ⟨b3, v', h1, h2⟩ := hq; exact ⟨_, ⟨b3, v', h1, rfl⟩, h2⟩)).mono fun r Q hq => by obtain ⟨p, ⟨b3, v', h1, rfl⟩, h2⟩ := hq; exact ⟨b3, v', h1, h2⟩, h.form⟩
theorem posL_no : posL noX = [] := by
  unfold posL
  rw [List.filter_eq_nil_iff]
  intro z _ h
  obtain ⟨r, c, _, _, hx⟩ := hasB_iff.1 h
  cases hx
theorem ImpS.nilOwn {el : TypeId} {sz : Nat} {H : List HP} : ImpS H (Go.Proofs.YtpfcgfgkmgnaaaaDoor.own el sz 0 (.slice none 0 0) [] :: H) := fun _ _ s => own_nil s
/-- The reference's matrix, beside. -/
def RefO (q : HP) (rv : Value) (o : OptM) : Prop := ∃ v, rv = refV (sideO o) v ∧ v.oneCell' = true ∧ SlC q v (castL (cellsX (setO o)))
attribute [local irreducible] G GO GR GT Fn FnV pt init exs pur sat own ImpS mat posL allV orL restX cellsX
theorem cells_nil : Fn Tryd.prog 65 #[.pointer none] [] (fun r Q => ∃ b3 v', r = .func (.func 96) #[] #[.pointer (some ⟨b3, 0, none⟩)] ∧ Q = [bkM noX b3 v']) := by
  refine Fn.mk2 Tryd.func65 rfl rfl fun w0 F => ?_
  (refine G.seq ?_; refine G.region ?_; refine GO.assign rfl rfl ?_; refine GO.nil ?_; refine kthen_n ?_; refine G.seq ?_; refine G.region ?_; refine GO.move rfl rfl ?_)
  refine GO.call1 rfl rfl (all_nil) Tks.n ?_
  rintro _ _ ⟨rfl, rfl⟩
  (refine GO.alloc rfl fun b3 => ?_; refine GO.store1 rfl rfl rfl Tk.h (by decide) ?_; refine GO.nil ?_; refine kthen_n ?_; refine G.seq ?_; refine G.region ?_; refine GO.makeFunc1 rfl rfl ?_; refine GO.assign rfl rfl ?_; refine GO.nil ?_; refine kthen_n ?_; refine G.ret ?_)
  refine KF2.r1 rfl (RV.t rfl) ⟨b3, .slice none 0 0, rfl, rfl⟩ ?_
  refine ImpS.flat (k := [_, _]) (M := F) ?_
  rw [posL_no, show allV noX [] = [] by unfold allV; rfl, show ([] : List Nat).length = 0 from rfl]
  refine ImpS.trans (ImpS.nilOwn (el := 106) (sz := 66)) (ImpS.sb ?_)
  ((refine Sb.c (Tk.t Tk.h) ?_; refine Sb.c Tk.h ?_); (exact Sb.r))
theorem HasO.nil (R : HP) : HasO R (.pointer none) none :=
  ⟨(Fn.frame side_nil [R]).mono fun r Q h => by obtain ⟨Q', ⟨h1, rfl⟩, rfl⟩ := h; exact ⟨h1, rfl⟩,
   (Fn.frame len_nil [R]).mono fun r Q h => by obtain ⟨Q', ⟨h1, rfl⟩, rfl⟩ := h; exact ⟨by rw [h1]; show i64 0 = i64 (cntX noX); rw [cntX_no]; rfl, rfl⟩,
   (Fn.frame cells_nil [R]).mono fun r Q h => by obtain ⟨Q', ⟨b3, v', h1, rfl⟩, rfl⟩ := h; exact ⟨b3, v', h1, rfl⟩,
   fun h => absurd rfl h, .inl ⟨rfl, rfl⟩⟩
end Go.Proofs.YtpfcgfgkmgnaaaaDoor
namespace Go.Proofs.YtpfcgfgkmgnaaaaDoor
open Go
structure WfO (o : OptM) : Prop where
  some : ∀ s X, o = some (s, X) → 1 ≤ s ∧ s ≤ 1024
attribute [local irreducible] G GO GR GT Fn FnV pt init exs pur sat own ImpS mat posL allV orL restX cellsX cellsV
set_option maxHeartbeats 8000000 in
theorem osame_spec (R z q : HP) (hq : Tab q) (v rv : Value) (o : OptM) (ho : HasO R v o) (hr : RefO z rv o) (hw : WfO o) (hc : ¬ 1048576 < (cellsX (setO o)).length) :
    Fn Tryd.prog 35 #[v, rv] [R, z, q] (fun r Q => r = .bool true ∧ Q = [R, z, q]) := by
  obtain ⟨v2, rfl, hone, hsl⟩ := hr
  have hlen := cellsX_len (setO o)
  have hcl := castL_len (cellsX (setO o))
  obtain ⟨a, cap, rfl, hcap, hrd⟩ := hsl
  refine Fn.mk2 Tryd.func35 rfl rfl fun w0 F => ?_
  rw [hcl] at hrd ⊢
  rcases ho.form with ⟨rfl, rfl⟩ | ⟨hne, b, rfl⟩
  · (refine G.seq ?_; refine G.region ?_; refine GO.box rfl rfl rfl fun b3 => ?_; refine GO.alloc rfl fun b4 => ?_; refine GO.nil ?_; refine kthen_n ?_; refine G.seq ?_; refine G.seq ?_)
    refine G.draw 21 (by kernel_rfl) ?_
    ((apply GQ.step; focus (intro Z; refine GO.move rfl rfl ?_; exact KQ.z)); (apply GQ.step; focus (intro Z; refine GO.eqNilP rfl rfl ?_; exact KQ.z)); (apply GQ.step; focus (intro Z; refine GO.fieldAddr rfl rfl ?_; exact KQ.z)); (apply GQ.step; focus (intro Z; refine GO.load1 rfl rfl rfl (Tk.t Tk.h) rfl ?_; exact KQ.z)); (apply GQ.step; focus (intro Z; refine GO.eqT rfl rfl rfl rfl ?_; exact KQ.z)))
    apply GQ.step; focus (intro Z; refine GO.neqF rfl rfl rfl rfl ?_; exact KQ.z)
    ((apply GQ.step; focus (intro Z; refine GO.move rfl rfl ?_; exact KQ.z)); (apply GQ.step; focus (intro Z; refine GO.gT rfl rfl rfl ?_; refine GO.move rfl rfl ?_; exact KQ.z)))
    apply GQ.step; focus (intro Z; refine GO.gT rfl rfl rfl ?_; refine GO.call1 rfl rfl (ho.side) (Tks.c (Tk.t (Tk.t Tk.h)) Tks.n) ?_; rintro _ _ ⟨rfl, rfl⟩; refine GO.nil (KQ.s ?_); ((refine Sb.c (Tk.t Tk.h) ?_; refine Sb.c (Tk.t Tk.h) ?_; refine Sb.c Tk.h ?_; refine Sb.c Tk.h ?_; refine Sb.c Tk.h ?_); (exact Sb.r)))
    ((apply GQ.step; focus (intro Z; refine GO.gT rfl rfl rfl ?_; refine GO.fieldAddr rfl rfl ?_; exact KQ.z)); (apply GQ.step; focus (intro Z; refine GO.gT rfl rfl rfl ?_; refine GO.load1 rfl rfl rfl (Tk.t Tk.h) rfl ?_; exact KQ.z)); (apply GQ.step; focus (intro Z; refine GO.gT rfl rfl rfl ?_; refine GO.neF rfl rfl rfl rfl ?_; exact KQ.z)); (apply GQ.step; focus (intro Z; refine GO.pickF rfl rfl rfl ?_; exact KQ.z)); (apply GQ.step; focus (intro Z; refine GO.move rfl rfl ?_; exact KQ.z)); (apply GQ.step; focus (intro Z; refine GO.gT rfl rfl rfl ?_; refine GO.move rfl rfl ?_; exact KQ.z)))
    apply GQ.step; focus (intro Z; refine GO.gT rfl rfl rfl ?_; refine GO.call1 rfl rfl (ho.len) (Tks.c (Tk.t (Tk.t Tk.h)) Tks.n) ?_; rintro _ _ ⟨rfl, rfl⟩; refine GO.nil (KQ.s ?_); ((refine Sb.c (Tk.t Tk.h) ?_; refine Sb.c (Tk.t Tk.h) ?_; refine Sb.c Tk.h ?_; refine Sb.c Tk.h ?_; refine Sb.c Tk.h ?_); (exact Sb.r)))
    rw [← hlen]
    ((apply GQ.step; focus (intro Z; refine GO.gT rfl rfl rfl ?_; refine GO.fieldAddr rfl rfl ?_; exact KQ.z)); (apply GQ.step; focus (intro Z; refine GO.gT rfl rfl rfl ?_; refine GO.load1 rfl rfl rfl (Tk.t Tk.h) rfl ?_; exact KQ.z)); (apply GQ.step; focus (intro Z; refine GO.gT rfl rfl rfl ?_; refine GO.lenS rfl rfl ?_; exact KQ.z)); (apply GQ.step; focus (intro Z; refine GO.gT rfl rfl rfl ?_; refine GO.neF rfl rfl rfl rfl ?_; exact KQ.z)); (apply GQ.step; focus (intro Z; refine GO.pickF rfl rfl rfl ?_; exact KQ.z)); refine GQ.nil ?_)
    (refine GO.nil ?_; refine kthen_n ?_; refine G.condF rfl rfl ?_; refine G.skip ?_; refine kthen_n ?_; refine G.seq ?_; refine G.region ?_; refine GO.alloc rfl fun b5 => ?_; refine GO.store1 rfl rfl rfl Tk.h (by decide) ?_; refine GO.nil ?_; refine kthen_n ?_; refine G.seq ?_; refine G.region ?_; refine GO.move rfl rfl ?_)
    refine GO.call1 rfl rfl (ho.cells) (Tks.c (Tk.t (Tk.t (Tk.t Tk.h))) Tks.n) ?_
    rintro _ _ ⟨bI, vI, rfl, rfl⟩
    (refine GO.assign rfl rfl ?_; refine GO.nil ?_; refine kthen_n ?_; refine G.seq ?_; refine G.seq ?_; refine G.region ?_; refine GO.move rfl rfl ?_)
    refine GO.eqNilF rfl rfl ?_
    (refine GO.nil ?_; refine kthen_n ?_; refine G.condF rfl rfl ?_; refine G.skip ?_; refine kthen_n ?_; refine G.seq ?_; refine G.seq ?_; refine G.region ?_; refine GO.move rfl rfl ?_; refine GO.nil ?_; refine kthen_n ?_; refine G.block ?_)
    refine G.rangeF (F := R :: pt b4 (row [.bool false] 4) :: F) (psl := [35, 36]) (v := .func (.func 96) #[] #[.pointer (some ⟨bI, 0, none⟩)]) (xs := (cellsX (setO (none : OptM))).map celV) (Sh := [q]) (Gm := [bkM (setO (none : OptM)) bI vI])
      (fun k => [pt b3 (row [i64 ((sideO (none : OptM) : Nat) : Int), .slice a (cellsX (setO (none : OptM))).length cap] 28), pt b5 (row [i64 (k : Nat)] 3), z])
      (fun _ _ => [pur False]) (fun _ h => by cases h) rfl (fun u hu => by obtain ⟨p, _, rfl⟩ := List.mem_map.1 hu; rfl) rfl (mcells_seq q hq (setO (none : OptM)) bI vI) ?_ (fun lp Lr Lb w1 F1 k uu huu => ?_) ?_ ?_
    · (refine Tks.c (Tk.t (Tk.t (Tk.t (Tk.t Tk.h)))) ?_; refine Tks.c (Tk.t (Tk.t Tk.h)) ?_; refine Tks.c (Tk.t (Tk.t (Tk.t Tk.h))) ?_; refine Tks.c (Tk.t (Tk.t (Tk.t Tk.h))) ?_; exact Tks.n)
    · obtain ⟨p, hp, rfl⟩ : ∃ p, (cellsX (setO (none : OptM)))[k]? = some p ∧ uu = celV p := by
        rw [List.getElem?_map] at huu
        cases hcc : (cellsX (setO (none : OptM)))[k]? with
        | none => simp [hcc] at huu
        | some p => simp [hcc] at huu; exact ⟨p, rfl, huu.symm⟩
      have hkl := (List.getElem?_eq_some_iff.1 hp).1
      have hpc : (castL (cellsX (setO (none : OptM))))[k]? = some ((p.1 : Int), (p.2 : Int)) := by unfold castL; rw [List.getElem?_map, hp]; rfl
      obtain ⟨bo, oo, rfl, hr2⟩ := hrd (by omega)
      have r1 : Rd z ⟨bo, oo + k * 2, none⟩ (i64 ((p.1 : Nat) : Int)) := hr2 _ _ (cellsV_get hpc).1
      have r2 : Rd z ⟨bo, oo + k * 2 + 1, none⟩ (i64 ((p.2 : Nat) : Int)) := hr2 _ _ (cellsV_get hpc).2
      have d1 : decide (((cellsX (setO (none : OptM))).length : Int) ≤ (k : Int)) = false := decide_eq_false (by omega)
      have hceq := EqR.celC (d := 9998) ((p.1 : Int), (p.2 : Int)) ((p.1 : Int), (p.2 : Int))
      rw [decide_eq_true rfl] at hceq
      change G _ _ _ _ ((36, i64 (p.2 : Nat)) :: (35, i64 (p.1 : Nat)) :: _) (pt b3 (row [i64 ((sideO (none : OptM) : Nat) : Int), .slice (some ⟨bo, oo, none⟩) (cellsX (setO (none : OptM))).length cap] 28) :: pt b5 (row [i64 (k : Nat)] 3) :: z :: q :: F1)
      (refine G.seq ?_; refine G.region ?_; refine GO.assign rfl rfl ?_; refine GO.nil ?_; refine kthen_n ?_; refine G.region ?_; refine GO.assign rfl rfl ?_; refine GO.nil ?_)
      refine kA_n ?_
      (refine G.block ?_; refine G.seq ?_; refine G.seq ?_; refine G.region ?_; refine GO.load1 rfl rfl rfl (Tk.t Tk.h) rfl ?_; refine GO.fieldAddr rfl rfl ?_; refine GO.load1 rfl rfl rfl Tk.h rfl ?_; refine GO.lenS rfl rfl ?_; refine GO.gei rfl rfl rfl ?_; refine GO.move rfl rfl ?_; refine GO.gT rfl rfl (by assumption) ?_; refine GO.fieldAddr rfl rfl ?_; refine GO.gT rfl rfl (by assumption) ?_; refine GO.load1 rfl rfl rfl Tk.h rfl ?_; refine GO.gT rfl rfl (by assumption) ?_; refine GO.load1 rfl rfl rfl (Tk.t Tk.h) rfl ?_; refine GO.gT rfl rfl (by assumption) ?_; refine GO.idxS rfl rfl rfl ⟨rfl, by omega⟩ ?_; refine GO.gT rfl rfl (by assumption) ?_; refine GO.load2 rfl rfl rfl (Tk.t (Tk.t Tk.h)) (by assumption) (by assumption) ?_; refine GO.gT rfl rfl (by assumption) ?_; refine GO.move rfl rfl ?_; refine GO.gT rfl rfl (by assumption) ?_; refine GO.move rfl rfl ?_; refine GO.gT rfl rfl (by assumption) ?_; refine GO.build2 rfl rfl rfl rfl ?_; refine GO.gT rfl rfl (by assumption) ?_)
      refine GO.neqA hceq rfl rfl rfl ?_
      (refine GO.pickFa rfl rfl (by assumption) rfl ?_; refine GO.nil ?_; refine kthen_n ?_; refine G.condF rfl rfl ?_; refine G.skip ?_; refine kthen_n ?_; refine G.region ?_; refine GO.load1 rfl rfl rfl (Tk.t Tk.h) rfl ?_; refine GO.addi rfl rfl rfl (by omega) ?_; refine GO.store1 rfl rfl rfl (Tk.t Tk.h) (by simp) ?_; refine GO.nil ?_; refine kblock_n ?_)
      refine kB_n (ImpS.sb ?_)
      ((refine Sb.c (Tk.t Tk.h) ?_; refine Sb.c Tk.h ?_; refine Sb.c Tk.h ?_; refine Sb.c Tk.h ?_); (exact Sb.r))
    · rw [List.length_map]
      change G _ _ _ _ _ (pt b3 (row [i64 ((sideO (none : OptM) : Nat) : Int), .slice a (cellsX (setO (none : OptM))).length cap] 28) :: pt b5 (row [i64 ((cellsX (setO (none : OptM))).length : Nat)] 3) :: z :: q :: bkM (setO (none : OptM)) bI vI :: R :: pt b4 (row [.bool false] 4) :: F)
      (refine G.seq ?_; refine G.region ?_; refine GO.load1 rfl rfl rfl (Tk.t Tk.h) rfl ?_; refine GO.fieldAddr rfl rfl ?_; refine GO.load1 rfl rfl rfl Tk.h rfl ?_; refine GO.lenS rfl rfl ?_; refine GO.eqT rfl rfl rfl rfl ?_; refine GO.store1 rfl rfl rfl (Tk.t (Tk.t (Tk.t (Tk.t (Tk.t (Tk.t Tk.h)))))) (by decide) ?_; refine GO.nil ?_; refine kthen_n ?_; refine G.ret ?_)
      refine KF2.r1 rfl (RV.c1 rfl rfl (by (exact Tk.h)) rfl) ⟨rfl, rfl⟩ (ImpS.sb ?_)
      ((refine Sb.c (Tk.t (Tk.t (Tk.t (Tk.t (Tk.t (Tk.t Tk.h)))))) ?_; refine Sb.c (Tk.t (Tk.t (Tk.t Tk.h))) ?_; refine Sb.c (Tk.t (Tk.t (Tk.t Tk.h))) ?_); (refine Sb.s ?_; refine Sb.s ?_; refine Sb.s ?_; refine Sb.s ?_; exact Sb.r))
    · intro i jc hi
      exact G.pur fun h => h.elim
  · obtain ⟨⟨s, X⟩, rfl⟩ := Option.ne_none_iff_exists'.1 hne
    have hs := hw.some s X rfl
    (refine G.seq ?_; refine G.region ?_; refine GO.box rfl rfl rfl fun b3 => ?_; refine GO.alloc rfl fun b4 => ?_; refine GO.nil ?_; refine kthen_n ?_; refine G.seq ?_; refine G.seq ?_)
    refine G.draw 21 (by kernel_rfl) ?_
    ((apply GQ.step; focus (intro Z; refine GO.move rfl rfl ?_; exact KQ.z)); (apply GQ.step; focus (intro Z; refine GO.eqNilP rfl rfl ?_; exact KQ.z)); (apply GQ.step; focus (intro Z; refine GO.fieldAddr rfl rfl ?_; exact KQ.z)); (apply GQ.step; focus (intro Z; refine GO.load1 rfl rfl rfl (Tk.t Tk.h) rfl ?_; exact KQ.z)); (apply GQ.step; focus (intro Z; refine GO.eqi rfl rfl rfl ?_; exact KQ.z)))
    apply GQ.step; focus (intro Z; refine GO.neqF rfl rfl rfl (by show false = decide (((s : Nat) : Int) = 0); rw [decide_eq_false (by omega)]) ?_; exact KQ.z)
    ((apply GQ.step; focus (intro Z; refine GO.move rfl rfl ?_; exact KQ.z)); (apply GQ.step; focus (intro Z; refine GO.gT rfl rfl rfl ?_; refine GO.move rfl rfl ?_; exact KQ.z)))
    apply GQ.step; focus (intro Z; refine GO.gT rfl rfl rfl ?_; refine GO.call1 rfl rfl (ho.side) (Tks.c (Tk.t (Tk.t Tk.h)) Tks.n) ?_; rintro _ _ ⟨rfl, rfl⟩; refine GO.nil (KQ.s ?_); ((refine Sb.c (Tk.t Tk.h) ?_; refine Sb.c (Tk.t Tk.h) ?_; refine Sb.c Tk.h ?_; refine Sb.c Tk.h ?_; refine Sb.c Tk.h ?_); (exact Sb.r)))
    ((apply GQ.step; focus (intro Z; refine GO.gT rfl rfl rfl ?_; refine GO.fieldAddr rfl rfl ?_; exact KQ.z)); (apply GQ.step; focus (intro Z; refine GO.gT rfl rfl rfl ?_; refine GO.load1 rfl rfl rfl (Tk.t Tk.h) rfl ?_; exact KQ.z)); (apply GQ.step; focus (intro Z; refine GO.gT rfl rfl rfl ?_; refine GO.neF rfl rfl rfl rfl ?_; exact KQ.z)); (apply GQ.step; focus (intro Z; refine GO.pickF rfl rfl rfl ?_; exact KQ.z)); (apply GQ.step; focus (intro Z; refine GO.move rfl rfl ?_; exact KQ.z)); (apply GQ.step; focus (intro Z; refine GO.gT rfl rfl rfl ?_; refine GO.move rfl rfl ?_; exact KQ.z)))
    apply GQ.step; focus (intro Z; refine GO.gT rfl rfl rfl ?_; refine GO.call1 rfl rfl (ho.len) (Tks.c (Tk.t (Tk.t Tk.h)) Tks.n) ?_; rintro _ _ ⟨rfl, rfl⟩; refine GO.nil (KQ.s ?_); ((refine Sb.c (Tk.t Tk.h) ?_; refine Sb.c (Tk.t Tk.h) ?_; refine Sb.c Tk.h ?_; refine Sb.c Tk.h ?_; refine Sb.c Tk.h ?_); (exact Sb.r)))
    rw [← hlen]
    ((apply GQ.step; focus (intro Z; refine GO.gT rfl rfl rfl ?_; refine GO.fieldAddr rfl rfl ?_; exact KQ.z)); (apply GQ.step; focus (intro Z; refine GO.gT rfl rfl rfl ?_; refine GO.load1 rfl rfl rfl (Tk.t Tk.h) rfl ?_; exact KQ.z)); (apply GQ.step; focus (intro Z; refine GO.gT rfl rfl rfl ?_; refine GO.lenS rfl rfl ?_; exact KQ.z)); (apply GQ.step; focus (intro Z; refine GO.gT rfl rfl rfl ?_; refine GO.neF rfl rfl rfl rfl ?_; exact KQ.z)); (apply GQ.step; focus (intro Z; refine GO.pickF rfl rfl rfl ?_; exact KQ.z)); refine GQ.nil ?_)
    (refine GO.nil ?_; refine kthen_n ?_; refine G.condF rfl rfl ?_; refine G.skip ?_; refine kthen_n ?_; refine G.seq ?_; refine G.region ?_; refine GO.alloc rfl fun b5 => ?_; refine GO.store1 rfl rfl rfl Tk.h (by decide) ?_; refine GO.nil ?_; refine kthen_n ?_; refine G.seq ?_; refine G.region ?_; refine GO.move rfl rfl ?_)
    refine GO.call1 rfl rfl (ho.cells) (Tks.c (Tk.t (Tk.t (Tk.t Tk.h))) Tks.n) ?_
    rintro _ _ ⟨bI, vI, rfl, rfl⟩
    (refine GO.assign rfl rfl ?_; refine GO.nil ?_; refine kthen_n ?_; refine G.seq ?_; refine G.seq ?_; refine G.region ?_; refine GO.move rfl rfl ?_)
    refine GO.eqNilF rfl rfl ?_
    (refine GO.nil ?_; refine kthen_n ?_; refine G.condF rfl rfl ?_; refine G.skip ?_; refine kthen_n ?_; refine G.seq ?_; refine G.seq ?_; refine G.region ?_; refine GO.move rfl rfl ?_; refine GO.nil ?_; refine kthen_n ?_; refine G.block ?_)
    refine G.rangeF (F := R :: pt b4 (row [.bool false] 4) :: F) (psl := [35, 36]) (v := .func (.func 96) #[] #[.pointer (some ⟨bI, 0, none⟩)]) (xs := (cellsX (setO (some (s, X) : OptM))).map celV) (Sh := [q]) (Gm := [bkM (setO (some (s, X) : OptM)) bI vI])
      (fun k => [pt b3 (row [i64 ((sideO (some (s, X) : OptM) : Nat) : Int), .slice a (cellsX (setO (some (s, X) : OptM))).length cap] 28), pt b5 (row [i64 (k : Nat)] 3), z])
      (fun _ _ => [pur False]) (fun _ h => by cases h) rfl (fun u hu => by obtain ⟨p, _, rfl⟩ := List.mem_map.1 hu; rfl) rfl (mcells_seq q hq (setO (some (s, X) : OptM)) bI vI) ?_ (fun lp Lr Lb w1 F1 k uu huu => ?_) ?_ ?_
    · (refine Tks.c (Tk.t (Tk.t (Tk.t (Tk.t Tk.h)))) ?_; refine Tks.c (Tk.t (Tk.t Tk.h)) ?_; refine Tks.c (Tk.t (Tk.t (Tk.t Tk.h))) ?_; refine Tks.c (Tk.t (Tk.t (Tk.t Tk.h))) ?_; exact Tks.n)
    · obtain ⟨p, hp, rfl⟩ : ∃ p, (cellsX (setO (some (s, X) : OptM)))[k]? = some p ∧ uu = celV p := by
        rw [List.getElem?_map] at huu
        cases hcc : (cellsX (setO (some (s, X) : OptM)))[k]? with
        | none => simp [hcc] at huu
        | some p => simp [hcc] at huu; exact ⟨p, rfl, huu.symm⟩
      have hkl := (List.getElem?_eq_some_iff.1 hp).1
      have hpc : (castL (cellsX (setO (some (s, X) : OptM))))[k]? = some ((p.1 : Int), (p.2 : Int)) := by unfold castL; rw [List.getElem?_map, hp]; rfl
      obtain ⟨bo, oo, rfl, hr2⟩ := hrd (by omega)
      have r1 : Rd z ⟨bo, oo + k * 2, none⟩ (i64 ((p.1 : Nat) : Int)) := hr2 _ _ (cellsV_get hpc).1
      have r2 : Rd z ⟨bo, oo + k * 2 + 1, none⟩ (i64 ((p.2 : Nat) : Int)) := hr2 _ _ (cellsV_get hpc).2
      have d1 : decide (((cellsX (setO (some (s, X) : OptM))).length : Int) ≤ (k : Int)) = false := decide_eq_false (by omega)
      have hceq := EqR.celC (d := 9998) ((p.1 : Int), (p.2 : Int)) ((p.1 : Int), (p.2 : Int))
      rw [decide_eq_true rfl] at hceq
      change G _ _ _ _ ((36, i64 (p.2 : Nat)) :: (35, i64 (p.1 : Nat)) :: _) (pt b3 (row [i64 ((sideO (some (s, X) : OptM) : Nat) : Int), .slice (some ⟨bo, oo, none⟩) (cellsX (setO (some (s, X) : OptM))).length cap] 28) :: pt b5 (row [i64 (k : Nat)] 3) :: z :: q :: F1)
      (refine G.seq ?_; refine G.region ?_; refine GO.assign rfl rfl ?_; refine GO.nil ?_; refine kthen_n ?_; refine G.region ?_; refine GO.assign rfl rfl ?_; refine GO.nil ?_)
      refine kA_n ?_
      (refine G.block ?_; refine G.seq ?_; refine G.seq ?_; refine G.region ?_; refine GO.load1 rfl rfl rfl (Tk.t Tk.h) rfl ?_; refine GO.fieldAddr rfl rfl ?_; refine GO.load1 rfl rfl rfl Tk.h rfl ?_; refine GO.lenS rfl rfl ?_; refine GO.gei rfl rfl rfl ?_; refine GO.move rfl rfl ?_; refine GO.gT rfl rfl (by assumption) ?_; refine GO.fieldAddr rfl rfl ?_; refine GO.gT rfl rfl (by assumption) ?_; refine GO.load1 rfl rfl rfl Tk.h rfl ?_; refine GO.gT rfl rfl (by assumption) ?_; refine GO.load1 rfl rfl rfl (Tk.t Tk.h) rfl ?_; refine GO.gT rfl rfl (by assumption) ?_; refine GO.idxS rfl rfl rfl ⟨rfl, by omega⟩ ?_; refine GO.gT rfl rfl (by assumption) ?_; refine GO.load2 rfl rfl rfl (Tk.t (Tk.t Tk.h)) (by assumption) (by assumption) ?_; refine GO.gT rfl rfl (by assumption) ?_; refine GO.move rfl rfl ?_; refine GO.gT rfl rfl (by assumption) ?_; refine GO.move rfl rfl ?_; refine GO.gT rfl rfl (by assumption) ?_; refine GO.build2 rfl rfl rfl rfl ?_; refine GO.gT rfl rfl (by assumption) ?_)
      refine GO.neqA hceq rfl rfl rfl ?_
      (refine GO.pickFa rfl rfl (by assumption) rfl ?_; refine GO.nil ?_; refine kthen_n ?_; refine G.condF rfl rfl ?_; refine G.skip ?_; refine kthen_n ?_; refine G.region ?_; refine GO.load1 rfl rfl rfl (Tk.t Tk.h) rfl ?_; refine GO.addi rfl rfl rfl (by omega) ?_; refine GO.store1 rfl rfl rfl (Tk.t Tk.h) (by simp) ?_; refine GO.nil ?_; refine kblock_n ?_)
      refine kB_n (ImpS.sb ?_)
      ((refine Sb.c (Tk.t Tk.h) ?_; refine Sb.c Tk.h ?_; refine Sb.c Tk.h ?_; refine Sb.c Tk.h ?_); (exact Sb.r))
    · rw [List.length_map]
      change G _ _ _ _ _ (pt b3 (row [i64 ((sideO (some (s, X) : OptM) : Nat) : Int), .slice a (cellsX (setO (some (s, X) : OptM))).length cap] 28) :: pt b5 (row [i64 ((cellsX (setO (some (s, X) : OptM))).length : Nat)] 3) :: z :: q :: bkM (setO (some (s, X) : OptM)) bI vI :: R :: pt b4 (row [.bool false] 4) :: F)
      (refine G.seq ?_; refine G.region ?_; refine GO.load1 rfl rfl rfl (Tk.t Tk.h) rfl ?_; refine GO.fieldAddr rfl rfl ?_; refine GO.load1 rfl rfl rfl Tk.h rfl ?_; refine GO.lenS rfl rfl ?_; refine GO.eqT rfl rfl rfl rfl ?_; refine GO.store1 rfl rfl rfl (Tk.t (Tk.t (Tk.t (Tk.t (Tk.t (Tk.t Tk.h)))))) (by decide) ?_; refine GO.nil ?_; refine kthen_n ?_; refine G.ret ?_)
      refine KF2.r1 rfl (RV.c1 rfl rfl (by (exact Tk.h)) rfl) ⟨rfl, rfl⟩ (ImpS.sb ?_)
      ((refine Sb.c (Tk.t (Tk.t (Tk.t (Tk.t (Tk.t (Tk.t Tk.h)))))) ?_; refine Sb.c (Tk.t (Tk.t (Tk.t Tk.h))) ?_; refine Sb.c (Tk.t (Tk.t (Tk.t Tk.h))) ?_); (refine Sb.s ?_; refine Sb.s ?_; refine Sb.s ?_; refine Sb.s ?_; exact Sb.r))
    · intro i jc hi
      exact G.pur fun h => h.elim
end Go.Proofs.YtpfcgfgkmgnaaaaDoor
namespace Go.Proofs.YtpfcgfgkmgnaaaaDoor
open Go
/-- Where one step leads to, out of the first n rows. -/
def stepN (X : Nat → Nat → Bool) (A : Nat → Bool) (n : Nat) : Nat → Bool := fun j => (List.range n).any fun i => A i && X i j
theorem stepN_iff {X : Nat → Nat → Bool} {A : Nat → Bool} {n j : Nat} : stepN X A n j = true ↔ ∃ i, i < n ∧ A i = true ∧ X i j = true := by
  unfold stepN; simp only [List.any_eq_true, List.mem_range, Bool.and_eq_true]
/-- The rows that just k steps lead to. -/
def walkX (X : Nat → Nat → Bool) (s u : Nat) : Nat → Nat → Bool
  | 0 => fun j => decide (j = u)
  | k + 1 => stepN X (walkX X s u k) s
/-- Each row's columns, when k cells have come. -/
def colsK (X : Nat → Nat → Bool) (k i : Nat) : List Nat := (((cellsX X).take k).filter fun p => decide (p.1 = i)).map fun p => p.2
theorem colsK_nil (X : Nat → Nat → Bool) (i : Nat) : colsK X 0 i = [] := rfl
theorem colsK_at {X : Nat → Nat → Bool} {k r c : Nat} (h : (cellsX X)[k]? = some (r, c)) : colsK X (k + 1) r = colsK X k r ++ [c] := by
  unfold colsK; rw [List.take_add_one, h, List.filter_append, List.map_append]; simp
theorem colsK_ne {X : Nat → Nat → Bool} {k r c i : Nat} (h : (cellsX X)[k]? = some (r, c)) (hi : i ≠ r) : colsK X (k + 1) i = colsK X k i := by
  unfold colsK; rw [List.take_add_one, h, List.filter_append, List.map_append]; simp; omega
theorem colsK_len (X : Nat → Nat → Bool) (k i : Nat) : (colsK X k i).length ≤ (cellsX X).length := by
  have h1 := List.length_filter_le (fun p : Nat × Nat => decide (p.1 = i)) ((cellsX X).take k)
  rw [List.length_take] at h1
  unfold colsK
  rw [List.length_map]
  omega
theorem lines_filter (X : Nat → Nat → Bool) (i : Nat) : ∀ n, ((lines X n).filter fun p => decide (p.1 = i)).map (fun p => p.2) = if i < n then rowX X i else []
  | 0 => rfl
  | n + 1 => by
    rw [lines_succ, List.filter_append, List.map_append, lines_filter X i n, List.filter_map, List.map_map]
    by_cases e : n = i
    · subst e
      rw [if_neg (Nat.lt_irrefl n), if_pos (by omega), List.nil_append]
      rw [List.filter_eq_self.2 (fun c _ => by simp)]
      exact (List.map_congr_left (g := id) fun c _ => rfl).trans (List.map_id _)
    · have : (rowX X n).filter ((fun p : Nat × Nat => decide (p.1 = i)) ∘ fun c => (n, c)) = [] := List.filter_eq_nil_iff.2 fun c _ => by simp [e]
      rw [this, List.map_nil, List.append_nil]
      by_cases h : i < n
      · rw [if_pos h, if_pos (by omega)]
      · rw [if_neg h, if_neg (by omega)]
theorem colsK_end {s : Nat} {X : Nat → Nat → Bool} (hs : s ≤ 1024) (hin : ∀ r c, X r c = true → r < s ∧ c < s) {i : Nat} (hi : i < s) : colsK X (cellsX X).length i = rowX X i := by
  unfold colsK
  rw [List.take_length, ← lines_all hs hin, lines_filter, if_pos hi]
end Go.Proofs.YtpfcgfgkmgnaaaaDoor
namespace Go.Proofs.YtpfcgfgkmgnaaaaDoor
open Go
theorem lines_len (X : Nat → Nat → Bool) {i : Nat} (hi : i ≤ 1024) : (lines X i).length ≤ cntX X := by
  rw [← cellsX_len, lines_rest X hi, List.length_append]; omega
abbrev pairsV (l : List (Nat × Nat)) : List Value := cellsV (castL l)
theorem pairsV_one (l : List (Nat × Nat)) (i c : Nat) : pairsV l ++ [i64 (i : Nat), i64 (c : Nat)] = pairsV (l ++ [(i, c)]) := by
  simp [pairsV, cellsV, castL]
attribute [local irreducible] G GO GR GT Fn FnV pt init exs pur sat own ImpS mat posL allV orL restX cellsX natsV rowTo rowX cntX lines
end Go.Proofs.YtpfcgfgkmgnaaaaDoor
namespace Go.Proofs.YtpfcgfgkmgnaaaaDoor
open Go
/-- What is told: all rows ahead, and of one row its first columns. -/
def toldX (Z : Nat → Nat → Bool) (i j : Nat) : List (Nat × Nat) := lines Z i ++ (rowTo Z i j).map fun c => (i, c)
theorem rowTo_zero (Z : Nat → Nat → Bool) (i : Nat) : rowTo Z i 0 = [] := rfl
theorem toldX_zero (Z : Nat → Nat → Bool) (i : Nat) : toldX Z i 0 = lines Z i := by unfold toldX; rw [rowTo_zero, List.map_nil, List.append_nil]
theorem rowTo_one (Z : Nat → Nat → Bool) (i j : Nat) : rowTo Z i (j + 1) = rowTo Z i j ++ (if Z i j then [j] else []) := by
  unfold rowTo
  rw [List.range_succ, List.filter_append]
  cases h : Z i j <;> simp [h]
theorem toldX_yes {Z : Nat → Nat → Bool} {i j : Nat} (h : Z i j = true) : toldX Z i (j + 1) = toldX Z i j ++ [(i, j)] := by
  unfold toldX; rw [rowTo_one, h, if_pos rfl, List.map_append, List.append_assoc]; rfl
theorem toldX_no {Z : Nat → Nat → Bool} {i j : Nat} (h : Z i j = false) : toldX Z i (j + 1) = toldX Z i j := by
  unfold toldX; rw [rowTo_one, h, if_neg (by simp), List.append_nil]
theorem toldX_end {s : Nat} {Z : Nat → Nat → Bool} (hs : s ≤ 1024) (hin : ∀ r c, Z r c = true → r < s ∧ c < s) (i : Nat) : toldX Z i s = lines Z (i + 1) := by
  unfold toldX; rw [rowTo_end hin (Nat.le_refl _) hs, lines_succ]
theorem toldX_len (Z : Nat → Nat → Bool) {i j : Nat} (hi : i < 1024) (hj : j ≤ 1024) : ¬ 1049600 < (toldX Z i j).length := by
  have h2 := lines_len Z (i := i) (by omega)
  have h3 := rowTo_len Z i j
  have h4 := cnt_max Z
  unfold toldX
  rw [List.length_append, List.length_map]
  omega
end Go.Proofs.YtpfcgfgkmgnaaaaDoor
namespace Go.Proofs.YtpfcgfgkmgnaaaaDoor
open Go
abbrev onR (b : Nat) (A : Nat → Bool) (s : Nat) : HP := pt b (row (rowV (fun x : Bool => Value.bool x) A s) 4)
attribute [local irreducible] G GO GR GT Fn FnV pt init exs pur sat own ImpS mat posL allV orL restX cellsX natsV rowX colsK stepN walkX
end Go.Proofs.YtpfcgfgkmgnaaaaDoor
namespace Go.Proofs.YtpfcgfgkmgnaaaaDoor
open Go
section
variable {P : Program} {c : Cx} {A : Array Oper} {os : List Oper} {K : Kont} {L : Env} {H F : List HP} {x y : HP}
theorem GO.pair (tk : Tks [x, y] H F) (k : GO P c A os K L (star [x, y] :: F)) : GO P c A os K L H := GO.imp (fun l w s => sat_flat.2 (by
  have s1 : sat (x :: y :: (F ++ l)) w := sat_perm (List.Perm.append_right l tk) s
  exact s1)) k
theorem GO.unpair (tk : Tk (star [x, y]) H F) (k : GO P c A os K L (x :: y :: F)) : GO P c A os K L H := GO.take tk (GO.flat k)
end
attribute [local irreducible] G GO GR GT Fn FnV pt init exs pur sat own ImpS mat posL allV orL restX cellsX
end Go.Proofs.YtpfcgfgkmgnaaaaDoor
namespace Go.Proofs.YtpfcgfgkmgnaaaaDoor
open Go
theorem Fn.perm {P : Program} {f : FuncId} {args : Array Value} {Pre Pre' : List HP} {R : Value → List HP → Prop} (hp : Pre'.Perm Pre) (h : Fn P f args Pre R) : Fn P f args Pre' R := by
  unfold Fn at *
  intro F w hw
  exact h F w (sat_perm (hp.append_right F) hw)
attribute [local irreducible] G GO GR GT Fn FnV pt init exs pur sat own ImpS mat posL allV orL restX cellsX
end Go.Proofs.YtpfcgfgkmgnaaaaDoor
namespace Go.Proofs.YtpfcgfgkmgnaaaaDoor
open Go
abbrev z3 (b91 a b c : Nat) : HP := pt b91 (row [ptrV a, ptrV b, ptrV c] 35)
attribute [local irreducible] G GO GR GT Fn FnV pt init exs pur sat own ImpS mat posL allV orL restX cellsX uniX
end Go.Proofs.YtpfcgfgkmgnaaaaDoor
namespace Go.Proofs.YtpfcgfgkmgnaaaaDoor
open Go
/-- A matrix within its bounds. -/
def WfM (o : OptM) : Prop := ∀ s X, o = some (s, X) → (1 ≤ s ∧ s ≤ 1024) ∧ ∀ r c, X r c = true → r < s ∧ c < s
theorem WfM.wf {o : OptM} (h : WfM o) : WfO o := ⟨fun s X e => (h s X e).1⟩
def mulO : OptM → OptM → OptM
  | some (s, X), some (t, Y) => if s = t then some (s, mulX X Y) else none
  | _, _ => none
theorem mulO_some {s t : Nat} {X Y : Nat → Nat → Bool} : mulO (some (s, X)) (some (t, Y)) = if s = t then some (s, mulX X Y) else none := rfl
theorem WfM.mul {a b : OptM} (ha : WfM a) (hb : WfM b) : WfM (mulO a b) := by
  intro s X h
  match a, b, ha, hb, h with
  | some (s', X'), some (t, Y), ha, hb, h =>
    rw [mulO_some] at h
    by_cases e : s' = t
    · subst e
      rw [if_pos rfl] at h
      injection h with h
      injection h with h1 h2
      subst h1 h2
      exact ⟨(ha _ _ rfl).1, mulX_in (ha _ _ rfl).2 (hb _ _ rfl).2⟩
    · rw [if_neg e] at h
      cases h
  | none, _, _, _, h => cases h
  | some _, none, _, _, h => cases h
attribute [local irreducible] G GO GR GT Fn FnV pt init exs pur sat own ImpS
end Go.Proofs.YtpfcgfgkmgnaaaaDoor
namespace Go.Proofs.YtpfcgfgkmgnaaaaDoor
open Go
theorem cells_no : cellsX noX = [] := by
  refine List.eq_nil_of_length_eq_zero ?_
  rw [cellsX_len, cntX_no]
theorem RefO.nil (q : HP) : RefO q (refV 0 (.slice none 0 0)) none := ⟨.slice none 0 0, rfl, rfl, none, 0, by
  show Value.slice none 0 0 = .slice none (castL (cellsX noX)).length 0
  rw [castL_len, cells_no]; rfl, by
  show (castL (cellsX noX)).length ≤ 0
  rw [castL_len, cells_no]; exact Nat.le_refl _, fun h => by
  change 0 < (castL (cellsX noX)).length at h
  rw [castL_len, cells_no] at h
  exact absurd h (by show ¬ 0 < 0; omega)⟩
theorem own_slC {v : Value} {l : List Cl} {F : List HP} {w : World} (s : sat (own 63 2 l.length v (cellsV l) :: F) w) : SlC (own 63 2 l.length v (cellsV l)) v l := by
  obtain ⟨a, cap, e, h1, h2⟩ := own_sl s
  subst e
  refine ⟨a, cap, rfl, ?_, h2⟩
  rcases own_shape s with ⟨g1, g2, _, _⟩ | ⟨b, cap', rest', g1, _, g3, _, _, _⟩
  · omega
  · injection g1 with _ _ g1
    omega
theorem own_one {el : TypeId} {sz n : Nat} {v : Value} {xs : List Value} {l : List HP} {w : World} (s : sat (own el sz n v xs :: l) w) : v.oneCell' = true := by
  rcases own_shape s with ⟨rfl, _⟩ | ⟨_, _, _, rfl, _⟩ <;> rfl
/-- A matrix's cells of our own are such a matrix. -/
theorem RefO.own {v : Value} {s : Nat} {X : Nat → Nat → Bool} (h1 : v.oneCell' = true) (h2 : SlC (own 63 2 (castL (cellsX X)).length v (cellsV (castL (cellsX X)))) v (castL (cellsX X))) : RefO (Go.Proofs.YtpfcgfgkmgnaaaaDoor.own 63 2 (castL (cellsX X)).length v (cellsV (castL (cellsX X)))) (refV s v) (some (s, X)) := ⟨v, rfl, h1, h2⟩
theorem RefO.slR {q : HP} {rv : Value} {o : OptM} (h : RefO q rv o) : ∃ v, rv = refV (sideO o) v ∧ v.oneCell' = true := let ⟨v, h1, h2, _⟩ := h; ⟨v, h1, h2⟩
theorem RefO.sup {q q' : HP} (hs : Sup q q') {rv : Value} {o : OptM} (h : RefO q rv o) : RefO q' rv o := let ⟨v, h1, h2, a, cap, h3, h4, h5⟩ := h
  ⟨v, h1, h2, a, cap, h3, h4, fun hp => let ⟨b, o, e, hr⟩ := h5 hp; ⟨b, o, e, fun j u hj => hs _ _ (hr j u hj)⟩⟩
attribute [local irreducible] G GO GR GT Fn FnV pt init exs pur sat own ImpS mat posL allV orL restX cellsX cellsV lines
end Go.Proofs.YtpfcgfgkmgnaaaaDoor
namespace Go.Proofs.YtpfcgfgkmgnaaaaDoor
open Go
theorem HasO.ptr {R : HP} {v : Value} {o : OptM} (h : HasO R v o) : ∃ p, v = .pointer p := by
  rcases h.form with ⟨_, rfl⟩ | ⟨_, b, rfl⟩
  · exact ⟨_, rfl⟩
  · exact ⟨_, rfl⟩
/-- v is such a matrix, and the piece p is all of it. -/
def MatO (p : HP) (v : Value) (o : OptM) : Prop := (o = none ∧ v = .pointer none) ∨ ∃ s X b, o = some (s, X) ∧ v = ptrV b ∧ p = mat s X b
theorem MatO.has {p : HP} {v : Value} {o : OptM} (h : MatO p v o) : HasO p v o := by
  rcases h with ⟨rfl, rfl⟩ | ⟨s, X, b, rfl, rfl, rfl⟩
  · exact HasO.nil _
  · exact HasO.one _ _ _
theorem MatO.one (s b : Nat) (X : Nat → Nat → Bool) : MatO (mat s X b) (ptrV b) (some (s, X)) := .inr ⟨s, X, b, rfl, rfl, rfl⟩
theorem MatO.nil (p : HP) : MatO p (.pointer none) none := .inl ⟨rfl, rfl⟩
def gridO (s : Int) (l : List Cl) : OptM := if refOk s && inL s.toNat l then some (s.toNat, setL noX l) else none
theorem gridO_t {n : Nat} {l : List Cl} (h1 : 1 ≤ n) (h2 : n ≤ 1024) (h3 : inL n l = true) : gridO n l = some (n, setL noX l) := by
  unfold gridO refOk
  rw [Int.toNat_natCast, h3, if_pos]
  simp only [Bool.and_true, Bool.not_eq_true', Bool.or_eq_false_iff, decide_eq_false_iff_not]
  omega
theorem gridO_f {s : Int} {l : List Cl} (h : ¬ (1 ≤ s ∧ s ≤ 1024 ∧ inL s.toNat l = true)) : gridO s l = none := by
  unfold gridO
  refine if_neg fun hh => h ?_
  rw [Bool.and_eq_true] at hh
  have := refOk_t hh.1
  exact ⟨this.1, this.2, hh.2⟩
theorem gridO_wf (s : Int) (l : List Cl) : WfM (gridO s l) := by
  intro t X h
  by_cases hh : 1 ≤ s ∧ s ≤ 1024 ∧ inL s.toNat l = true
  · obtain ⟨n, rfl⟩ := Int.eq_ofNat_of_zero_le (show 0 ≤ s by omega)
    rw [Int.toNat_natCast] at hh
    rw [gridO_t (by omega) (by omega) hh.2.2] at h
    simp only [Option.some.injEq, Prod.mk.injEq] at h
    obtain ⟨rfl, rfl⟩ := h
    refine ⟨⟨by omega, by omega⟩, fun r c hrc => ?_⟩
    rcases (setL_mem r c l noX hh.2.2).1 hrc with h0 | h0
    · cases h0
    · have h1 := List.all_eq_true.1 hh.2.2 _ h0
      unfold inM at h1
      simp only [Bool.and_eq_true, decide_eq_true_eq] at h1
      omega
  · rw [gridO_f hh] at h
    cases h
attribute [local irreducible] G GO GR GT Fn FnV pt init exs pur sat own ImpS mat posL allV orL restX cellsX cellsV lines
end Go.Proofs.YtpfcgfgkmgnaaaaDoor
namespace Go.Proofs.YtpfcgfgkmgnaaaaDoor
open Go
attribute [local irreducible] G GO GR GT Fn FnV pt init exs pur sat own ImpS mat posL allV orL restX cellsX cellsV lines
theorem rOf_ref (s : Int) (q : HP) (u : Value) (l : List Cl) (hu : SlC q u l) (hb : l.length * 16 ≤ 140737488355328) :
    Fn Tryd.prog 40 #[i64 s, u] [q] (fun r Q => ∃ v p e, r = .tuple #[refV (sideO (gridO s l)) v, i64 e] ∧ v.oneCell' = true ∧ RefO p (refV (sideO (gridO s l)) v) (gridO s l) ∧ Q = [p, q]) := by
  have h := refOf_spec s q u l hu hb
  unfold Fn at *
  intro F w hw
  refine (h F w hw).mono ?_
  rintro e w' ⟨v, Q, h1, h2, ⟨n, rfl, hn1, hn2, hin, v2, rfl, rfl⟩ | ⟨hno, rfl, rfl⟩, d⟩
  · rw [gridO_t hn1 hn2 hin]
    rw [srt_cells hn2 hin] at d
    have d1 := own_one d
    exact ⟨_, _, h1, h2, ⟨v2, _, 0, rfl, d1, RefO.own d1 (own_slC d), rfl⟩, d⟩
  · rw [gridO_f hno]
    exact ⟨_, _, h1, h2, ⟨.slice none 0 0, star [], 2, rfl, rfl, RefO.nil _, rfl⟩, sat_flat.2 d⟩
theorem mof_ref (s : Int) (q : HP) (u : Value) (l : List Cl) (hu : SlC q u l) (hb : l.length * 16 ≤ 140737488355328) :
    Fn Tryd.prog 39 #[i64 s, u] [q] (fun r Q => ∃ v p e, r = .tuple #[v, i64 e] ∧ MatO p v (gridO s l) ∧ Q = [p, q]) := by
  have h := mof_spec s q u l hu.slR (by omega)
  unfold Fn at *
  intro F w hw
  refine (h F w hw).mono ?_
  rintro e w' ⟨v, Q, h1, h2, ⟨n, b, rfl, hn1, hn2, hin, rfl, rfl⟩ | ⟨hno, rfl, rfl⟩, d⟩
  · rw [gridO_t hn1 hn2 hin]
    exact ⟨_, _, h1, h2, ⟨_, _, 0, rfl, MatO.one _ _ _, rfl⟩, d⟩
  · rw [gridO_f hno]
    exact ⟨_, _, h1, h2, ⟨.pointer none, star [], 2, rfl, MatO.nil _, rfl⟩, sat_flat.2 d⟩
set_option maxHeartbeats 4000000 in
theorem made_specG (s : Int) (q : HP) (u : Value) (l : List Cl) (hu : SlC q u l) (hb : l.length * 16 ≤ 140737488355328) :
    Fn Tryd.prog 9 #[.agg #[i64 s, u]] [q] (fun r Q => ∃ v x p z, r = .tuple #[v, refV (sideO (gridO s l)) x] ∧ x.oneCell' = true ∧ MatO p v (gridO s l) ∧ RefO z (refV (sideO (gridO s l)) x) (gridO s l) ∧ Q = [p, z, q]) := by
  have h1 := mof_ref s q u l hu hb
  have h2 := rOf_ref s q u l hu hb
  have hu1 : u.oneCell' = true := by obtain ⟨a, cap, rfl, _⟩ := hu; rfl
  refine Fn.mk2 Tryd.func9 rfl rfl fun w0 F => ?_
  (refine G.seq ?_; refine G.region ?_; refine GO.box rfl rfl rfl fun b1 => ?_; refine GO.assign rfl rfl ?_; refine GO.alloc rfl fun b3 => ?_; refine GO.nil ?_; refine kthen_n ?_; refine G.seq ?_; refine G.region ?_; refine GO.fieldAddr rfl rfl ?_; refine GO.load1 rfl rfl rfl (Tk.t Tk.h) rfl ?_; refine GO.fieldAddr rfl rfl ?_; refine GO.load1 rfl rfl rfl (Tk.t Tk.h) rfl ?_)
  refine GO.call2 rfl rfl rfl (h1) (Tks.c (Tk.t (Tk.t Tk.h)) Tks.n) ?_
  rintro _ _ ⟨v, p, e, rfl, hp, rfl⟩
  (refine GO.move rfl rfl ?_; refine GO.extract rfl rfl rfl ?_; refine GO.extract rfl rfl rfl ?_; refine GO.assign rfl rfl ?_; refine GO.assign rfl rfl ?_; refine GO.nil ?_; refine kthen_n ?_; refine G.seq ?_; refine G.region ?_; refine GO.fieldAddr rfl rfl ?_; refine GO.load1 rfl rfl rfl (Tk.t (Tk.t (Tk.t Tk.h))) rfl ?_; refine GO.fieldAddr rfl rfl ?_; refine GO.load1 rfl rfl rfl (Tk.t (Tk.t (Tk.t Tk.h))) rfl ?_)
  refine GO.call2 rfl rfl rfl (h2) (Tks.c (Tk.t Tk.h) Tks.n) ?_
  rintro _ _ ⟨x, z, e2, rfl, hx1, hz, rfl⟩
  (refine GO.move rfl rfl ?_; refine GO.extract rfl rfl rfl ?_; refine GO.extract rfl rfl rfl ?_; refine GO.alloc rfl fun b6 => ?_; refine GO.storeW rfl rfl Tk.h ⟨rfl, rfl⟩ (by simp [Value.oneCell']; assumption) ?_; refine GO.assign rfl rfl ?_; refine GO.nil ?_; refine kthen_n ?_; refine G.seq ?_)
  refine G.draw 3 (by kernel_rfl) ?_
  ((apply GQ.step; focus (intro Z; refine GO.move rfl rfl ?_; exact KQ.z)); (apply GQ.step; focus (intro Z; refine GO.loadW rfl rfl rfl Tk.h rfl ?_; exact KQ.z)); (apply GQ.step; focus (intro Z; refine GO.assign rfl rfl ?_; exact KQ.z)); refine GQ.nil ?_)
  (refine GO.storeW rfl rfl (Tk.t (Tk.t (Tk.t (Tk.t Tk.h)))) ⟨rfl, rfl⟩ (by simp [Value.oneCell']; assumption) ?_; refine GO.nil ?_; refine kthen_n ?_; refine G.ret ?_)
  refine KF2.r2 rfl (RV.t rfl) (RV.cW (n := 2) rfl rfl (by (exact Tk.h)) rfl) ⟨v, x, p, z, rfl, hx1, hp, hz, rfl⟩ (ImpS.sb ?_)
  ((refine Sb.c (Tk.t (Tk.t (Tk.t (Tk.t Tk.h)))) ?_; refine Sb.c (Tk.t (Tk.t Tk.h)) ?_; refine Sb.c (Tk.t (Tk.t Tk.h)) ?_); (refine Sb.s ?_; refine Sb.s ?_; refine Sb.s ?_; exact Sb.r))
end Go.Proofs.YtpfcgfgkmgnaaaaDoor
namespace Go.Proofs.YtpfcgfgkmgnaaaaDoor
open Go
/-- A side and cells, as they are asked for. -/
def GridR (q : HP) (v : Value) (g : Int × List Cl) : Prop := ∃ u, v = .agg #[i64 g.1, u] ∧ SlC q u g.2
theorem GO.keep {P : Program} {c : Cx} {A : Array Oper} {os : List Oper} {K : Kont} {L : Env} {H H' : List HP} (h : ImpS H H') (k : GO P c A os K L H') : GO P c A os K L H := GO.imp (fun l w s => h l w s) k
theorem cells_fit (o : OptM) : ¬ 1048576 < (cellsX (setO o)).length := by rw [cellsX_len]; have := cnt_max (setO o); omega
end Go.Proofs.YtpfcgfgkmgnaaaaDoor
namespace Go.Proofs.YtpfcgfgkmgnaaaaDoor
open Go
theorem mrg_ge : ∀ (n : Nat) (xs ys : List Cl), xs.length + ys.length ≤ n → xs.length ≤ (mrg xs ys).length ∧ ys.length ≤ (mrg xs ys).length
  | _, [], ys, _ => by rw [mrg_nil']; exact ⟨Nat.zero_le _, Nat.le_refl _⟩
  | _, x :: xs, [], _ => by rw [mrg_nil]; exact ⟨Nat.le_refl _, Nat.zero_le _⟩
  | 0, x :: xs, y :: ys, h => by simp at h
  | n + 1, x :: xs, y :: ys, h => by
    simp only [List.length_cons] at h
    cases hl : ltC x y with
    | true =>
      have ih := mrg_ge n xs (y :: ys) (by simp only [List.length_cons]; omega)
      rw [mrg_lt hl]
      simp only [List.length_cons] at ih ⊢
      omega
    | false =>
      by_cases e : x = y
      · have ih := mrg_ge n xs ys (by omega)
        rw [mrg_eq hl e]
        simp only [List.length_cons]
        omega
      · have ih := mrg_ge n (x :: xs) ys (by simp only [List.length_cons]; omega)
        rw [mrg_gt hl e]
        simp only [List.length_cons] at ih ⊢
        omega
theorem mrgM_len : ∀ (n : Nat) (xs ys : List Cl), xs.length + ys.length ≤ n → mrgM xs ys = decide (xs.length < (mrg xs ys).length)
  | _, [], [], _ => by rw [mrgM_nil, mrg_nil]; rfl
  | _, [], y :: ys, _ => by rw [mrgM_nil', mrg_nil']; simp
  | _, x :: xs, [], _ => by rw [mrgM_nil, mrg_nil, decide_eq_false (by omega)]
  | 0, x :: xs, y :: ys, h => by simp at h
  | n + 1, x :: xs, y :: ys, h => by
    simp only [List.length_cons] at h
    cases hl : ltC x y with
    | true =>
      have ih := mrgM_len n xs (y :: ys) (by simp only [List.length_cons]; omega)
      rw [mrg_lt hl, mrgM_lt hl, ih, decide_eq_decide]
      simp only [List.length_cons]
      omega
    | false =>
      by_cases e : x = y
      · have ih := mrgM_len n xs ys (by omega)
        rw [mrg_eq hl e, mrgM_eq hl e, ih, decide_eq_decide]
        simp only [List.length_cons]
        omega
      · have ih := mrg_ge n (x :: xs) ys (by simp only [List.length_cons]; omega)
        rw [mrg_gt hl e, mrgM_gt hl e]
        simp only [List.length_cons] at ih ⊢
        rw [decide_eq_true (by omega)]
theorem uni_in {s : Nat} {X Y : Nat → Nat → Bool} (hx : ∀ r c, X r c = true → r < s ∧ c < s) (hy : ∀ r c, Y r c = true → r < s ∧ c < s) : ∀ r c, uniX X Y r c = true → r < s ∧ c < s := fun r c h => by
  unfold uniX at h
  rcases Bool.or_eq_true _ _ ▸ h with h | h
  · exact hx r c h
  · exact hy r c h
theorem mrg_uni {s : Nat} {X Y : Nat → Nat → Bool} (hs : s ≤ 1024) (hx : ∀ r c, X r c = true → r < s ∧ c < s) (hy : ∀ r c, Y r c = true → r < s ∧ c < s) : mrg (castL (cellsX X)) (castL (cellsX Y)) = castL (cellsX (uniX X Y)) := by
  refine up_unique (mrg_up _ _ _ (Nat.le_refl _) (cells_up X) (cells_up Y)) (cells_up _) fun p => ?_
  rw [mrg_mem _ _ _ (Nat.le_refl _), cast_mem hs hx, cast_mem hs hy, cast_mem hs (uni_in hx hy)]
  unfold uniX
  rw [Bool.or_eq_true]
  constructor
  · rintro (⟨h1, h2, h3⟩ | ⟨h1, h2, h3⟩)
    · exact ⟨h1, h2, .inl h3⟩
    · exact ⟨h1, h2, .inr h3⟩
  · rintro ⟨h1, h2, h3 | h3⟩
    · exact .inl ⟨h1, h2, h3⟩
    · exact .inr ⟨h1, h2, h3⟩
theorem mrgM_uni {s : Nat} {X Y : Nat → Nat → Bool} (hs : s ≤ 1024) (hx : ∀ r c, X r c = true → r < s ∧ c < s) (hy : ∀ r c, Y r c = true → r < s ∧ c < s) : mrgM (castL (cellsX X)) (castL (cellsX Y)) = decide (cntX X < cntX (uniX X Y)) := by
  rw [mrgM_len _ _ _ (Nat.le_refl _), mrg_uni hs hx hy, castL_len, castL_len, cellsX_len, cellsX_len]
def joinO : OptM → OptM → OptM
  | some (s, X), some (t, Y) => if s = t then some (s, uniX X Y) else some (s, X)
  | o, _ => o
theorem joinO_same (s : Nat) (X Y : Nat → Nat → Bool) : joinO (some (s, X)) (some (s, Y)) = some (s, uniX X Y) := if_pos rfl
theorem GO.ownV {P : Program} {c : Cx} {A : Array Oper} {os : List Oper} {K : Kont} {L : Env} {H F : List HP} {el : TypeId} {sz n : Nat} {v : Value} {xs : List Value} (tk : Tk (own el sz n v xs) H F) (k : ∀ (a : Option Addr) (cap : Nat), v = .slice a n cap → GO P c A os K L H) : GO P c A os K L H := by
  rintro a w ⟨h1, h2, ds, h3, h4, h5⟩
  obtain ⟨a', cap, e, _⟩ := own_sl (sat_perm (List.Perm.append_right _ tk) h5)
  exact k a' cap e a w ⟨h1, h2, ds, h3, h4, h5⟩
theorem RefO.left {z z' : HP} {rv : Value} {o : OptM} (h : RefO z rv o) : RefO (star [z, z']) rv o := h.sup (Sup.left _ _)
theorem RefO.right {z z' : HP} {rv : Value} {o : OptM} (h : RefO z rv o) : RefO (star [z', z]) rv o := h.sup (Sup.right _ _)
attribute [local irreducible] G GO GR GT Fn FnV pt init exs pur sat own ImpS mat posL allV orL restX cellsX cellsV lines uniX
def pairE (s t : Nat) : Int := if s = 0 then 1 else if t = 0 then 1 else if s = t then 0 else 5
theorem rpair_spec (s t : Nat) (va vb : Value) (ha : va.oneCell' = true) (hb : vb.oneCell' = true) : Fn Tryd.prog 102 #[refV s va, refV t vb] [] (fun r Q => r = i64 (pairE s t) ∧ Q = []) := by
  unfold pairE
  refine Fn.mk2 Tryd.func102 rfl rfl fun w0 F => ?_
  by_cases h1 : s = 0
  · have d1 : decide (((s : Nat) : Int) = 0) = true := decide_eq_true (by omega)
    rw [if_pos h1]
    (refine G.seq ?_; refine G.region ?_; refine GO.box rfl rfl rfl fun b2 => ?_; refine GO.box rfl rfl rfl fun b3 => ?_; refine GO.assign rfl rfl ?_; refine GO.nil ?_; refine kthen_n ?_; refine G.seq ?_; refine G.seq ?_; refine G.region ?_; refine GO.fieldAddr rfl rfl ?_; refine GO.load1 rfl rfl rfl (Tk.t Tk.h) rfl ?_; refine GO.eqi rfl rfl rfl ?_; refine GO.move rfl rfl ?_; refine GO.gF rfl rfl rfl (by assumption) ?_; refine GO.gF rfl rfl rfl (by assumption) ?_; refine GO.gF rfl rfl rfl (by assumption) ?_; refine GO.pickTa rfl rfl (by assumption) rfl ?_; refine GO.nil ?_; refine kthen_n ?_; refine G.condT rfl rfl ?_; refine G.seq ?_; refine G.region ?_; refine GO.assign rfl rfl ?_; refine GO.nil ?_; refine kthen_n ?_; refine G.ret ?_; refine kthen_r ?_)
    refine KF2.r1 rfl (RV.t rfl) ⟨rfl, rfl⟩ (ImpS.sb ?_)
    (skip; (refine Sb.s ?_; refine Sb.s ?_; exact Sb.r))
  · have d1 : decide (((s : Nat) : Int) = 0) = false := decide_eq_false (by omega)
    rw [if_neg h1]
    by_cases h2 : t = 0
    · have d2 : decide (((t : Nat) : Int) = 0) = true := decide_eq_true (by omega)
      rw [if_pos h2]
      (refine G.seq ?_; refine G.region ?_; refine GO.box rfl rfl rfl fun b2 => ?_; refine GO.box rfl rfl rfl fun b3 => ?_; refine GO.assign rfl rfl ?_; refine GO.nil ?_; refine kthen_n ?_; refine G.seq ?_; refine G.seq ?_; refine G.region ?_; refine GO.fieldAddr rfl rfl ?_; refine GO.load1 rfl rfl rfl (Tk.t Tk.h) rfl ?_; refine GO.eqi rfl rfl rfl ?_; refine GO.move rfl rfl ?_; refine GO.gT rfl rfl (by assumption) ?_; refine GO.fieldAddr rfl rfl ?_; refine GO.gT rfl rfl (by assumption) ?_; refine GO.load1 rfl rfl rfl Tk.h rfl ?_; refine GO.gT rfl rfl (by assumption) ?_; refine GO.eqi rfl rfl rfl ?_; refine GO.pickFa rfl rfl (by assumption) rfl ?_; refine GO.nil ?_; refine kthen_n ?_; refine G.condT rfl (by assumption) ?_; refine G.seq ?_; refine G.region ?_; refine GO.assign rfl rfl ?_; refine GO.nil ?_; refine kthen_n ?_; refine G.ret ?_; refine kthen_r ?_)
      refine KF2.r1 rfl (RV.t rfl) ⟨rfl, rfl⟩ (ImpS.sb ?_)
      (skip; (refine Sb.s ?_; refine Sb.s ?_; exact Sb.r))
    · have d2 : decide (((t : Nat) : Int) = 0) = false := decide_eq_false (by omega)
      rw [if_neg h2]
      by_cases h3 : s = t
      · have d3 : decide (((s : Nat) : Int) ≠ ((t : Nat) : Int)) = false := decide_eq_false (by omega)
        rw [if_pos h3]
        (refine G.seq ?_; refine G.region ?_; refine GO.box rfl rfl rfl fun b2 => ?_; refine GO.box rfl rfl rfl fun b3 => ?_; refine GO.assign rfl rfl ?_; refine GO.nil ?_; refine kthen_n ?_; refine G.seq ?_; refine G.seq ?_; refine G.region ?_; refine GO.fieldAddr rfl rfl ?_; refine GO.load1 rfl rfl rfl (Tk.t Tk.h) rfl ?_; refine GO.eqi rfl rfl rfl ?_; refine GO.move rfl rfl ?_; refine GO.gT rfl rfl (by assumption) ?_; refine GO.fieldAddr rfl rfl ?_; refine GO.gT rfl rfl (by assumption) ?_; refine GO.load1 rfl rfl rfl Tk.h rfl ?_; refine GO.gT rfl rfl (by assumption) ?_; refine GO.eqi rfl rfl rfl ?_; refine GO.pickFa rfl rfl (by assumption) rfl ?_; refine GO.nil ?_; refine kthen_n ?_; refine G.condF rfl (by assumption) ?_; refine G.skip ?_; refine kthen_n ?_; refine G.seq ?_; refine G.seq ?_; refine G.region ?_; refine GO.fieldAddr rfl rfl ?_; refine GO.load1 rfl rfl rfl (Tk.t Tk.h) rfl ?_; refine GO.fieldAddr rfl rfl ?_; refine GO.load1 rfl rfl rfl Tk.h rfl ?_; refine GO.nei rfl rfl rfl ?_; refine GO.nil ?_; refine kthen_n ?_; refine G.condF rfl (by assumption) ?_; refine G.skip ?_; refine kthen_n ?_; refine G.seq ?_; refine G.region ?_; refine GO.assign rfl rfl ?_; refine GO.nil ?_; refine kthen_n ?_; refine G.ret ?_)
        refine KF2.r1 rfl (RV.t rfl) ⟨rfl, rfl⟩ (ImpS.sb ?_)
        (skip; (refine Sb.s ?_; refine Sb.s ?_; exact Sb.r))
      · have d3 : decide (((s : Nat) : Int) ≠ ((t : Nat) : Int)) = true := decide_eq_true (by omega)
        rw [if_neg h3]
        (refine G.seq ?_; refine G.region ?_; refine GO.box rfl rfl rfl fun b2 => ?_; refine GO.box rfl rfl rfl fun b3 => ?_; refine GO.assign rfl rfl ?_; refine GO.nil ?_; refine kthen_n ?_; refine G.seq ?_; refine G.seq ?_; refine G.region ?_; refine GO.fieldAddr rfl rfl ?_; refine GO.load1 rfl rfl rfl (Tk.t Tk.h) rfl ?_; refine GO.eqi rfl rfl rfl ?_; refine GO.move rfl rfl ?_; refine GO.gT rfl rfl (by assumption) ?_; refine GO.fieldAddr rfl rfl ?_; refine GO.gT rfl rfl (by assumption) ?_; refine GO.load1 rfl rfl rfl Tk.h rfl ?_; refine GO.gT rfl rfl (by assumption) ?_; refine GO.eqi rfl rfl rfl ?_; refine GO.pickFa rfl rfl (by assumption) rfl ?_; refine GO.nil ?_; refine kthen_n ?_; refine G.condF rfl (by assumption) ?_; refine G.skip ?_; refine kthen_n ?_; refine G.seq ?_; refine G.seq ?_; refine G.region ?_; refine GO.fieldAddr rfl rfl ?_; refine GO.load1 rfl rfl rfl (Tk.t Tk.h) rfl ?_; refine GO.fieldAddr rfl rfl ?_; refine GO.load1 rfl rfl rfl Tk.h rfl ?_; refine GO.nei rfl rfl rfl ?_; refine GO.nil ?_; refine kthen_n ?_; refine G.condT rfl (by assumption) ?_; refine G.seq ?_; refine G.region ?_; refine GO.assign rfl rfl ?_; refine GO.nil ?_; refine kthen_n ?_; refine G.ret ?_; refine kthen_r ?_)
        refine KF2.r1 rfl (RV.t rfl) ⟨rfl, rfl⟩ (ImpS.sb ?_)
        (skip; (refine Sb.s ?_; refine Sb.s ?_; exact Sb.r))
theorem pairE_same {s : Nat} (h : 1 ≤ s) : pairE s s = 0 := by unfold pairE; rw [if_neg (by omega), if_neg (by omega), if_pos rfl]
set_option maxHeartbeats 4000000 in
theorem rJoin_core (z : HP) (ra rb : Value) (s : Nat) (X Y : Nat → Nat → Bool) (hra : RefO z ra (some (s, X))) (hrb : RefO z rb (some (s, Y))) (hs : 1 ≤ s ∧ s ≤ 1024) (hx : ∀ r c, X r c = true → r < s ∧ c < s) (hy : ∀ r c, Y r c = true → r < s ∧ c < s) :
    Fn Tryd.prog 77 #[ra, rb] [z] (fun r Q => ∃ v, r = .tuple #[refV s v, .bool (decide (cntX X < cntX (uniX X Y))), i64 0] ∧ Q = [own 63 2 (castL (cellsX (uniX X Y))).length v (cellsV (castL (cellsX (uniX X Y)))), z]) := by
  have hm := mrg_uni hs.2 hx hy
  have hmM := mrgM_uni hs.2 hx hy
  obtain ⟨va, rfl, honea, hsla⟩ := hra
  obtain ⟨vb, rfl, honeb, hslb⟩ := hrb
  have hl1 : (castL (cellsX X)).length ≤ 1048576 := by rw [castL_len, cellsX_len]; have := cnt_max X; omega
  have hl2 : (castL (cellsX Y)).length ≤ 1048576 := by rw [castL_len, cellsX_len]; have := cnt_max Y; omega
  have hg := merge_spec z va vb (castL (cellsX X)) (castL (cellsX Y)) hsla.slR hslb.slR (by omega)
  rw [hm, hmM] at hg
  have hpr := rpair_spec s s va vb honea honeb
  rw [pairE_same hs.1] at hpr
  change Fn _ _ #[refV s va, refV s vb] _ _
  generalize decide (cntX X < cntX (uniX X Y)) = bn at hg ⊢
  refine Fn.mk2 Tryd.func77 rfl rfl fun w0 F => ?_
  (refine G.seq ?_; refine G.region ?_; refine GO.box rfl rfl rfl fun b2 => ?_; refine GO.box rfl rfl rfl fun b3 => ?_; refine GO.alloc rfl fun b4 => ?_; refine GO.assign rfl rfl ?_; refine GO.assign rfl rfl ?_; refine GO.nil ?_; refine kthen_n ?_; refine G.seq ?_; refine G.region ?_; refine GO.loadW rfl rfl rfl (Tk.t (Tk.t Tk.h)) rfl ?_; refine GO.loadW rfl rfl rfl (Tk.t Tk.h) rfl ?_)
  refine GO.call2 rfl rfl rfl (hpr) Tks.n ?_
  rintro _ _ ⟨rfl, rfl⟩
  (refine GO.assign rfl rfl ?_; refine GO.nil ?_; refine kthen_n ?_; refine G.seq ?_; refine G.seq ?_; refine G.region ?_; refine GO.move rfl rfl ?_; refine GO.neF rfl rfl rfl rfl ?_; refine GO.nil ?_; refine kthen_n ?_; refine G.condF rfl rfl ?_; refine G.skip ?_; refine kthen_n ?_; refine G.seq ?_; refine G.region ?_; refine GO.fieldAddr rfl rfl ?_; refine GO.load1 rfl rfl rfl (Tk.t (Tk.t Tk.h)) rfl ?_; refine GO.fieldAddr rfl rfl ?_; refine GO.load1 rfl rfl rfl (Tk.t Tk.h) rfl ?_)
  refine GO.call2 rfl rfl rfl (hg) (Tks.c (Tk.t (Tk.t (Tk.t Tk.h))) Tks.n) ?_
  rintro _ _ ⟨v, rfl, rfl⟩
  refine GO.ownV Tk.h fun a9 cap9 hv9 => ?_
  subst hv9
  (refine GO.move rfl rfl ?_; refine GO.extract rfl rfl rfl ?_; refine GO.extract rfl rfl rfl ?_; refine GO.assign rfl rfl ?_; refine GO.assign rfl rfl ?_; refine GO.nil ?_; refine kthen_n ?_; refine G.seq ?_; refine G.region ?_; refine GO.fieldAddr rfl rfl ?_; refine GO.load1 rfl rfl rfl (Tk.t (Tk.t (Tk.t (Tk.t Tk.h)))) rfl ?_; refine GO.move rfl rfl ?_; refine GO.build2 rfl rfl rfl rfl ?_; refine GO.move rfl rfl ?_)
  rw [show ∀ n : Nat, (putParts [i64 (s : Nat), Value.slice a9 n cap9]).toArray = #[i64 (s : Nat), Value.slice a9 n cap9] from fun n => by simp [putParts, Value.cells]]
  (refine GO.storeW rfl rfl (Tk.t (Tk.t Tk.h)) ⟨rfl, rfl⟩ (by simp [Value.oneCell']) ?_; refine GO.assign rfl rfl ?_; refine GO.assign rfl rfl ?_; refine GO.nil ?_; refine kthen_n ?_; refine G.ret ?_)
  refine KF2.r3 rfl (RV.cW (n := 2) rfl rfl (by (exact Tk.h)) rfl) (RV.t rfl) (RV.t rfl) ⟨_, rfl, rfl⟩ (ImpS.sb ?_)
  ((refine Sb.c (Tk.t Tk.h) ?_; refine Sb.c (Tk.t Tk.h) ?_); (refine Sb.s ?_; refine Sb.s ?_; refine Sb.s ?_; exact Sb.r))
theorem rJoin_same (z : HP) (ra rb : Value) (s : Nat) (X Y : Nat → Nat → Bool) (hra : RefO z ra (some (s, X))) (hrb : RefO z rb (some (s, Y))) (hs : 1 ≤ s ∧ s ≤ 1024) (hx : ∀ r c, X r c = true → r < s ∧ c < s) (hy : ∀ r c, Y r c = true → r < s ∧ c < s) :
    Fn Tryd.prog 77 #[ra, rb] [z] (fun r Q => ∃ v p, r = .tuple #[refV s v, .bool (decide (cntX X < cntX (uniX X Y))), i64 0] ∧ v.oneCell' = true ∧ RefO p (refV s v) (some (s, uniX X Y)) ∧ Q = [p, z]) := by
  have h := rJoin_core z ra rb s X Y hra hrb hs hx hy
  unfold Fn at *
  intro F w hw
  refine (h F w hw).mono ?_
  rintro e w' ⟨v, Q, h1, h2, ⟨u, rfl, rfl⟩, d⟩
  have d1 := own_one d
  have d2 := own_slC d
  exact ⟨_, _, h1, h2, ⟨u, _, rfl, d1, RefO.own d1 d2, rfl⟩, d⟩
end Go.Proofs.YtpfcgfgkmgnaaaaDoor
