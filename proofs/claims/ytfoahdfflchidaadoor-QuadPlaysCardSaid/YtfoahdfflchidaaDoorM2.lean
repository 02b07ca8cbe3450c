/-
  The law QuadPlays, part 2.
-/
import Derived.Test.YtfoahdfflchidaaDoorM1
import Derived.Test.YtfoahdfflchidaaDoorLay
namespace Go.Proofs.YtfoahdfflchidaaDoor
open Go Go.Shelf
attribute [local irreducible] pt init exs pur sat own ImpS mat
theorem encP_one (B : Nat → Blk) (p : Nat × Nat × Nat) : ∀ u ∈ encP B p, u.oneCell' = true := by
  intro u hu
  simp only [encP, List.mem_append, List.mem_cons, List.not_mem_nil, or_false] at hu
  rcases hu with (rfl | rfl) | hu
  · rfl
  · rfl
  · exact cells_one _ u hu
theorem sortP_row (B : Nat → Blk) (xs : List (Nat × Nat × Nat)) (b n cap : Nat) (hn : n = xs.length) (hsz : n < 4611686018427387904) (rest : List Value) :
    Fn Tryd.prog 72 #[.slice (some ⟨b, 0, none⟩) n cap, .func (.func 73) #[] #[]] [pt b (row (xs.flatMap (encP B) ++ rest) 84)]
      (fun r Q => r = .tuple #[] ∧ ∃ ys : List (Nat × Nat × Nat), ys.Perm xs ∧ ys.Pairwise (fun x y => Go.Proofs.ltOf cmpP y x = false) ∧ Q = [pt b (row (ys.flatMap (encP B) ++ rest) 84)]) :=
  sort_fn sortP 66 (fun w => run_isAgg_UL (P := Tryd.prog) (t := 84) w) (fun w => run_sizeOf_SZ (P := Tryd.prog) (t := 84) w) (encP B) (encP_len B) (encP_one B) cmpP swoP 73 #[] (Cal.out (P := Tryd.prog)) (fun x y W => cmp_spec B x y W) 84 xs b n cap hn hsz rest
theorem sortP_own (B : Nat → Blk) (xs : List (Nat × Nat × Nat)) (v : Value) (n : Nat) (hn : n = xs.length) (hsz : n < 4611686018427387904) :
    Fn Tryd.prog 72 #[v, .func (.func 73) #[] #[]] [own 84 66 n v (xs.flatMap (encP B))]
      (fun r Q => r = .tuple #[] ∧ ∃ ys : List (Nat × Nat × Nat), ys.Perm xs ∧ ys.Pairwise (fun x y => Go.Proofs.ltOf cmpP y x = false) ∧ Q = [own 84 66 n v (ys.flatMap (encP B))]) := by
  intro F w s
  rcases own_shape s with ⟨rfl, rfl, hx, s'⟩ | ⟨b, cap, rest, rfl, hx, h1, h2, h3, s'⟩
  · obtain rfl : xs = [] := List.eq_nil_of_length_eq_zero hn.symm
    refine callsIn_wide.2 ((Go.Proofs.AnyF.slices_SortFunc_none sortP none 0 _ w).mono ?_)
    rintro e w' ⟨rfl, rfl⟩
    exact ⟨_, _, rfl, Same.refl _, ⟨rfl, [], List.Perm.refl _, List.Pairwise.nil, rfl⟩, s⟩
  · refine (sortP_row B xs b n cap hn hsz rest F w s').mono ?_
    rintro e w' ⟨_, _, rfl, sm, ⟨rfl, ys, hp, hs, rfl⟩, q⟩
    have hl : (ys.flatMap (encP B)).length = n * 66 := by rw [flat_len (encP_len B), hp.length_eq, hn]
    exact ⟨_, _, rfl, sm, ⟨rfl, ys, hp, hs, rfl⟩, own_in rfl hl h1 h2 (by rw [List.length_append, hl, ← h3, List.length_append, hx]) q⟩
end Go.Proofs.YtfoahdfflchidaaDoor
namespace Go.Proofs.YtfoahdfflchidaaDoor
open Go
attribute [local irreducible] G GO GR GT Fn FnV pt init exs pur sat own ImpS mat
theorem dl_small {D : Nat} {P : Nat → Nat → Nat} (hD : 2 ^ D ≤ 16) (B : Nat → Blk) : (dl P D 0 0 0).flatMap (rawP B) = (dl P D 0 0 0).flatMap (encP B) := by
  have : ∀ l : List (Nat × Nat × Nat), (∀ p ∈ l, p ∈ dl P D 0 0 0) → l.flatMap (rawP B) = l.flatMap (encP B) := by
    intro l
    induction l with
    | nil => intro _; rfl
    | cons p l ih =>
      intro h
      rw [List.flatMap_cons, List.flatMap_cons, ih fun q hq => h q (List.mem_cons_of_mem _ hq)]
      obtain ⟨h1, h2⟩ := dl_pos (h p (by simp))
      have hz : ∀ y, y / 2 ^ D = 0 → y < 16 := fun y hy => by
        rcases Nat.div_eq_zero_iff.1 hy with h0 | h0
        · exact absurd h0 (Nat.pos_iff_ne_zero.1 (Nat.two_pow_pos _))
        · omega
      unfold rawP encP
      rw [Nat.mod_eq_of_lt (hz _ h1), Nat.mod_eq_of_lt (hz _ h2)]
  exact this _ fun _ h => h
set_option maxHeartbeats 4000000 in
theorem all_mat (side b : Nat) (X : Nat → Nat → Bool) : Fn Tryd.prog 37 #[.pointer (some ⟨b, 0, none⟩)] [mat side X b] (fun r Q => Q = [own 84 66 (posL X).length r (allV X (posL X)), mat side X b]) := by
  refine Fn.mk2 Tryd.func37 rfl rfl fun w0 F => ?_
  (refine G.seq ?_; refine G.region ?_; refine GO.box rfl rfl rfl fun b1 => ?_; refine GO.assign rfl rfl ?_; refine GO.nil ?_; refine kthen_n ?_; refine G.seq ?_; refine G.region ?_; refine GO.alloc rfl fun b3 => ?_; refine GO.nil ?_; refine kthen_n ?_; refine G.seq ?_; refine G.seq ?_; refine G.region ?_; refine GO.load1 rfl rfl rfl (Tk.t Tk.h) rfl ?_)
  refine GO.call1 rfl rfl (is_mat side b X) (Tks.c (Tk.t (Tk.t Tk.h)) Tks.n) ?_
  rintro _ _ ⟨rfl, rfl⟩
  (refine GO.not rfl rfl ?_; refine GO.nil ?_; refine kthen_n ?_; refine G.condF rfl rfl ?_; refine G.skip ?_; refine kthen_n ?_; refine G.seq ?_; refine G.region ?_; refine GO.alloc rfl fun b4 => ?_; refine GO.nil ?_; refine kthen_n ?_; refine G.seq ?_; refine G.region ?_; refine GO.makeFunc3 rfl rfl rfl rfl ?_; refine GO.store1 rfl rfl rfl Tk.h (by decide) ?_; refine GO.nil ?_; refine kthen_n ?_; refine G.seq ?_)
  refine G.matOpen (Tk.t Tk.h) fun g hg => ?_
  have hpw := (show MatOK side X g.D g.np g.nl g.P g.B g.cnt from hg).pow
  have hdp := (show MatOK side X g.D g.np g.nl g.P g.B g.cnt from hg).dp
  obtain ⟨ow, low, T⟩ := (show MatOK side X g.D g.np g.nl g.P g.B g.cnt from hg).tree
  obtain ⟨D, np, nl, P, B, cn, vp, vl⟩ := g
  dsimp only [MG.pcs] at hpw hdp T ⊢
  refine G.ownNil (T := 84) (sz := 66) ?_
  skip
  refine G.draw 6 (by kernel_rfl) ?_
  ((apply GQ.step; focus (intro Z; refine GO.load1 rfl rfl rfl (Tk.t (Tk.t (Tk.t (Tk.t Tk.h)))) rfl ?_; exact KQ.z)); (apply GQ.step; focus (intro Z; refine GO.load1 rfl rfl rfl (Tk.t (Tk.t (Tk.t (Tk.t (Tk.t (Tk.t Tk.h)))))) rfl ?_; exact KQ.z)); (apply GQ.step; focus (intro Z; refine GO.nilCheck rfl rfl ?_; exact KQ.z)); (apply GQ.step; focus (intro Z; refine GO.fieldAddr rfl rfl ?_; exact KQ.z)); (apply GQ.step; focus (intro Z; refine GO.load1 rfl rfl rfl (Tk.t Tk.h) rfl ?_; exact KQ.z)); (apply GQ.step; focus (intro Z; refine GO.subi rfl rfl rfl (by omega) ?_; exact KQ.z)); refine GQ.nil ?_)
  have hD1 : D - 1 + 1 = D := by omega
  have h4 : 0 + 4 ^ (D - 1 + 1) ≤ 100000000 := by
    rw [hD1, Nat.zero_add]
    exact Nat.le_trans (Nat.pow_le_pow_right (by decide) hdp.2.1) (by decide)
  rw [show (D : Int) - 1 = ((D - 1 : Nat) : Int) by omega]
  refine GO.callV4 rfl rfl rfl rfl rfl rfl (FnV.of (args := [i64 ((0 : Nat) : Int), i64 ((D - 1 : Nat) : Int), i64 ((0 : Nat) : Int), i64 ((0 : Nat) : Int)]) (caps := [.pointer (some ⟨b1, 0, none⟩), .pointer (some ⟨b3, 0, none⟩), .pointer (some ⟨b4, 0, none⟩)]) (down_spec T B side cn b vp vl b1 b3 b4 (by omega) (by omega) (D - 1) 0 0 0 T.some T.root (by omega) (Nat.pow_pos (by decide)) (Nat.pow_pos (by decide)) [] 0 (.slice none 0 0) h4)) (Tks.c Tk.h (Tks.c (Tk.t (Tk.t (Tk.t (Tk.t Tk.h)))) (Tks.c (Tk.t (Tk.t (Tk.t (Tk.t Tk.h)))) (Tks.c (Tk.t (Tk.t (Tk.t Tk.h))) (Tks.c Tk.h (Tks.c Tk.h (Tks.c Tk.h Tks.n))))))) ?_
  rintro _ _ ⟨rfl, v2, rfl⟩
  rw [show D - 1 + 1 = D by omega, List.nil_append, Nat.zero_add (dl P D 0 0 0).length, dl_small hpw.1]
  (refine GO.nil ?_; refine kthen_n ?_; refine G.seq ?_; refine G.region ?_; refine GO.load1 rfl rfl rfl (Tk.t Tk.h) rfl ?_)
  have hlen : (dl P D 0 0 0).length < 4611686018427387904 := by have := dl_len (P := P) D 0 0 0; rw [hD1] at h4; omega
  refine GO.call2 rfl rfl rfl (sortP_own B (dl P D 0 0 0) v2 _ rfl hlen) (Tks.c Tk.h Tks.n) ?_
  rintro _ _ ⟨rfl, ys, hp, hs, rfl⟩
  have hys := (show MatOK side X D np nl P B cn from hg).all_sort hp hs
  rw [hys, (show MatOK side X D np nl P B cn from hg).all_enc, ← hp.length_eq, hys, List.length_map]
  refine GO.ownOne Tk.h fun hone => ?_
  (refine GO.nil ?_; refine kthen_n ?_; refine G.seq ?_; refine G.region ?_; refine GO.load1 rfl rfl rfl (Tk.t Tk.h) rfl ?_; refine GO.assign rfl rfl ?_; refine GO.nil ?_; refine kthen_n ?_; refine G.ret ?_)
  refine KF2.r1 rfl (RV.t rfl) rfl ?_
  exact ImpS.cons Tk.h (ImpS.mat ⟨D, np, nl, P, B, cn, vp, vl⟩ hg (ImpS.sb (by ((refine Sb.c (Tk.t (Tk.t (Tk.t Tk.h))) ?_; refine Sb.c (Tk.t (Tk.t (Tk.t Tk.h))) ?_; refine Sb.c (Tk.t (Tk.t (Tk.t Tk.h))) ?_); (refine Sb.s ?_; refine Sb.s ?_; refine Sb.s ?_; exact Sb.r)))))
theorem all_nil : Fn Tryd.prog 37 #[.pointer none] [] (fun r Q => r = .slice none 0 0 ∧ Q = []) := by
  refine Fn.mk Tryd.func37 rfl rfl fun w0 F => ?_
  (refine G.seq ?_; refine G.region ?_; refine GO.box rfl rfl rfl fun b1 => ?_; refine GO.assign rfl rfl ?_; refine GO.nil ?_; refine kthen_n ?_; refine G.seq ?_; refine G.region ?_; refine GO.alloc rfl fun b3 => ?_; refine GO.nil ?_; refine kthen_n ?_; refine G.seq ?_; refine G.seq ?_; refine G.region ?_; refine GO.load1 rfl rfl rfl (Tk.t Tk.h) rfl ?_)
  refine GO.call1 rfl rfl (is_nil) Tks.n ?_
  rintro _ _ ⟨rfl, rfl⟩
  (refine GO.not rfl rfl ?_; refine GO.nil ?_; refine kthen_n ?_; refine G.condT rfl rfl ?_; refine G.seq ?_; refine G.region ?_; refine GO.assign rfl rfl ?_; refine GO.nil ?_; refine kthen_n ?_; refine G.ret ?_; refine kthen_r ?_)
  refine KF.r1 rfl (RV.t rfl) ⟨rfl, rfl⟩ ?_
  (skip; (refine Sb.s ?_; refine Sb.s ?_; exact Sb.r))
end Go.Proofs.YtfoahdfflchidaaDoor
namespace Go.Proofs.YtfoahdfflchidaaDoor
open Go
attribute [local irreducible] G GO GR GT Fn FnV pt init exs pur sat own ImpS mat
/-- The cells of a list more. -/
def setL (X : Nat → Nat → Bool) (l : List (Int × Int)) : Nat → Nat → Bool := l.foldl (fun X p => addX X p.1.toNat p.2.toNat) X
theorem setL_succ {X : Nat → Nat → Bool} {l : List (Int × Int)} {k : Nat} {p : Int × Int} (h : l[k]? = some p) : setL X (l.take (k + 1)) = addX (setL X (l.take k)) p.1.toNat p.2.toNat := by
  unfold setL; rw [List.take_add_one, h, List.foldl_append]; rfl
def inL (side : Nat) (l : List (Int × Int)) : Bool := l.all fun p => inM side p.1 p.2
theorem inL_succ {side : Nat} {l : List (Int × Int)} {k : Nat} {p : Int × Int} (h : l[k]? = some p) (h1 : inL side (l.take k) = true) (h2 : inM side p.1 p.2 = true) : inL side (l.take (k + 1)) = true := by
  unfold inL at *; rw [List.take_add_one, h, List.all_append, h1]; simp [h2]
theorem inL_not {side : Nat} {l : List (Int × Int)} {k : Nat} {p : Int × Int} (h : l[k]? = some p) (h2 : inM side p.1 p.2 = false) : inL side l = false := by
  unfold inL; rw [List.all_eq_false]; exact ⟨p, List.mem_of_getElem? h, by simp [h2]⟩
theorem inM_nat {side m n : Nat} (hm : m < side) (hn : n < side) : inM side m n = true := by
  unfold inM; simp; omega
def mofR (side : Int) (l : List (Int × Int)) (q : HP) (r : Value) (Q : List HP) : Prop :=
  (∃ n b : Nat, side = n ∧ 1 ≤ n ∧ n ≤ 1024 ∧ inL n l = true ∧ r = .tuple #[.pointer (some ⟨b, 0, none⟩), i64 0] ∧ Q = [mat n (setL noX l) b, q]) ∨
  (¬ (1 ≤ side ∧ side ≤ 1024 ∧ inL side.toNat l = true) ∧ r = .tuple #[.pointer none, i64 2] ∧ Q = [q])
set_option maxHeartbeats 2000000 in
theorem mof_spec (side : Int) (q : HP) (v : Value) (l : List (Int × Int)) (hv : SlR q v l.length 2 (cellsV l)) (hl : l.length ≤ 9223372036854775807) : Fn Tryd.prog 13 #[i64 side, v] [q] (mofR side l q) := by
  obtain ⟨a, cap, rfl, _, hrd⟩ := hv
  refine Fn.mk Tryd.func13 rfl rfl fun w0 F => ?_
  (refine G.seq ?_; refine G.region ?_; refine GO.assign rfl rfl ?_; refine GO.assign rfl rfl ?_; refine GO.nil ?_; refine kthen_n ?_; refine G.seq ?_; refine G.region ?_; refine GO.move rfl rfl ?_)
  refine GO.call1 rfl rfl (new_spec side) Tks.n ?_
  rintro _ _ (⟨n, b, rfl, hn1, hn2, rfl, rfl⟩ | ⟨hno, rfl, rfl⟩)
  · (refine GO.move rfl rfl ?_; refine GO.extract rfl rfl rfl ?_; refine GO.extract rfl rfl rfl ?_; refine GO.assign rfl rfl ?_; refine GO.assign rfl rfl ?_; refine GO.nil ?_; refine kthen_n ?_; refine G.seq ?_; refine G.seq ?_; refine G.region ?_; refine GO.move rfl rfl ?_; refine GO.neF rfl rfl rfl rfl ?_; refine GO.nil ?_; refine kthen_n ?_; refine G.condF rfl rfl ?_; refine G.skip ?_; refine kthen_n ?_; refine G.seq ?_; refine G.seq ?_; refine G.region ?_; refine GO.move rfl rfl ?_; refine GO.lenS rfl rfl ?_; refine GO.move rfl rfl ?_; refine GO.nil ?_; refine kthen_n ?_; refine G.block ?_)
    refine G.loop (fun k : Nat => [(6, .pointer (some ⟨b, 0, none⟩)), (20, .slice a l.length cap), (21, i64 l.length), (22, i64 k)])
      (fun k => mat n (setL noX (l.take k)) b :: q :: F) (fun k => k ≤ l.length ∧ inL n (l.take k) = true) (fun k => l.length - k) 0 ⟨by omega, by simp [inL]⟩ ?_ ?_ ?_
    · (refine SubE.c rfl rfl ?_; refine SubE.c rfl rfl ?_; refine SubE.c rfl rfl ?_; refine SubE.c rfl rfl ?_; exact SubE.n)
    · ((refine Sb.c Tk.h ?_; refine Sb.c Tk.h ?_); (exact Sb.r))
    rintro k ⟨hk, hall⟩
    (refine G.seq ?_; refine G.region ?_; refine GO.lti rfl rfl rfl ?_; refine GO.nil ?_; refine kthen_n ?_; refine G.seq ?_)
    refine G.condD rfl (fun hlt => ?_) (fun hge => ?_)
    · have hlt' : k < l.length := by omega
      obtain ⟨b', o, rfl, hr⟩ := hrd (by omega)
      obtain ⟨p, hp⟩ : ∃ p, l[k]? = some p := ⟨l[k], by simp [hlt']⟩
      obtain ⟨h1, h2⟩ := cellsV_get hp
      have r1 : Rd q ⟨b', o + k * 2, none⟩ (i64 p.1) := hr _ _ h1
      have r2 : Rd q ⟨b', o + k * 2 + 1, none⟩ (i64 p.2) := hr _ _ h2
      (refine G.skip ?_; refine kthen_n ?_; refine G.seq ?_; refine G.block ?_; refine G.seq ?_; refine G.region ?_; refine GO.idxS rfl rfl rfl ⟨rfl, by omega⟩ ?_; refine GO.load2 rfl rfl rfl (Tk.t Tk.h) (by assumption) (by assumption) ?_; refine GO.alloc rfl fun b9 => ?_; refine GO.storeW rfl rfl Tk.h ⟨rfl, rfl⟩ (by simp [Value.oneCell']) ?_; refine GO.nil ?_; refine kthen_n ?_; refine G.seq ?_; refine G.region ?_; refine GO.move rfl rfl ?_; refine GO.fieldAddr rfl rfl ?_; refine GO.load1 rfl rfl rfl Tk.h rfl ?_; refine GO.fieldAddr rfl rfl ?_; refine GO.load1 rfl rfl rfl Tk.h rfl ?_)
      refine GO.call3 rfl rfl rfl rfl (set_mat n b (setL noX (l.take k)) p.1 p.2 hn2) (Tks.c (Tk.t Tk.h) Tks.n) ?_
      rintro _ _ (⟨m, m', e1, e2, g1, g2, rfl, rfl⟩ | ⟨hno, rfl, rfl⟩)
      · (refine GO.move rfl rfl ?_; refine GO.extract rfl rfl rfl ?_; refine GO.extract rfl rfl rfl ?_; refine GO.assign rfl rfl ?_; refine GO.assign rfl rfl ?_; refine GO.nil ?_; refine kthen_n ?_; refine G.seq ?_; refine G.region ?_; refine GO.move rfl rfl ?_; refine GO.neF rfl rfl rfl rfl ?_; refine GO.nil ?_; refine kthen_n ?_; refine G.condF rfl rfl ?_; refine G.skip ?_; refine kblock_n ?_; refine kthen_n ?_; refine G.region ?_; refine GO.addi rfl rfl rfl (by omega) ?_; refine GO.move rfl rfl ?_; refine GO.nil ?_; refine kthen_n ?_)
        refine ⟨k + 1, ⟨by omega, inL_succ hp hall (by rw [e1, e2]; exact inM_nat g1 g2)⟩, by omega, ?_, ?_⟩
        · (refine SubE.c rfl rfl ?_; refine SubE.c rfl rfl ?_; refine SubE.c rfl rfl ?_; refine SubE.c rfl rfl ?_; exact SubE.n)
        · rw [setL_succ hp, e1, e2]
          ((refine Sb.c Tk.h ?_; refine Sb.c (Tk.t Tk.h) ?_); (refine Sb.s ?_; exact Sb.r))
      · (refine GO.move rfl rfl ?_; refine GO.extract rfl rfl rfl ?_; refine GO.extract rfl rfl rfl ?_; refine GO.assign rfl rfl ?_; refine GO.assign rfl rfl ?_; refine GO.nil ?_; refine kthen_n ?_; refine G.seq ?_; refine G.region ?_; refine GO.move rfl rfl ?_; refine GO.nei rfl rfl rfl ?_; refine GO.nil ?_; refine kthen_n ?_; refine G.condT rfl rfl ?_; refine G.seq ?_; refine G.region ?_; refine GO.move rfl rfl ?_; refine GO.assign rfl rfl ?_; refine GO.assign rfl rfl ?_; refine GO.nil ?_; refine kthen_n ?_; refine G.ret ?_; refine kblock_r ?_; refine kthen_r ?_; refine kthen_r ?_; refine kblock_r ?_; refine kthen_r ?_)
        refine KF.r2 rfl (RV.t rfl) (RV.t rfl) (.inr ⟨fun h => ?_, rfl, rfl⟩) ?_
        · have := h.2.2
          rw [show ((n : Int)).toNat = n by omega, inL_not hp hno] at this
          cases this
        · ((refine Sb.c (Tk.t (Tk.t Tk.h)) ?_); (refine Sb.s ?_; refine Sb.s ?_; exact Sb.r))
    · obtain rfl : k = l.length := by omega
      rw [List.take_length] at hall ⊢
      (refine G.exit ?_; refine kthen_x ?_; refine kthen_x ?_; refine kblock_x ?_; refine kthen_n ?_; refine G.seq ?_; refine G.region ?_; refine GO.move rfl rfl ?_; refine GO.assign rfl rfl ?_; refine GO.assign rfl rfl ?_; refine GO.nil ?_; refine kthen_n ?_; refine G.ret ?_)
      refine KF.r2 rfl (RV.t rfl) (RV.t rfl) (.inl ⟨n, b, rfl, hn1, hn2, hall, rfl, rfl⟩) ?_
      ((refine Sb.c Tk.h ?_; refine Sb.c Tk.h ?_); (exact Sb.r))
  · (refine GO.move rfl rfl ?_; refine GO.extract rfl rfl rfl ?_; refine GO.extract rfl rfl rfl ?_; refine GO.assign rfl rfl ?_; refine GO.assign rfl rfl ?_; refine GO.nil ?_; refine kthen_n ?_; refine G.seq ?_; refine G.seq ?_; refine G.region ?_; refine GO.move rfl rfl ?_; refine GO.nei rfl rfl rfl ?_; refine GO.nil ?_; refine kthen_n ?_; refine G.condT rfl rfl ?_; refine G.seq ?_; refine G.region ?_; refine GO.move rfl rfl ?_; refine GO.assign rfl rfl ?_; refine GO.assign rfl rfl ?_; refine GO.nil ?_; refine kthen_n ?_; refine G.ret ?_; refine kthen_r ?_)
    refine KF.r2 rfl (RV.t rfl) (RV.t rfl) (.inr ⟨fun h => hno ⟨h.1, h.2.1⟩, rfl, rfl⟩) ?_
    ((refine Sb.c Tk.h ?_); (exact Sb.r))
end Go.Proofs.YtfoahdfflchidaaDoor
namespace Go.Proofs.YtfoahdfflchidaaDoor
open Go
attribute [local irreducible] G GO GR GT Fn FnV pt init exs pur sat own ImpS mat
section
variable {P : Program} {c : Cx} {A : Array Oper} {os : List Oper} {K : Kont} {L : Env} {H F : List HP}
theorem G.ownEither {el : TypeId} {sz n : Nat} {v : Value} {xs : List Value} {C : Code} (tk : Tk (own el sz n v xs) H F) (k0 : v = .slice none 0 0 → n = 0 → xs = [] → G P c C K L H) (k : ∀ b cap, v = .slice (some ⟨b, 0, none⟩) n cap → xs.length = n * sz → n ≤ maxLen → G P c C K L H) : G P c C K L H := by
  unfold G
  intro a w h
  obtain ⟨h1, h2, ds, h3, h4, h5⟩ := id h
  rcases own_shape (sat_perm (List.Perm.append_right _ tk) h5) with ⟨e1, e2, e3, _⟩ | ⟨b, cap, rest', e1, e2, e3, e4, _, _⟩
  · have := k0 e1 e2 e3; unfold G at this; exact this a w h
  · have := k b cap e1 e2 (by omega); unfold G at this; exact this a w h
end
theorem Sl.ofOwn {el : TypeId} {sz n b cap : Nat} {xs : List Value} (hx : xs.length = n * sz) : Sl (own el sz n (.slice (some ⟨b, 0, none⟩) n cap) xs) (.slice (some ⟨b, 0, none⟩) n cap) n sz xs :=
  ⟨_, _, rfl, hx, fun _ => ⟨b, 0, rfl, fun j u hj => by rw [Nat.zero_add]; exact Rd.own hj⟩⟩
set_option maxHeartbeats 2000000 in
theorem cloneP_spec (n : Nat) (v : Value) (xs : List Value) (h1 : ∀ u ∈ xs, u.oneCell' = true) (hn : ¬ 140737488355328 < n * 32) : Fn Tryd.prog 44 #[v] [own 93 4 n v xs] (fun r Q => Q = [own 93 4 n r xs, own 93 4 n v xs]) := by
  refine Fn.mk2 Tryd.func44 rfl rfl fun w0 F => ?_
  refine G.ownEither Tk.h (fun e1 e2 e3 => ?_) (fun b cap e1 e2 e3 => ?_)
  · subst e1 e2 e3
    refine G.ownNil (T := 93) (sz := 4) ?_
    (refine G.seq ?_; refine G.region ?_; refine GO.assign rfl rfl ?_; refine GO.nil ?_; refine kthen_n ?_; refine G.seq ?_; refine G.seq ?_; refine G.region ?_; refine GO.move rfl rfl ?_; refine GO.eqNilS rfl rfl ?_; refine GO.nil ?_; refine kthen_n ?_; refine G.condT rfl rfl ?_; refine G.seq ?_; refine G.region ?_; refine GO.assign rfl rfl ?_; refine GO.nil ?_; refine kthen_n ?_; refine G.ret ?_; refine kthen_r ?_)
    refine KF2.r1 rfl (RV.t rfl) rfl (ImpS.sb ?_)
    ((refine Sb.c Tk.h ?_; refine Sb.c Tk.h ?_); (exact Sb.r))
  · subst e1
    (refine G.seq ?_; refine G.region ?_; refine GO.assign rfl rfl ?_; refine GO.nil ?_; refine kthen_n ?_; refine G.seq ?_; refine G.seq ?_; refine G.region ?_; refine GO.move rfl rfl ?_; refine GO.eqNilS rfl rfl ?_; refine GO.nil ?_; refine kthen_n ?_; refine G.condF rfl rfl ?_; refine G.skip ?_; refine kthen_n ?_; refine G.seq ?_; refine G.region ?_)
    refine GO.buildSlice0 rfl fun v5 => ?_
    (refine GO.move rfl rfl ?_)
    refine GO.appendFrom (m := n) (q := own 93 4 n (.slice (some ⟨b, 0, none⟩) n cap) xs) rfl rfl rfl Tk.h Tk.h (Sl.ofOwn e2) h1 ⟨by decide, rfl⟩ (by rw [Nat.zero_add]; exact e3) (by omega) fun v7 => ?_
    rw [List.nil_append, Nat.zero_add n]
    (refine GO.assign rfl rfl ?_; refine GO.nil ?_; refine kthen_n ?_; refine G.ret ?_)
    refine KF2.r1 rfl (RV.t rfl) rfl (ImpS.sb ?_)
    ((refine Sb.c Tk.h ?_; refine Sb.c Tk.h ?_); (exact Sb.r))
set_option maxHeartbeats 2000000 in
theorem cloneL_spec (n : Nat) (v : Value) (xs : List Value) (h1 : ∀ u ∈ xs, u.oneCell' = true) (hn : ¬ 140737488355328 < n * 512) : Fn Tryd.prog 45 #[v] [own 77 64 n v xs] (fun r Q => Q = [own 77 64 n r xs, own 77 64 n v xs]) := by
  refine Fn.mk2 Tryd.func45 rfl rfl fun w0 F => ?_
  refine G.ownEither Tk.h (fun e1 e2 e3 => ?_) (fun b cap e1 e2 e3 => ?_)
  · subst e1 e2 e3
    refine G.ownNil (T := 77) (sz := 64) ?_
    (refine G.seq ?_; refine G.region ?_; refine GO.assign rfl rfl ?_; refine GO.nil ?_; refine kthen_n ?_; refine G.seq ?_; refine G.seq ?_; refine G.region ?_; refine GO.move rfl rfl ?_; refine GO.eqNilS rfl rfl ?_; refine GO.nil ?_; refine kthen_n ?_; refine G.condT rfl rfl ?_; refine G.seq ?_; refine G.region ?_; refine GO.assign rfl rfl ?_; refine GO.nil ?_; refine kthen_n ?_; refine G.ret ?_; refine kthen_r ?_)
    refine KF2.r1 rfl (RV.t rfl) rfl (ImpS.sb ?_)
    ((refine Sb.c Tk.h ?_; refine Sb.c Tk.h ?_); (exact Sb.r))
  · subst e1
    (refine G.seq ?_; refine G.region ?_; refine GO.assign rfl rfl ?_; refine GO.nil ?_; refine kthen_n ?_; refine G.seq ?_; refine G.seq ?_; refine G.region ?_; refine GO.move rfl rfl ?_; refine GO.eqNilS rfl rfl ?_; refine GO.nil ?_; refine kthen_n ?_; refine G.condF rfl rfl ?_; refine G.skip ?_; refine kthen_n ?_; refine G.seq ?_; refine G.region ?_)
    refine GO.buildSlice0 rfl fun v5 => ?_
    (refine GO.move rfl rfl ?_)
    refine GO.appendFrom (m := n) (q := own 77 64 n (.slice (some ⟨b, 0, none⟩) n cap) xs) rfl rfl rfl Tk.h Tk.h (Sl.ofOwn e2) h1 ⟨by decide, rfl⟩ (by rw [Nat.zero_add]; exact e3) (by omega) fun v7 => ?_
    rw [List.nil_append, Nat.zero_add n]
    (refine GO.assign rfl rfl ?_; refine GO.nil ?_; refine kthen_n ?_; refine G.ret ?_)
    refine KF2.r1 rfl (RV.t rfl) rfl (ImpS.sb ?_)
    ((refine Sb.c Tk.h ?_; refine Sb.c Tk.h ?_); (exact Sb.r))
theorem partsV_one (P : Nat → Nat → Nat) (np : Nat) : ∀ u ∈ partsV P np, u.oneCell' = true := by
  intro u hu
  unfold partsV grid at hu
  obtain ⟨n, _, hn⟩ := List.mem_flatMap.1 hu
  simp only [partR, List.mem_cons, List.not_mem_nil, or_false] at hn
  rcases hn with rfl | rfl | rfl | rfl <;> rfl
theorem leavesV_one (B : Nat → Blk) (nl : Nat) : ∀ u ∈ leavesV B nl, u.oneCell' = true := by
  intro u hu
  unfold leavesV grid at hu
  obtain ⟨n, _, hn⟩ := List.mem_flatMap.1 hu
  exact cells_one _ u hn
set_option maxHeartbeats 2000000 in
theorem copy_mat (side b : Nat) (X : Nat → Nat → Bool) : Fn Tryd.prog 19 #[.pointer (some ⟨b, 0, none⟩)] [mat side X b] (fun r Q => ∃ b', r = .pointer (some ⟨b', 0, none⟩) ∧ Q = [mat side X b', mat side X b]) := by
  refine Fn.mk2 Tryd.func19 rfl rfl fun w0 F => ?_
  (refine G.seq ?_; refine G.region ?_; refine GO.assign rfl rfl ?_; refine GO.nil ?_; refine kthen_n ?_; refine G.seq ?_; refine G.seq ?_; refine G.region ?_; refine GO.move rfl rfl ?_)
  refine GO.call1 rfl rfl (is_mat side b X) (Tks.c Tk.h Tks.n) ?_
  rintro _ _ ⟨rfl, rfl⟩
  (refine GO.not rfl rfl ?_; refine GO.nil ?_; refine kthen_n ?_; refine G.condF rfl rfl ?_; refine G.skip ?_; refine kthen_n ?_; refine G.seq ?_; refine G.region ?_; refine GO.move rfl rfl ?_; refine GO.nilCheck rfl rfl ?_)
  refine GO.matOpen Tk.h fun g hg => ?_
  have hpw := (show MatOK side X g.D g.np g.nl g.P g.B g.cnt from hg).pow
  obtain ⟨D, np, nl, P, B, cn, vp, vl⟩ := g
  dsimp only [MG.pcs] at hpw ⊢
  refine GO.ownOne (Tk.t Tk.h) fun honep => ?_
  refine GO.ownOne (Tk.t (Tk.t Tk.h)) fun honel => ?_
  have h5 : ∀ u ∈ [i64 side, i64 D, i64 cn, vp, vl], u.oneCell' = true := by
    intro u hu
    simp only [List.mem_cons, List.not_mem_nil, or_false] at hu
    rcases hu with rfl | rfl | rfl | rfl | rfl
    · rfl
    · rfl
    · rfl
    · exact honep
    · exact honel
  (refine GO.loadW rfl rfl rfl Tk.h rfl ?_; refine GO.alloc rfl fun b3 => ?_)
  refine GO.storeW rfl rfl Tk.h ⟨rfl, rfl⟩ h5 ?_
  (refine GO.nil ?_; refine kthen_n ?_; refine G.seq ?_; refine G.region ?_; refine GO.move rfl rfl ?_; refine GO.nilCheck rfl rfl ?_; refine GO.fieldAddr rfl rfl ?_; refine GO.load1 rfl rfl rfl (Tk.t Tk.h) rfl ?_)
  refine GO.call1 rfl rfl (cloneP_spec np vp (partsV P np) (partsV_one P np) (by omega)) (Tks.c (Tk.t (Tk.t Tk.h)) Tks.n) ?_
  rintro v1 _ rfl
  refine GO.ownOne Tk.h fun hone1 => ?_
  (refine GO.fieldAddr rfl rfl ?_; refine GO.store1 rfl rfl (by assumption) (Tk.t (Tk.t Tk.h)) (by simp) ?_; refine GO.nil ?_; refine kthen_n ?_; refine G.seq ?_; refine G.region ?_; refine GO.move rfl rfl ?_; refine GO.nilCheck rfl rfl ?_; refine GO.fieldAddr rfl rfl ?_; refine GO.load1 rfl rfl rfl (Tk.t (Tk.t (Tk.t Tk.h))) rfl ?_)
  refine GO.call1 rfl rfl (cloneL_spec nl vl (leavesV B nl) (leavesV_one B nl) (by omega)) (Tks.c (Tk.t (Tk.t (Tk.t (Tk.t Tk.h)))) Tks.n) ?_
  rintro v2 _ rfl
  refine GO.ownOne Tk.h fun hone2 => ?_
  (refine GO.fieldAddr rfl rfl ?_; refine GO.store1 rfl rfl (by assumption) (Tk.t (Tk.t Tk.h)) (by simp) ?_; refine GO.nil ?_; refine kthen_n ?_; refine G.seq ?_; refine G.region ?_; refine GO.assign rfl rfl ?_; refine GO.nil ?_; refine kthen_n ?_; refine G.ret ?_)
  refine KF2.r1 rfl (RV.t rfl) ⟨_, rfl, rfl⟩ ?_
  refine ImpS.mat ⟨D, np, nl, P, B, cn, v1, v2⟩ hg ?_
  refine ImpS.trans (ImpS.sb (M := matP b side D cn vp vl :: parP np vp P :: leaP nl vl B :: matP b3 side D cn v1 v2 :: parP np v1 P :: leaP nl v2 B :: F) ?_) (ImpS.trans (ImpS.mat ⟨D, np, nl, P, B, cn, vp, vl⟩ hg ImpS.refl) (ImpS.sb ?_))
  · ((refine Sb.c (Tk.t (Tk.t (Tk.t (Tk.t (Tk.t Tk.h))))) ?_; refine Sb.c (Tk.t (Tk.t (Tk.t (Tk.t Tk.h)))) ?_; refine Sb.c (Tk.t (Tk.t Tk.h)) ?_; refine Sb.c Tk.h ?_; refine Sb.c (Tk.t Tk.h) ?_; refine Sb.c Tk.h ?_); (exact Sb.r))
  · dsimp only [MG.pcs]
    ((refine Sb.c (Tk.t Tk.h) ?_; refine Sb.c (Tk.t Tk.h) ?_; refine Sb.c (Tk.t Tk.h) ?_; refine Sb.c Tk.h ?_); (exact Sb.r))
end Go.Proofs.YtfoahdfflchidaaDoor
namespace Go.Proofs.YtfoahdfflchidaaDoor
open Go
/-- A placed block's cells. -/
def qV (i j : Int) (C : Blk) : List Value := [i64 i, i64 j] ++ cells C
theorem qV_len (i j : Int) (C : Blk) : (qV i j C).length = 66 := by simp [qV, cells_len]
theorem zV_len : (List.replicate 2 (Value.int IntKind.i64 0) ++ List.replicate 64 (Value.int IntKind.u64 0)).length = 66 := by simp
theorem qV_one (i j : Int) (C : Blk) : ∀ u ∈ qV i j C, u.oneCell' = true := by
  intro u hu
  simp only [qV, List.mem_append, List.mem_cons, List.not_mem_nil, or_false] at hu
  rcases hu with (rfl | rfl) | hu
  · rfl
  · rfl
  · exact cells_one _ u hu
abbrev plV (X : Nat → Nat → Bool) (z : Nat) : List Value := qV ((z / 16 : Nat) : Int) ((z % 16 : Nat) : Int) (blkAt X (z / 16) (z % 16))
theorem allV_get {X : Nat → Nat → Bool} {l : List Nat} {k z j : Nat} (h : l[k]? = some z) (hj : j < 66) : (allV X l)[k * 66 + j]? = (plV X z)[j]? := by
  have := flat_get (enc := plV X) (k := 66) (fun z => qV_len _ _ _) hj l k
  rw [h] at this
  exact this
section
variable {P : Program} {c : Cx} {A : Array Oper} {rest os : List Oper} {K : Kont} {L : Env} {H F : List HP} {t : TypeId} {p : String} {e : Array Edge} {d : Nat}
/-- A placed block out of a list of them. -/
theorem GO.loadQV {el : TypeId} {n b cap o k z : Nat} {X : Nat → Nat → Bool} {l : List Nat} {ty : TypeId} {ds : TypeDesc} {x : Operand} [hu : UL P ty ds] [hs : SZ P ty 66] (hd : ds.isRow = true) (hN : Nat.blt d c.N = true) (hx : evl L x = some (.pointer (some ⟨b, o, none⟩))) (ho : o = 0 + k * 66) (hz : l[k]? = some z)
    (tk : Tk (own el 66 n (.slice (some ⟨b, 0, none⟩) n cap) (allV X l)) H F) (k : GO P c A rest K ((d, .agg (plV X z).toArray) :: L) H) : GO P c A (⟨some d, .load ty x, t, p, e, none⟩ :: rest) K L H :=
  GO.loadM (vs := plV X z) hd hN hx tk (qV_len _ _ _) (fun j u hj => by
    have hj66 : j < 66 := by have := (List.getElem?_eq_some_iff.1 hj).1; rw [qV_len] at this; exact this
    refine Rd.own ?_
    rw [ho, Nat.zero_add, allV_get hz hj66]
    exact hj) k
/-- A placed block's block. -/
theorem GO.loadB2 {b o : Nat} {i j : Int} {C : Blk} {T ty : TypeId} {ds : TypeDesc} {x : Operand} [hu : UL P ty ds] [hs : SZ P ty 64] (hd : ds.isRow = true) (hN : Nat.blt d c.N = true) (hx : evl L x = some (.pointer (some ⟨b, o, none⟩))) (ho : o = 2)
    (tk : Tk (pt b (row (qV i j C) T)) H F) (k : GO P c A rest K ((d, blk C) :: L) H) : GO P c A (⟨some d, .load ty x, t, p, e, none⟩ :: rest) K L H :=
  GO.loadM (vs := cells C) hd hN hx tk (cells_len _) (fun m u hm => by
    refine Rd.row ?_
    rw [ho, show 2 + m = m + 1 + 1 by omega]
    exact hm) k
/-- .. its place. -/
theorem GO.loadA2 {b o : Nat} {i j : Int} {C : Blk} {T ty : TypeId} {ds : TypeDesc} {x : Operand} [hu : UL P ty ds] [hs : SZ P ty 2] (hd : ds.isRow = true) (hN : Nat.blt d c.N = true) (hx : evl L x = some (.pointer (some ⟨b, o, none⟩))) (ho : o = 0)
    (tk : Tk (pt b (row (qV i j C) T)) H F) (k : GO P c A rest K ((d, .agg [i64 i, i64 j].toArray) :: L) H) : GO P c A (⟨some d, .load ty x, t, p, e, none⟩ :: rest) K L H :=
  GO.loadM (vs := [i64 i, i64 j]) hd hN hx tk rfl (fun m u hm => by
    refine Rd.row ?_
    subst ho
    match m, hm with
    | 0, hm => exact hm
    | 1, hm => exact hm) k
theorem G.matFact {side b : Nat} {X : Nat → Nat → Bool} {C : Code} (tk : Tk (mat side X b) H F) (k : (1 ≤ side ∧ side ≤ 1024) → (∀ r c, X r c = true → r < side ∧ c < side) → G P c C K L H) : G P c C K L H := by
  unfold G
  rintro a w h
  obtain ⟨h1, h2, ds, h3, h4, h5⟩ := id h
  obtain ⟨g, hg, _⟩ := sat_mat.1 (sat_perm (List.Perm.append_right _ tk) h5)
  have := k (show MatOK side X g.D g.np g.nl g.P g.B g.cnt from hg).sd (show MatOK side X g.D g.np g.nl g.P g.B g.cnt from hg).inn
  unfold G at this
  exact this a w h
end
theorem mat_side {side b : Nat} {X : Nat → Nat → Bool} : Rd (mat side X b) ⟨b, 0, none⟩ (i64 side) := fun l w s => by
  obtain ⟨g, _, s⟩ := sat_mat.1 s
  exact Rd.row rfl _ w s
attribute [local irreducible] G GO GR GT Fn FnV pt init exs pur sat own ImpS mat
/-- Blocks put into a matrix, one after the other. -/
def orL (fi fj : Nat → Nat) (fb : Nat → Blk) (Y : Nat → Nat → Bool) (l : List Nat) : Nat → Nat → Bool := l.foldl (fun Y z => orX Y (fi z) (fj z) (fb z)) Y
theorem orL_succ {fi fj : Nat → Nat} {fb : Nat → Blk} {Y : Nat → Nat → Bool} {l : List Nat} {k z : Nat} (h : l[k]? = some z) : orL fi fj fb Y (l.take (k + 1)) = orX (orL fi fj fb Y (l.take k)) (fi z) (fj z) (fb z) := by
  unfold orL; rw [List.take_add_one, h, List.foldl_append]; rfl
theorem orL_nil (fi fj : Nat → Nat) (fb : Nat → Blk) (Y : Nat → Nat → Bool) (l : List Nat) : orL fi fj fb Y (l.take 0) = Y := rfl
attribute [local irreducible] posL allV orL
set_option maxHeartbeats 2000000 in
theorem made_spec (side b : Nat) (X : Nat → Nat → Bool) (R : HP) (fv : Value) (fi fj : Nat → Nat) (fb : Nat → Blk) (hb : ∀ z ∈ posL X, ¬ 1073741824 ≤ fi z ∧ ¬ 1073741824 ≤ fj z ∧ FitB side (fi z) (fj z) (fb z))
    (hf : ∀ z ∈ posL X, FnV Tryd.prog fv [.agg (plV X z).toArray] [mat side X b, R] (fun r Q => r = .agg (qV (fi z) (fj z) (fb z)).toArray ∧ Q = [mat side X b, R])) :
    Fn Tryd.prog 38 #[.pointer (some ⟨b, 0, none⟩), fv] [mat side X b, R] (fun r Q => ∃ b', r = .pointer (some ⟨b', 0, none⟩) ∧ Q = [mat side (orL fi fj fb noX (posL X)) b', mat side X b, R]) := by
  refine Fn.mk Tryd.func38 rfl rfl fun w0 F => ?_
  refine G.matFact Tk.h fun hsd hin => ?_
  have hpl : ¬ 256 < (posL X).length := by have := posL_len X; omega
  have rs := mat_side (side := side) (b := b) (X := X)
  (refine G.seq ?_; refine G.region ?_; refine GO.assign rfl rfl ?_; refine GO.nil ?_; refine kthen_n ?_; refine G.seq ?_; refine G.region ?_; refine GO.move rfl rfl ?_; refine GO.nilCheck rfl rfl ?_; refine GO.fieldAddr rfl rfl ?_; refine GO.loadQ rfl rfl rfl Tk.h (by assumption) ?_)
  refine GO.call1 rfl rfl (new_spec (side : Int)) Tks.n ?_
  rintro _ _ (⟨n, b', hn, hn1, hn2, rfl, rfl⟩ | ⟨hno, rfl, rfl⟩)
  · obtain rfl : side = n := by omega
    clear hn
    (refine GO.move rfl rfl ?_; refine GO.extract rfl rfl rfl ?_; refine GO.extract rfl rfl rfl ?_; refine GO.assign rfl rfl ?_; refine GO.assign rfl rfl ?_; refine GO.nil ?_; refine kthen_n ?_; refine G.seq ?_; refine G.seq ?_; refine G.region ?_; refine GO.move rfl rfl ?_)
    refine GO.call1 rfl rfl (all_mat side b X) (Tks.c (Tk.t Tk.h) Tks.n) ?_
    rintro v19 _ rfl
    (refine GO.lenOwn rfl rfl Tk.h ?_; refine GO.move rfl rfl ?_; refine GO.nil ?_; refine kthen_n ?_; refine G.block ?_)
    refine G.loop (fun k : Nat => [(1, fv), (5, .pointer (some ⟨b', 0, none⟩)), (19, v19), (20, i64 (posL X).length), (21, i64 k)])
      (fun k => own 84 66 (posL X).length v19 (allV X (posL X)) :: mat side X b :: mat side (orL fi fj fb noX ((posL X).take k)) b' :: R :: F) (fun k => k ≤ (posL X).length) (fun k => (posL X).length - k) 0 (by omega) ?_ ?_ ?_
    · (refine SubE.c rfl rfl ?_; refine SubE.c rfl rfl ?_; refine SubE.c rfl rfl ?_; refine SubE.c rfl rfl ?_; refine SubE.c rfl rfl ?_; exact SubE.n)
    · rw [orL_nil]
      ((refine Sb.c Tk.h ?_; refine Sb.c Tk.h ?_; refine Sb.c Tk.h ?_; refine Sb.c Tk.h ?_); (exact Sb.r))
    rintro k hk
    (refine G.seq ?_; refine G.region ?_; refine GO.lti rfl rfl rfl ?_; refine GO.nil ?_; refine kthen_n ?_; refine G.seq ?_)
    refine G.condD rfl (fun hlt => ?_) (fun hge => ?_)
    · have hlt' : k < (posL X).length := by omega
      obtain ⟨z, hz⟩ : ∃ z, (posL X)[k]? = some z := ⟨(posL X)[k], by simp [hlt']⟩
      refine G.ownForm (by omega) Tk.h fun bl capl e2 hd1 hd2 hd3 => ?_
      subst e2
      have hzm := List.mem_of_getElem? hz
      obtain ⟨hb1, hb2, hb3⟩ := hb z hzm
      clear hlt'
      (refine G.skip ?_; refine kthen_n ?_; refine G.seq ?_; refine G.block ?_; refine G.seq ?_; refine G.region ?_)
      refine GO.idxS (j := k) rfl rfl rfl ⟨rfl, by omega⟩ ?_
      refine GO.loadQV rfl rfl rfl rfl hz Tk.h ?_
      (refine GO.alloc rfl fun b8 => ?_; refine GO.storeW rfl rfl Tk.h ⟨qV_len _ _ _, zV_len⟩ (qV_one _ _ _) ?_; refine GO.nil ?_; refine kthen_n ?_; refine G.seq ?_; refine G.region ?_; refine GO.move rfl rfl ?_; refine GO.loadW rfl rfl rfl Tk.h (qV_len _ _ _) ?_)
      refine GO.callV1 rfl rfl rfl (hf z hzm) (Tks.c (Tk.t (Tk.t Tk.h)) (Tks.c (Tk.t (Tk.t (Tk.t Tk.h))) Tks.n)) ?_
      rintro _ _ ⟨rfl, rfl⟩
      (refine GO.alloc rfl fun b9 => ?_; refine GO.storeW rfl rfl Tk.h ⟨qV_len _ _ _, zV_len⟩ (qV_one _ _ _) ?_; refine GO.nil ?_; refine kthen_n ?_; refine G.region ?_; refine GO.move rfl rfl ?_; refine GO.fieldAddr rfl rfl ?_; refine GO.fieldAddr rfl rfl ?_; refine GO.load1 rfl rfl rfl Tk.h rfl ?_; refine GO.fieldAddr rfl rfl ?_; refine GO.fieldAddr rfl rfl ?_; refine GO.load1 rfl rfl rfl Tk.h rfl ?_; refine GO.fieldAddr rfl rfl ?_; refine GO.loadB2 rfl rfl rfl rfl Tk.h ?_)
      refine GO.call4 rfl rfl rfl rfl rfl (or_mat side b' (fi z) (fj z) (orL fi fj fb noX ((posL X).take k)) (fb z) (by omega) (by omega) hb3) (Tks.c (Tk.t (Tk.t (Tk.t (Tk.t (Tk.t Tk.h))))) Tks.n) ?_
      rintro _ _ ⟨rfl, rfl⟩
      (refine GO.nil ?_; refine kblock_n ?_; refine kthen_n ?_; refine G.region ?_; refine GO.addi rfl rfl rfl (by omega) ?_; refine GO.move rfl rfl ?_; refine GO.nil ?_; refine kthen_n ?_)
      refine ⟨k + 1, by omega, by omega, ?_, ?_⟩
      · (refine SubE.c rfl rfl ?_; refine SubE.c rfl rfl ?_; refine SubE.c rfl rfl ?_; refine SubE.c rfl rfl ?_; refine SubE.c rfl rfl ?_; exact SubE.n)
      · rw [orL_succ hz]
        ((refine Sb.c (Tk.t (Tk.t (Tk.t (Tk.t (Tk.t Tk.h))))) ?_; refine Sb.c (Tk.t (Tk.t Tk.h)) ?_; refine Sb.c Tk.h ?_; refine Sb.c (Tk.t Tk.h) ?_); (refine Sb.s ?_; refine Sb.s ?_; exact Sb.r))
    · obtain rfl : k = (posL X).length := by omega
      rw [List.take_length]
      (refine G.exit ?_; refine kthen_x ?_; refine kthen_x ?_; refine kblock_x ?_; refine kthen_n ?_; refine G.seq ?_; refine G.region ?_; refine GO.move rfl rfl ?_; refine GO.assign rfl rfl ?_; refine GO.nil ?_; refine kthen_n ?_; refine G.ret ?_)
      refine KF.r1 rfl (RV.t rfl) ⟨b', rfl, rfl⟩ ?_
      ((refine Sb.c (Tk.t (Tk.t Tk.h)) ?_; refine Sb.c (Tk.t Tk.h) ?_; refine Sb.c (Tk.t Tk.h) ?_); (refine Sb.s ?_; exact Sb.r))
  · exact absurd (by omega) hno
end Go.Proofs.YtfoahdfflchidaaDoor
namespace Go.Proofs.YtfoahdfflchidaaDoor
open Go
/-! ## What is put together -/
theorem orL_at (fi fj : Nat → Nat) (fb : Nat → Blk) (r c : Nat) : ∀ (l : List Nat) (Y : Nat → Nat → Bool), orL fi fj fb Y l r c = (Y r c || l.any fun z => decide (r / 64 = fi z) && (decide (c / 64 = fj z) && (fb z (r % 64)).getLsbD (c % 64)))
  | [], Y => by simp [orL]
  | z :: l, Y => by
    show orL fi fj fb (orX Y (fi z) (fj z) (fb z)) l r c = _
    rw [orL_at fi fj fb r c l, List.any_cons, ← Bool.or_assoc]
    rfl
theorem orL_eq {fi fj : Nat → Nat} {fb : Nat → Blk} {X Z : Nat → Nat → Bool} (h1 : ∀ z, z ∈ posL X → ∀ r c, r / 64 = fi z → c / 64 = fj z → (fb z (r % 64)).getLsbD (c % 64) = true → Z r c = true)
    (h2 : ∀ r c, Z r c = true → ∃ z, z ∈ posL X ∧ r / 64 = fi z ∧ c / 64 = fj z ∧ (fb z (r % 64)).getLsbD (c % 64) = true) : orL fi fj fb noX (posL X) = Z := by
  funext r c
  rw [orL_at]
  show (false || _) = _
  rw [Bool.false_or, Bool.eq_iff_iff, List.any_eq_true]
  constructor
  · rintro ⟨z, hz, h⟩
    simp only [Bool.and_eq_true, decide_eq_true_eq] at h
    exact h1 z hz r c h.1 h.2.1 h.2.2
  · intro h
    obtain ⟨z, hz, e1, e2, e3⟩ := h2 r c h
    exact ⟨z, hz, by simp only [Bool.and_eq_true, decide_eq_true_eq]; exact ⟨e1, e2, e3⟩⟩
theorem posL_of {side : Nat} {X : Nat → Nat → Bool} (hs : side ≤ 1024) (hin : ∀ r c, X r c = true → r < side ∧ c < side) {r c : Nat} (h : X r c = true) : 16 * (r / 64) + c / 64 ∈ posL X ∧ (16 * (r / 64) + c / 64) / 16 = r / 64 ∧ (16 * (r / 64) + c / 64) % 16 = c / 64 := by
  have := hin r c h
  have e1 : (16 * (r / 64) + c / 64) / 16 = r / 64 := by omega
  have e2 : (16 * (r / 64) + c / 64) % 16 = c / 64 := by omega
  refine ⟨posL_mem.2 ⟨by omega, ?_⟩, e1, e2⟩
  rw [e1, e2, hasB_iff]
  exact ⟨r % 64, c % 64, Nat.mod_lt _ (by decide), Nat.mod_lt _ (by decide), by rw [blk_part, blk_part]; exact h⟩
/-- Turned over. -/
def flipX (X : Nat → Nat → Bool) : Nat → Nat → Bool := fun r c => X c r
/-- .. without another one's cells. -/
def diffX (X Y : Nat → Nat → Bool) : Nat → Nat → Bool := fun r c => X r c && !Y r c
theorem turn_fold {side : Nat} {X : Nat → Nat → Bool} (hs : side ≤ 1024) (hin : ∀ r c, X r c = true → r < side ∧ c < side) : orL (fun z => z % 16) (fun z => z / 16) (fun z => turnB (blkAt X (z / 16) (z % 16))) noX (posL X) = flipX X := by
  refine orL_eq (fun z hz r c h1 h2 h3 => ?_) (fun r c h => ?_)
  · rw [turnB_bit _ _ _ (Nat.mod_lt _ (by decide)), blkAt_bit _ _ _ _ _ (Nat.mod_lt _ (by decide)), ← h1, ← h2, blk_part, blk_part] at h3
    exact h3
  · obtain ⟨h1, h2, h3⟩ := posL_of hs hin (show X c r = true from h)
    refine ⟨_, h1, h3.symm, h2.symm, ?_⟩
    rw [turnB_bit _ _ _ (Nat.mod_lt _ (by decide)), h2, h3, blkAt_bit _ _ _ _ _ (Nat.mod_lt _ (by decide)), blk_part, blk_part]
    exact h
theorem less_fold {side : Nat} {X : Nat → Nat → Bool} (Y : Nat → Nat → Bool) (hs : side ≤ 1024) (hin : ∀ r c, X r c = true → r < side ∧ c < side) : orL (fun z => z / 16) (fun z => z % 16) (fun z => lessB (blkAt X (z / 16) (z % 16)) (blkAt Y (z / 16) (z % 16))) noX (posL X) = diffX X Y := by
  have e : ∀ (i j r c : Nat), c < 64 → (lessB (blkAt X i j) (blkAt Y i j) r).getLsbD c = (X (64 * i + r) (64 * j + c) && !Y (64 * i + r) (64 * j + c)) := fun i j r c hc => by
    unfold lessB
    rw [BitVec.getLsbD_and, BitVec.getLsbD_not, blkAt_bit _ _ _ _ _ hc, blkAt_bit _ _ _ _ _ hc]
    simp [hc]
  refine orL_eq (fun z hz r c h1 h2 h3 => ?_) (fun r c h => ?_)
  · rw [e _ _ _ _ (Nat.mod_lt _ (by decide)), ← h1, ← h2, blk_part, blk_part] at h3
    exact h3
  · have hX : X r c = true := by unfold diffX at h; simp only [Bool.and_eq_true] at h; exact h.1
    obtain ⟨h1, h2, h3⟩ := posL_of hs hin hX
    refine ⟨_, h1, h2.symm, h3.symm, ?_⟩
    rw [e _ _ _ _ (Nat.mod_lt _ (by decide)), h2, h3, blk_part, blk_part]
    exact h
attribute [local irreducible] G GO GR GT Fn FnV pt init exs pur sat own ImpS mat posL allV orL
/-! ## Turn -/
theorem turn1_spec (i j : Int) (C : Blk) (R : List HP) : Fn Tryd.prog 39 #[.agg (qV i j C).toArray] R (fun r Q => r = .agg (qV j i (turnB C)).toArray ∧ Q = R) := by
  refine Fn.mk Tryd.func39 rfl rfl fun w0 F => ?_
  (refine G.seq ?_; refine G.region ?_; refine GO.box rfl rfl rfl fun b1 => ?_; refine GO.alloc rfl fun b2 => ?_; refine GO.nil ?_; refine kthen_n ?_; refine G.seq ?_)
  refine G.draw 11 (by kernel_rfl) ?_
  ((apply GQ.step; focus (intro Z; refine GO.fieldAddr rfl rfl ?_; exact KQ.z)); (apply GQ.step; focus (intro Z; refine GO.fieldAddr rfl rfl ?_; exact KQ.z)); (apply GQ.step; focus (intro Z; refine GO.load1 rfl rfl rfl (Tk.t Tk.h) rfl ?_; exact KQ.z)); (apply GQ.step; focus (intro Z; refine GO.fieldAddr rfl rfl ?_; exact KQ.z)); (apply GQ.step; focus (intro Z; refine GO.fieldAddr rfl rfl ?_; exact KQ.z)); (apply GQ.step; focus (intro Z; refine GO.load1 rfl rfl rfl (Tk.t Tk.h) rfl ?_; exact KQ.z)); (apply GQ.step; focus (intro Z; refine GO.build2 rfl rfl rfl rfl ?_; exact KQ.z)); (apply GQ.step; focus (intro Z; refine GO.fieldAddr rfl rfl ?_; exact KQ.z)); (apply GQ.step; focus (intro Z; refine GO.loadB2 rfl rfl rfl rfl (Tk.t Tk.h) ?_; exact KQ.z)))
  apply GQ.step; focus (intro Z; refine GO.call1 rfl rfl (turn_spec C) Tks.n ?_; rintro _ _ ⟨rfl, rfl⟩; exact KQ.z)
  apply GQ.step; focus (intro Z; refine GO.build2 rfl rfl rfl (by simp [blk, Value.cells, cells_len, putParts]) ?_; exact KQ.zv (v := .agg (qV j i (turnB C)).toArray) (by simp [putParts, qV, blk, Value.cells]))
  refine GQ.nil ?_
  (refine GO.storeW rfl rfl Tk.h ⟨qV_len _ _ _, zV_len⟩ (qV_one _ _ _) ?_; refine GO.nil ?_; refine kthen_n ?_; refine G.ret ?_)
  refine KF.r1 rfl (RV.cW rfl rfl (by (exact Tk.h)) (qV_len _ _ _)) ⟨rfl, rfl⟩ ?_
  exact Sb.s (Sb.s Sb.r)
theorem flip_fit {side z : Nat} {X : Nat → Nat → Bool} (hin : ∀ r c, X r c = true → r < side ∧ c < side) : FitB side (z % 16) (z / 16) (turnB (blkAt X (z / 16) (z % 16))) := fun r c hr hc hb => by
  rw [turnB_bit _ _ _ hc, blkAt_bit _ _ _ _ _ hr] at hb
  have := hin _ _ hb
  omega
theorem turn_mat (side b : Nat) (X : Nat → Nat → Bool) : Fn Tryd.prog 16 #[.pointer (some ⟨b, 0, none⟩)] [mat side X b] (fun r Q => ∃ b', r = .pointer (some ⟨b', 0, none⟩) ∧ Q = [mat side (flipX X) b', mat side X b]) := by
  refine Fn.mk Tryd.func16 rfl rfl fun w0 F => ?_
  refine G.matFact Tk.h fun hsd hin => ?_
  refine G.imp (H' := pur True :: _) (fun l w s => sat_pur.2 ⟨trivial, s⟩) ?_
  have hfold := turn_fold hsd.2 hin
  (refine G.seq ?_; refine G.region ?_; refine GO.assign rfl rfl ?_; refine GO.nil ?_; refine kthen_n ?_; refine G.seq ?_; refine G.seq ?_; refine G.region ?_; refine GO.move rfl rfl ?_)
  refine GO.call1 rfl rfl (is_mat side b X) (Tks.c (Tk.t Tk.h) Tks.n) ?_
  rintro _ _ ⟨rfl, rfl⟩
  (refine GO.not rfl rfl ?_; refine GO.nil ?_; refine kthen_n ?_; refine G.condF rfl rfl ?_; refine G.skip ?_; refine kthen_n ?_; refine G.seq ?_; refine G.region ?_; refine GO.move rfl rfl ?_)
  refine GO.call2 rfl rfl rfl (made_spec side b X (pur True) (.func (.func 39) #[] #[]) (fun z => z % 16) (fun z => z / 16) (fun z => turnB (blkAt X (z / 16) (z % 16))) (fun z hz => ⟨by have := (posL_mem.1 hz).1; omega, by have := (posL_mem.1 hz).1; omega, flip_fit hin⟩) (fun z hz => FnV.of (args := [.agg (plV X z).toArray]) (caps := []) (turn1_spec _ _ _ _))) (Tks.c Tk.h (Tks.c Tk.h Tks.n)) ?_
  rintro _ _ ⟨b', rfl, rfl⟩
  rw [hfold]
  (refine GO.assign rfl rfl ?_; refine GO.nil ?_; refine kthen_n ?_; refine G.ret ?_)
  refine KF.r1 rfl (RV.t rfl) ⟨b', rfl, rfl⟩ ?_
  ((refine Sb.c Tk.h ?_; refine Sb.c Tk.h ?_); (refine Sb.s ?_; exact Sb.r))
end Go.Proofs.YtfoahdfflchidaaDoor
namespace Go.Proofs.YtfoahdfflchidaaDoor
open Go
theorem hasM_nat {side i j : Nat} (hi : 64 * i < side) (hj : 64 * j < side) : hasM side i j = true := by
  unfold hasM
  simp only [Bool.and_eq_true, decide_eq_true_eq]
  omega
theorem G.impS {P : Program} {c : Cx} {K : Kont} {L : Env} {H H' : List HP} {C : Code} (h : ImpS H H') (k : G P c C K L H') : G P c C K L H := G.imp h k
theorem GO.impS {P : Program} {c : Cx} {A : Array Oper} {os : List Oper} {K : Kont} {L : Env} {H H' : List HP} (h : ImpS H H') (k : GO P c A os K L H') : GO P c A os K L H := GO.imp h k
theorem ImpS.unflat {l M : List HP} : ImpS (star l :: M) (l ++ M) := fun _ _ s => by
  rw [List.append_assoc]
  exact sat_flat.1 s
attribute [local irreducible] G GO GR GT Fn FnV pt init exs pur sat own ImpS mat posL allV orL
set_option maxHeartbeats 2000000 in
theorem less1_spec (i j : Nat) (C : Blk) (side b bo bb : Nat) (X Y : Nat → Nat → Bool) (hi : 64 * i < side) (hj : 64 * j < side) :
    Fn Tryd.prog 47 #[.agg (qV i j C).toArray, .pointer (some ⟨bb, 0, none⟩)] [mat side X b, star [pt bb (row [.pointer (some ⟨bo, 0, none⟩)] 24), mat side Y bo]]
      (fun r Q => r = .agg (qV i j (lessB C (blkAt Y i j))).toArray ∧ Q = [mat side X b, star [pt bb (row [.pointer (some ⟨bo, 0, none⟩)] 24), mat side Y bo]]) := by
  have hh := hasM_nat hi hj
  clear hi hj
  refine Fn.mk2 Tryd.func47 rfl rfl fun w0 F => ?_
  refine G.take (Tk.t Tk.h) (G.flat ?_)
  (refine G.seq ?_; refine G.region ?_; refine GO.box rfl rfl rfl fun b2 => ?_; refine GO.alloc rfl fun b3 => ?_; refine GO.nil ?_; refine kthen_n ?_; refine G.seq ?_; refine G.region ?_; refine GO.load1 rfl rfl rfl (Tk.t (Tk.t Tk.h)) rfl ?_; refine GO.fieldAddr rfl rfl ?_; refine GO.fieldAddr rfl rfl ?_; refine GO.load1 rfl rfl rfl (Tk.t Tk.h) rfl ?_; refine GO.fieldAddr rfl rfl ?_; refine GO.fieldAddr rfl rfl ?_; refine GO.load1 rfl rfl rfl (Tk.t Tk.h) rfl ?_)
  refine GO.call3 rfl rfl rfl rfl (block_mat side bo Y i j) (Tks.c (Tk.t (Tk.t (Tk.t Tk.h))) Tks.n) ?_
  rintro _ _ ⟨rfl, rfl⟩
  rw [blockM_t hh]
  (refine GO.move rfl rfl ?_; refine GO.extract rfl rfl rfl ?_; refine GO.extract rfl rfl rfl ?_; refine GO.alloc rfl fun b4 => ?_)
  rw [cells_zero]
  (refine GO.storeW rfl rfl Tk.h ⟨cells_len _, cells_len _⟩ (cells_one _) ?_; refine GO.assign rfl rfl ?_; refine GO.nil ?_; refine kthen_n ?_; refine G.seq ?_)
  refine G.draw 7 (by kernel_rfl) ?_
  ((apply GQ.step; focus (intro Z; refine GO.fieldAddr rfl rfl ?_; exact KQ.z)); (apply GQ.step; focus (intro Z; refine GO.loadA2 rfl rfl rfl rfl (Tk.t (Tk.t (Tk.t Tk.h))) ?_; exact KQ.z)); (apply GQ.step; focus (intro Z; refine GO.fieldAddr rfl rfl ?_; exact KQ.z)); (apply GQ.step; focus (intro Z; refine GO.loadB2 rfl rfl rfl rfl (Tk.t (Tk.t (Tk.t Tk.h))) ?_; exact KQ.z)); (apply GQ.step; focus (intro Z; refine GO.loadW rfl rfl rfl Tk.h (cells_len _) ?_; exact KQ.z)))
  apply GQ.step; focus (intro Z; refine GO.call2 rfl rfl rfl (less_spec C (blkAt Y i j)) Tks.n ?_; rintro _ _ ⟨rfl, rfl⟩; exact KQ.z)
  apply GQ.step; focus (intro Z; refine GO.build2 rfl rfl rfl (by simp [blk, Value.cells, cells_len, putParts]) ?_; exact KQ.zv (v := .agg (qV i j (lessB C (blkAt Y i j))).toArray) (by simp [putParts, qV, blk, Value.cells]))
  refine GQ.nil ?_
  refine GO.storeW rfl rfl (Tk.t (Tk.t Tk.h)) ⟨qV_len _ _ _, by simp [cells_len]⟩ (qV_one _ _ _) ?_
  (refine GO.nil ?_; refine kthen_n ?_; refine G.ret ?_)
  refine KF2.r1 rfl (RV.cW rfl rfl (by (exact Tk.h)) (qV_len _ _ _)) ⟨rfl, rfl⟩ ?_
  refine ImpS.trans (ImpS.sb (M := pt bb (row [.pointer (some ⟨bo, 0, none⟩)] 24) :: mat side Y bo :: mat side X b :: F) ?_) ?_
  · ((refine Sb.c (Tk.t (Tk.t (Tk.t (Tk.t Tk.h)))) ?_; refine Sb.c (Tk.t (Tk.t Tk.h)) ?_; refine Sb.c (Tk.t (Tk.t (Tk.t Tk.h))) ?_); (refine Sb.s ?_; refine Sb.s ?_; refine Sb.s ?_; exact Sb.r))
  · exact ImpS.trans (ImpS.flat (k := [pt bb (row [.pointer (some ⟨bo, 0, none⟩)] 24), mat side Y bo]) (M := mat side X b :: F) ImpS.refl) (ImpS.sb (by ((refine Sb.c (Tk.t Tk.h) ?_; refine Sb.c Tk.h ?_); (exact Sb.r))))
theorem less_fit {side z : Nat} {X : Nat → Nat → Bool} {D : Blk} (hin : ∀ r c, X r c = true → r < side ∧ c < side) : FitB side (z / 16) (z % 16) (lessB (blkAt X (z / 16) (z % 16)) D) := fun r c hr hc hb => by
  unfold lessB at hb
  rw [BitVec.getLsbD_and, blkAt_bit _ _ _ _ _ hc] at hb
  simp only [Bool.and_eq_true] at hb
  have := hin _ _ hb.1
  omega
theorem posL_at {side z : Nat} {X : Nat → Nat → Bool} (hin : ∀ r c, X r c = true → r < side ∧ c < side) (hz : z ∈ posL X) : 64 * (z / 16) < side ∧ 64 * (z % 16) < side := by
  obtain ⟨r, c, hr, hc, hx⟩ := hasB_iff.1 (posL_mem.1 hz).2
  have := hin _ _ hx
  omega
def lessR (s s2 : Nat) (X Y : Nat → Nat → Bool) (b bo : Nat) (r : Value) (Q : List HP) : Prop :=
  (s = s2 ∧ ∃ b', r = .tuple #[.pointer (some ⟨b', 0, none⟩), i64 0] ∧ Q = [mat s (diffX X Y) b', mat s X b, mat s2 Y bo]) ∨ (s ≠ s2 ∧ r = .tuple #[.pointer none, i64 5] ∧ Q = [mat s X b, mat s2 Y bo])
set_option maxHeartbeats 2000000 in
theorem less_mat (s s2 b bo : Nat) (X Y : Nat → Nat → Bool) : Fn Tryd.prog 21 #[.pointer (some ⟨b, 0, none⟩), .pointer (some ⟨bo, 0, none⟩)] [mat s X b, mat s2 Y bo] (lessR s s2 X Y b bo) := by
  refine Fn.mk2 Tryd.func21 rfl rfl fun w0 F => ?_
  refine G.matFact Tk.h fun hsd hin => ?_
  have hfold := less_fold Y hsd.2 hin
  have rs := mat_side (side := s) (b := b) (X := X)
  have rs2 := mat_side (side := s2) (b := bo) (X := Y)
  (refine G.seq ?_; refine G.region ?_; refine GO.box rfl rfl rfl fun b3 => ?_; refine GO.assign rfl rfl ?_; refine GO.assign rfl rfl ?_; refine GO.nil ?_; refine kthen_n ?_; refine G.seq ?_; refine G.block ?_; refine G.seq ?_; refine G.region ?_; refine GO.move rfl rfl ?_)
  refine GO.call1 rfl rfl (is_mat s b X) (Tks.c (Tk.t Tk.h) Tks.n) ?_
  rintro _ _ ⟨rfl, rfl⟩
  (refine GO.not rfl rfl ?_; refine GO.move rfl rfl ?_; refine GO.gT rfl rfl rfl ?_; refine GO.load1 rfl rfl rfl (Tk.t Tk.h) rfl ?_; refine GO.gT rfl rfl rfl ?_)
  refine GO.call1 rfl rfl (is_mat s2 bo Y) (Tks.c (Tk.t (Tk.t Tk.h)) Tks.n) ?_
  rintro _ _ ⟨rfl, rfl⟩
  (refine GO.gT rfl rfl rfl ?_; refine GO.not rfl rfl ?_; refine GO.pickF rfl rfl rfl ?_; refine GO.assign rfl rfl ?_; refine GO.nil ?_; refine kthen_n ?_; refine G.condF rfl rfl ?_; refine G.seq ?_)
  refine G.draw 10 (by kernel_rfl) ?_
  ((apply GQ.step; focus (intro Z; refine GO.move rfl rfl ?_; exact KQ.z)); (apply GQ.step; focus (intro Z; refine GO.nilCheck rfl rfl ?_; exact KQ.z)); (apply GQ.step; focus (intro Z; refine GO.fieldAddr rfl rfl ?_; exact KQ.z)); (apply GQ.step; focus (intro Z; refine GO.loadQ rfl rfl rfl (Tk.t Tk.h) (by assumption) ?_; exact KQ.z)); (apply GQ.step; focus (intro Z; refine GO.load1 rfl rfl rfl (Tk.t (Tk.t Tk.h)) rfl ?_; exact KQ.z)); (apply GQ.step; focus (intro Z; refine GO.nilCheck rfl rfl ?_; exact KQ.z)); (apply GQ.step; focus (intro Z; refine GO.fieldAddr rfl rfl ?_; exact KQ.z)); (apply GQ.step; focus (intro Z; refine GO.loadQ rfl rfl rfl Tk.h (by assumption) ?_; exact KQ.z)); (apply GQ.step; focus (intro Z; refine GO.nei rfl rfl rfl ?_; exact KQ.z)); (apply GQ.step; focus (intro Z; refine GO.assign rfl rfl ?_; exact KQ.z)); refine GQ.nil ?_)
  (refine GO.nil ?_; refine kthen_n ?_)
  refine G.condD rfl (fun h1 => ?_) (fun h1 => ?_)
  · (refine G.seq ?_; refine G.region ?_; refine GO.assign rfl rfl ?_; refine GO.assign rfl rfl ?_; refine GO.nil ?_; refine kthen_n ?_; refine G.ret ?_; refine kblock_r ?_; refine kthen_r ?_)
    refine KF2.r2 rfl (RV.t rfl) (RV.t rfl) (.inr ⟨by omega, rfl, rfl⟩) (ImpS.sb ?_)
    ((refine Sb.c (Tk.t Tk.h) ?_; refine Sb.c Tk.h ?_); (refine Sb.s ?_; exact Sb.r))
  · obtain rfl : s = s2 := by omega
    (refine G.skip ?_; refine kblock_n ?_; refine kthen_n ?_; refine G.seq ?_; refine G.region ?_; refine GO.move rfl rfl ?_; refine GO.makeFunc1 rfl rfl ?_)
    refine GO.impS (H' := star [pt b3 (row [.pointer (some ⟨bo, 0, none⟩)] 24), mat s Y bo] :: mat s X b :: F) (ImpS.trans (ImpS.sb (M := pt b3 (row [.pointer (some ⟨bo, 0, none⟩)] 24) :: mat s Y bo :: mat s X b :: F) (by ((refine Sb.c (Tk.t (Tk.t Tk.h)) ?_; refine Sb.c Tk.h ?_; refine Sb.c Tk.h ?_); (exact Sb.r)))) (ImpS.flat (k := [pt b3 (row [.pointer (some ⟨bo, 0, none⟩)] 24), mat s Y bo]) (M := mat s X b :: F) ImpS.refl)) ?_
    refine GO.call2 rfl rfl rfl (made_spec s b X (star [pt b3 (row [.pointer (some ⟨bo, 0, none⟩)] 24), mat s Y bo]) (.func (.func 47) #[] #[.pointer (some ⟨b3, 0, none⟩)]) (fun z => z / 16) (fun z => z % 16) (fun z => lessB (blkAt X (z / 16) (z % 16)) (blkAt Y (z / 16) (z % 16))) (fun z hz => ⟨by have := (posL_mem.1 hz).1; omega, by have := (posL_mem.1 hz).1; omega, less_fit hin⟩) (fun z hz => FnV.of (args := [.agg (plV X z).toArray]) (caps := [.pointer (some ⟨b3, 0, none⟩)]) (less1_spec _ _ _ _ _ _ _ _ _ (posL_at hin hz).1 (posL_at hin hz).2))) (Tks.c (Tk.t Tk.h) (Tks.c Tk.h Tks.n)) ?_
    rintro _ _ ⟨b', rfl, rfl⟩
    rw [hfold]
    (refine GO.assign rfl rfl ?_; refine GO.assign rfl rfl ?_; refine GO.nil ?_; refine kthen_n ?_; refine G.ret ?_)
    refine KF2.r2 rfl (RV.t rfl) (RV.t rfl) (.inl ⟨rfl, b', rfl, rfl⟩) ?_
    refine ImpS.cons Tk.h (ImpS.cons Tk.h ?_)
    refine ImpS.trans ImpS.unflat (ImpS.sb ?_)
    ((refine Sb.c (Tk.t Tk.h) ?_); (refine Sb.s ?_; exact Sb.r))
end Go.Proofs.YtfoahdfflchidaaDoor
namespace Go.Proofs.YtfoahdfflchidaaDoor
open Go
theorem EqFs.pl {d : Nat} {f1 f2 : Field} {i j i' j' : Int} {C C' : Blk} (n1 : f1.name ≠ "_") (n2 : f2.name ≠ "_") (t1 : f1.type = 34) (t2 : f2.type = 77) (o1 : f1.offset = 0) (o2 : f2.offset = 2) :
    EqFs Tryd.prog (d + 2) (qV i j C) (qV i' j' C') [f1, f2] ((decide (i = i') && decide (j = j')) && eqBlk C C') := by
  have ht : ∀ D : Blk, (cells D).take 64 = cells D := fun D => List.take_of_length_le (by rw [cells_len]; exact Nat.le_refl _)
  refine ⟨.agg [i64 i, i64 j].toArray, .agg [i64 i', i64 j'].toArray, decide (i = i') && decide (j = j'), eqBlk C C', n1, ?_, ?_, ?_, ⟨.agg (cells C).toArray, .agg (cells C').toArray, eqBlk C C', true, n2, ?_, ?_, ?_, rfl, by simp⟩, rfl⟩
  · rw [t1, o1]; exact PartR.many (n := 2) rfl rfl
  · rw [t1, o1]; exact PartR.many (n := 2) rfl rfl
  · rw [t1]; exact EqR.cell
  · rw [t2, o2]; exact PartR.many (n := 64) rfl (ht C)
  · rw [t2, o2]; exact PartR.many (n := 64) rfl (ht C')
  · rw [t2]; exact EqR.blk
theorem EqR.pl {d : Nat} {i j i' j' : Int} {C C' : Blk} : EqR Tryd.prog (d + 3) 84 (.agg (qV i j C).toArray) (.agg (qV i' j' C').toArray) ((decide (i = i') && decide (j = j')) && eqBlk C C') :=
  EqR.struct (P := Tryd.prog) (d := d + 2) (t := 84) (l := qV i j C) (l' := qV i' j' C') (EqFs.pl (by decide) (by decide) rfl rfl rfl rfl)
theorem qV_inj {i j i' j' : Int} {C C' : Blk} : (((decide (i = i') && decide (j = j')) && eqBlk C C') = true) ↔ qV i j C = qV i' j' C' := by
  constructor
  · intro h
    simp only [Bool.and_eq_true, decide_eq_true_eq] at h
    obtain ⟨⟨rfl, rfl⟩, h⟩ := h
    unfold qV
    rw [cells_congr (eqBlk_e h)]
  · intro h
    unfold qV at h
    simp only [List.cons_append, List.nil_append, List.cons.injEq] at h
    obtain ⟨h1, h2, h3⟩ := h
    injection h1 with _ h1
    injection h2 with _ h2
    rw [eqBlk_t fun r hr => cells_inj h3 hr]
    simp [h1, h2]
theorem same_sub {X Y : Nat → Nat → Bool} {side : Nat} (hs : side ≤ 1024) (hin : ∀ r c, X r c = true → r < side ∧ c < side) (h : ∀ u, u ∈ (posL X).map (plV X) → u ∈ (posL Y).map (plV Y)) {r c : Nat} (hx : X r c = true) : Y r c = true := by
  obtain ⟨h1, h2, h3⟩ := posL_of hs hin hx
  obtain ⟨y, hy, e⟩ := List.mem_map.1 (h _ (List.mem_map_of_mem h1))
  have e' := (qV_inj (C := blkAt Y (y / 16) (y % 16))).2 e
  simp only [Bool.and_eq_true, decide_eq_true_eq] at e'
  obtain ⟨⟨e1, e2⟩, e3⟩ := e'
  have e1' : y / 16 = r / 64 := by omega
  have e2' : y % 16 = c / 64 := by omega
  have := eqBlk_e e3 (r % 64) (Nat.mod_lt _ (by decide))
  rw [h2, h3, e1', e2'] at this
  have hb := congrArg (fun x => x.getLsbD (c % 64)) this
  simp only [blkAt_bit _ _ _ _ _ (Nat.mod_lt c (show 0 < 64 by decide)), blk_part] at hb
  rw [hb]; exact hx
theorem same_iff {X Y : Nat → Nat → Bool} {side : Nat} (hs : side ≤ 1024) (hin : ∀ r c, X r c = true → r < side ∧ c < side) (hin2 : ∀ r c, Y r c = true → r < side ∧ c < side) : (posL X).map (plV X) = (posL Y).map (plV Y) ↔ X = Y := by
  constructor
  · intro h
    funext r c
    rw [Bool.eq_iff_iff]
    exact ⟨same_sub hs hin fun u hu => h ▸ hu, same_sub hs hin2 fun u hu => h ▸ hu⟩
  · rintro rfl; rfl
attribute [local irreducible] G GO GR GT Fn FnV pt init exs pur sat own ImpS mat posL allV orL
set_option maxHeartbeats 2000000 in
theorem equal_spec (X Y : Nat → Nat → Bool) (l m : List Nat) (v u : Value) (hl : ¬ 256 < l.length) (hm : ¬ 256 < m.length) : Fn Tryd.prog 36 #[v, u] [own 84 66 l.length v (allV X l), own 84 66 m.length u (allV Y m)]
    (fun r Q => ∃ bb, r = .bool bb ∧ (bb = true ↔ l.map (plV X) = m.map (plV Y)) ∧ Q = [own 84 66 l.length v (allV X l), own 84 66 m.length u (allV Y m)]) := by
  refine Fn.mk Tryd.func36 rfl rfl fun w0 F => ?_
  (refine G.seq ?_; refine G.region ?_; refine GO.assign rfl rfl ?_; refine GO.nil ?_; refine kthen_n ?_; refine G.seq ?_; refine G.seq ?_; refine G.region ?_; refine GO.move rfl rfl ?_; refine GO.lenOwn rfl rfl Tk.h ?_; refine GO.move rfl rfl ?_; refine GO.lenOwn rfl rfl (Tk.t Tk.h) ?_; refine GO.nei rfl rfl rfl ?_; refine GO.nil ?_; refine kthen_n ?_)
  refine G.condD rfl (fun h1 => ?_) (fun h1 => ?_)
  · (refine G.seq ?_; refine G.region ?_; refine GO.assign rfl rfl ?_; refine GO.nil ?_; refine kthen_n ?_; refine G.ret ?_; refine kthen_r ?_)
    refine KF.r1 rfl (RV.t rfl) ⟨false, rfl, ⟨fun h => Bool.noConfusion h, fun h => absurd (congrArg List.length h) (by rw [List.length_map, List.length_map]; omega)⟩, rfl⟩ ?_
    ((refine Sb.c Tk.h ?_; refine Sb.c Tk.h ?_); (exact Sb.r))
  · have hlm : l.length = m.length := by omega
    (refine G.skip ?_; refine kthen_n ?_; refine G.seq ?_; refine G.seq ?_; refine G.region ?_; refine GO.move rfl rfl ?_; refine GO.lenOwn rfl rfl Tk.h ?_; refine GO.move rfl rfl ?_; refine GO.nil ?_; refine kthen_n ?_; refine G.block ?_)
    refine G.loop (fun k : Nat => [(0, v), (1, u), (12, i64 l.length), (13, i64 k)])
      (fun _ => own 84 66 l.length v (allV X l) :: own 84 66 m.length u (allV Y m) :: F) (fun k => k ≤ l.length ∧ ∀ i, i < k → (l.map (plV X))[i]? = (m.map (plV Y))[i]?) (fun k => l.length - k) 0 ⟨by omega, fun i hi => by omega⟩ ?_ ?_ ?_
    · (refine SubE.c rfl rfl ?_; refine SubE.c rfl rfl ?_; refine SubE.c rfl rfl ?_; refine SubE.c rfl rfl ?_; exact SubE.n)
    · ((refine Sb.c Tk.h ?_; refine Sb.c Tk.h ?_); (exact Sb.r))
    rintro k ⟨hk, hsm⟩
    (refine G.seq ?_; refine G.region ?_; refine GO.lti rfl rfl rfl ?_; refine GO.nil ?_; refine kthen_n ?_; refine G.seq ?_)
    refine G.condD rfl (fun hlt => ?_) (fun hge => ?_)
    · refine G.ownForm (by omega) Tk.h fun b1 c1 e1 _ _ _ => ?_
      refine G.ownForm (by omega) (Tk.t Tk.h) fun b2 c2 e2 _ _ _ => ?_
      subst e1 e2
      obtain ⟨z, hz⟩ : ∃ z, l[k]? = some z := ⟨l[k]'(by omega), by rw [List.getElem?_eq_getElem]⟩
      obtain ⟨y, hy⟩ : ∃ y, m[k]? = some y := ⟨m[k]'(by omega), by rw [List.getElem?_eq_getElem]⟩
      (refine G.skip ?_; refine kthen_n ?_; refine G.seq ?_; refine G.block ?_; refine G.seq ?_; refine G.region ?_; refine GO.move rfl rfl ?_; refine GO.assign rfl rfl ?_; refine GO.nil ?_; refine kthen_n ?_; refine G.seq ?_)
      refine G.draw 9 (by kernel_rfl) ?_
      ((apply GQ.step; focus (intro Z; refine GO.move rfl rfl ?_; exact KQ.z)); (apply GQ.step; focus (intro Z; refine GO.move rfl rfl ?_; exact KQ.z)); (apply GQ.step; focus (intro Z; refine GO.idxS rfl rfl rfl ⟨rfl, by omega⟩ ?_; exact KQ.z)); (apply GQ.step; focus (intro Z; refine GO.loadQV rfl rfl rfl rfl (by assumption) Tk.h ?_; exact KQ.z)); (apply GQ.step; focus (intro Z; refine GO.move rfl rfl ?_; exact KQ.z)); (apply GQ.step; focus (intro Z; refine GO.move rfl rfl ?_; exact KQ.z)); (apply GQ.step; focus (intro Z; refine GO.idxS rfl rfl rfl ⟨rfl, by omega⟩ ?_; exact KQ.z)); (apply GQ.step; focus (intro Z; refine GO.loadQV rfl rfl rfl rfl (by assumption) (Tk.t Tk.h) ?_; exact KQ.z)))
      apply GQ.step; focus (intro Z; refine GO.neqA EqR.pl rfl rfl rfl ?_; exact KQ.z)
      refine GQ.nil ?_
      have hq := qV_inj (i := ((z / 16 : Nat) : Int)) (j := ((z % 16 : Nat) : Int)) (i' := ((y / 16 : Nat) : Int)) (j' := ((y % 16 : Nat) : Int)) (C := blkAt X (z / 16) (z % 16)) (C' := blkAt Y (y / 16) (y % 16))
      generalize ((decide (((z / 16 : Nat) : Int) = ((y / 16 : Nat) : Int)) && decide (((z % 16 : Nat) : Int) = ((y % 16 : Nat) : Int))) && eqBlk (blkAt X (z / 16) (z % 16)) (blkAt Y (y / 16) (y % 16))) = bb at hq ⊢
      cases bb with
      | true =>
        have hzy : plV X z = plV Y y := hq.1 rfl
        clear hq
        (refine GO.nil ?_; refine kthen_n ?_; refine G.condF rfl rfl ?_; refine G.skip ?_; refine kblock_n ?_; refine kthen_n ?_; refine G.region ?_; refine GO.addi rfl rfl rfl (by omega) ?_; refine GO.move rfl rfl ?_; refine GO.nil ?_; refine kthen_n ?_)
        refine ⟨k + 1, ⟨by omega, fun i hi => ?_⟩, by omega, ?_, ?_⟩
        · rcases Nat.lt_succ_iff_lt_or_eq.1 hi with h | h
          · exact hsm i h
          · rw [h, List.getElem?_map, List.getElem?_map, hz, hy]; exact congrArg some hzy
        · (refine SubE.c rfl rfl ?_; refine SubE.c rfl rfl ?_; refine SubE.c rfl rfl ?_; refine SubE.c rfl rfl ?_; exact SubE.n)
        · ((refine Sb.c Tk.h ?_; refine Sb.c Tk.h ?_); (exact Sb.r))
      | false =>
        have hne : l.map (plV X) ≠ m.map (plV Y) := fun h => by
          have h2 := congrArg (fun x => x[k]?) h
          simp only [List.getElem?_map, hz, hy, Option.map_some] at h2
          have := hq.2 (Option.some.inj h2)
          cases this
        clear hq
        (refine GO.nil ?_; refine kthen_n ?_; refine G.condT rfl rfl ?_; refine G.seq ?_; refine G.region ?_; refine GO.assign rfl rfl ?_; refine GO.nil ?_; refine kthen_n ?_; refine G.ret ?_; refine kblock_r ?_; refine kthen_r ?_; refine kthen_r ?_; refine kblock_r ?_; refine kthen_r ?_)
        refine KF.r1 rfl (RV.t rfl) ⟨false, rfl, ⟨fun h => Bool.noConfusion h, fun h => absurd h hne⟩, rfl⟩ ?_
        ((refine Sb.c Tk.h ?_; refine Sb.c Tk.h ?_); (exact Sb.r))
    · (refine G.exit ?_; refine kthen_x ?_; refine kthen_x ?_; refine kblock_x ?_; refine kthen_n ?_; refine G.seq ?_; refine G.region ?_; refine GO.assign rfl rfl ?_; refine GO.nil ?_; refine kthen_n ?_; refine G.ret ?_)
      refine KF.r1 rfl (RV.t rfl) ⟨true, rfl, ⟨fun _ => ?_, fun _ => rfl⟩, rfl⟩ ?_
      · apply List.ext_getElem?
        intro i
        by_cases hi : i < k
        · exact hsm i hi
        · rw [List.getElem?_eq_none (by rw [List.length_map]; omega), List.getElem?_eq_none (by rw [List.length_map]; omega)]
      · ((refine Sb.c Tk.h ?_; refine Sb.c Tk.h ?_); (exact Sb.r))
/-! ## Same -/
set_option maxHeartbeats 2000000 in
theorem same_mat (s s2 b bo : Nat) (X Y : Nat → Nat → Bool) : Fn Tryd.prog 14 #[.pointer (some ⟨b, 0, none⟩), .pointer (some ⟨bo, 0, none⟩)] [mat s X b, mat s2 Y bo] (fun r Q => ∃ bb, r = .bool bb ∧ (bb = true ↔ s = s2 ∧ X = Y) ∧ Q = [mat s X b, mat s2 Y bo]) := by
  refine Fn.mk Tryd.func14 rfl rfl fun w0 F => ?_
  refine G.matFact Tk.h fun hsd hin => ?_
  refine G.matFact (Tk.t Tk.h) fun hsd2 hin2 => ?_
  have hp1 : ¬ 256 < (posL X).length := by have := posL_len X; omega
  have hp2 : ¬ 256 < (posL Y).length := by have := posL_len Y; omega
  have rs := mat_side (side := s) (b := b) (X := X)
  have rs2 := mat_side (side := s2) (b := bo) (X := Y)
  (refine G.seq ?_; refine G.region ?_; refine GO.assign rfl rfl ?_; refine GO.nil ?_; refine kthen_n ?_; refine G.seq ?_; refine G.seq ?_; refine G.region ?_; refine GO.move rfl rfl ?_)
  refine GO.call1 rfl rfl (is_mat s b X) (Tks.c Tk.h Tks.n) ?_
  rintro _ _ ⟨rfl, rfl⟩
  (refine GO.not rfl rfl ?_; refine GO.move rfl rfl ?_; refine GO.gT rfl rfl rfl ?_; refine GO.move rfl rfl ?_; refine GO.gT rfl rfl rfl ?_)
  refine GO.call1 rfl rfl (is_mat s2 bo Y) (Tks.c (Tk.t Tk.h) Tks.n) ?_
  rintro _ _ ⟨rfl, rfl⟩
  (refine GO.gT rfl rfl rfl ?_; refine GO.not rfl rfl ?_; refine GO.pickF rfl rfl rfl ?_; refine GO.nil ?_; refine kthen_n ?_; refine G.condF rfl rfl ?_; refine G.skip ?_; refine kthen_n ?_; refine G.seq ?_)
  refine G.drawT 15 26624 [mat s X b, mat s2 Y bo] F (by kernel_rfl) (keys_of rfl) (ImpS.sb (by ((refine Sb.c (Tk.t Tk.h) ?_; refine Sb.c Tk.h ?_); (exact Sb.r)))) ?_
  cases h1 : decide ((s : Int) = (s2 : Int)) with
  | true =>
    have hss : s = s2 := by have := of_decide_eq_true h1; omega
    ((apply GR.step rfl; focus (intro Z; refine GO.move rfl rfl ?_; exact KQ.z)); (apply GR.step rfl; focus (intro Z; refine GO.nilCheck rfl rfl ?_; exact KQ.z)); (apply GR.step rfl; focus (intro Z; refine GO.fieldAddr rfl rfl ?_; exact KQ.z)); (apply GR.step rfl; focus (intro Z; refine GO.loadQ rfl rfl rfl Tk.h (by assumption) ?_; exact KQ.z)); (apply GR.step rfl; focus (intro Z; refine GO.move rfl rfl ?_; exact KQ.z)); (apply GR.step rfl; focus (intro Z; refine GO.nilCheck rfl rfl ?_; exact KQ.z)); (apply GR.step rfl; focus (intro Z; refine GO.fieldAddr rfl rfl ?_; exact KQ.z)); (apply GR.step rfl; focus (intro Z; refine GO.loadQ rfl rfl rfl (Tk.t Tk.h) (by assumption) ?_; exact KQ.z)); (apply GR.step rfl; focus (intro Z; refine GO.eqi rfl rfl rfl ?_; exact KQ.z)); (apply GR.step rfl; focus (intro Z; refine GO.move rfl rfl ?_; exact KQ.z)); (apply GR.step rfl; focus (intro Z; refine GO.gT rfl rfl (by assumption) ?_; refine GO.move rfl rfl ?_; exact KQ.z)); refine GR.skip rfl ?_; (apply GR.step rfl; focus (intro Z; refine GO.gT rfl rfl (by assumption) ?_; refine GO.move rfl rfl ?_; exact KQ.z)); refine GR.skip rfl ?_; refine GR.skip rfl ?_; refine GR.nil ?_)
    (repeat refine GT.skip rfl ?_)
    refine GT.step rfl ?_
    refine GO.gT rfl rfl h1 ?_
    refine GO.call1 rfl rfl (all_mat s b X) (Tks.c Tk.h Tks.n) ?_
    rintro v32 _ rfl
    refine GO.nil ⟨rfl, _, own 84 66 (posL X).length v32 (allV X (posL X)) :: F, rfl, ImpS.sb (by ((refine Sb.c (Tk.t Tk.h) ?_; refine Sb.c (Tk.t Tk.h) ?_; refine Sb.c Tk.h ?_); (exact Sb.r))), ?_⟩
    (repeat refine GT.skip rfl ?_)
    refine GT.step rfl ?_
    refine GO.gT rfl rfl h1 ?_
    refine GO.call1 rfl rfl (all_mat s2 bo Y) (Tks.c (Tk.t Tk.h) Tks.n) ?_
    rintro v34 _ rfl
    refine GO.nil ⟨rfl, _, own 84 66 (posL Y).length v34 (allV Y (posL Y)) :: own 84 66 (posL X).length v32 (allV X (posL X)) :: F, rfl, ImpS.sb (by ((refine Sb.c (Tk.t (Tk.t Tk.h)) ?_; refine Sb.c (Tk.t Tk.h) ?_; refine Sb.c Tk.h ?_; refine Sb.c Tk.h ?_); (exact Sb.r))), ?_⟩
    (repeat refine GT.skip rfl ?_)
    refine GT.step rfl ?_
    refine GO.gT rfl rfl h1 ?_
    refine GO.call2 rfl rfl rfl (equal_spec X Y (posL X) (posL Y) v32 v34 hp1 hp2) (Tks.c (Tk.t (Tk.t (Tk.t Tk.h))) (Tks.c (Tk.t (Tk.t Tk.h)) Tks.n)) ?_
    rintro _ _ ⟨bb, rfl, hbb, rfl⟩
    refine GO.nil ⟨rfl, _, own 84 66 (posL Y).length v34 (allV Y (posL Y)) :: own 84 66 (posL X).length v32 (allV X (posL X)) :: F, rfl, ImpS.sb (by ((refine Sb.c (Tk.t (Tk.t Tk.h)) ?_; refine Sb.c (Tk.t (Tk.t Tk.h)) ?_; refine Sb.c (Tk.t Tk.h) ?_; refine Sb.c Tk.h ?_); (exact Sb.r))), ?_⟩
    refine GT.nil ?_
    (refine GO.pickTa rfl rfl (by assumption) rfl ?_; refine GO.assign rfl rfl ?_; refine GO.nil ?_; refine kthen_n ?_; refine G.ret ?_)
    refine KF.r1 rfl (RV.t rfl) ⟨bb, rfl, ?_, rfl⟩ ?_
    · rw [hbb, same_iff hsd.2 hin (hss ▸ hin2)]
      exact ⟨fun h => ⟨hss, h⟩, fun h => h.2⟩
    · ((refine Sb.c Tk.h ?_; refine Sb.c Tk.h ?_); (refine Sb.s ?_; refine Sb.s ?_; exact Sb.r))
  | false =>
    have hss : ¬ s = s2 := by have := of_decide_eq_false h1; omega
    ((apply GR.step rfl; focus (intro Z; refine GO.move rfl rfl ?_; exact KQ.z)); (apply GR.step rfl; focus (intro Z; refine GO.nilCheck rfl rfl ?_; exact KQ.z)); (apply GR.step rfl; focus (intro Z; refine GO.fieldAddr rfl rfl ?_; exact KQ.z)); (apply GR.step rfl; focus (intro Z; refine GO.loadQ rfl rfl rfl Tk.h (by assumption) ?_; exact KQ.z)); (apply GR.step rfl; focus (intro Z; refine GO.move rfl rfl ?_; exact KQ.z)); (apply GR.step rfl; focus (intro Z; refine GO.nilCheck rfl rfl ?_; exact KQ.z)); (apply GR.step rfl; focus (intro Z; refine GO.fieldAddr rfl rfl ?_; exact KQ.z)); (apply GR.step rfl; focus (intro Z; refine GO.loadQ rfl rfl rfl (Tk.t Tk.h) (by assumption) ?_; exact KQ.z)); (apply GR.step rfl; focus (intro Z; refine GO.eqi rfl rfl rfl ?_; exact KQ.z)); (apply GR.step rfl; focus (intro Z; refine GO.move rfl rfl ?_; exact KQ.z)); (apply GR.step rfl; focus (intro Z; refine GO.gF rfl rfl rfl (by assumption) ?_; exact KQ.z)); refine GR.skip rfl ?_; (apply GR.step rfl; focus (intro Z; refine GO.gF rfl rfl rfl (by assumption) ?_; exact KQ.z)); refine GR.skip rfl ?_; refine GR.skip rfl ?_; refine GR.nil ?_)
    (repeat refine GT.skip rfl ?_)
    refine GT.step rfl ?_
    refine GO.gF rfl rfl rfl h1 ?_
    refine GO.nil ⟨rfl, _, F, rfl, ImpS.sb (by ((refine Sb.c Tk.h ?_; refine Sb.c Tk.h ?_); (exact Sb.r))), ?_⟩
    (repeat refine GT.skip rfl ?_)
    refine GT.step rfl ?_
    refine GO.gF rfl rfl rfl h1 ?_
    refine GO.nil ⟨rfl, _, F, rfl, ImpS.sb (by ((refine Sb.c Tk.h ?_; refine Sb.c Tk.h ?_); (exact Sb.r))), ?_⟩
    (repeat refine GT.skip rfl ?_)
    refine GT.step rfl ?_
    refine GO.gF rfl rfl rfl h1 ?_
    refine GO.nil ⟨rfl, _, F, rfl, ImpS.sb (by ((refine Sb.c Tk.h ?_; refine Sb.c Tk.h ?_); (exact Sb.r))), ?_⟩
    refine GT.nil ?_
    (refine GO.pickFa rfl rfl (by assumption) rfl ?_; refine GO.assign rfl rfl ?_; refine GO.nil ?_; refine kthen_n ?_; refine G.ret ?_)
    refine KF.r1 rfl (RV.t rfl) ⟨false, rfl, ⟨fun h => Bool.noConfusion h, fun h => absurd h.1 hss⟩, rfl⟩ ?_
    ((refine Sb.c Tk.h ?_; refine Sb.c Tk.h ?_); (exact Sb.r))
end Go.Proofs.YtfoahdfflchidaaDoor
namespace Go.Proofs.YtfoahdfflchidaaDoor
open Go
theorem cnt_one {x : BitVec 64} {c : Nat} (h : ∀ i, i < 64 → x.getLsbD i = decide (i = c)) : ∀ n, n ≤ 64 → cnt x n = if c < n then 1 else 0
  | 0, _ => by simp [cnt]
  | n + 1, hn => by
    simp only [cnt]
    rw [cnt_one h n (by omega), h n (by omega)]
    by_cases e : n = c
    · subst e; simp
    · rw [decide_eq_false e]
      by_cases e2 : c < n
      · have e3 : c < n + 1 := by omega
        simp [e2, e3]
      · have e3 : ¬ c < n + 1 := by omega
        simp [e2, e3]
theorem lenB_single {A : Blk} {r c : Nat} (hc : c < 64) (h : ∀ r' c', c' < 64 → (A r').getLsbD c' = (decide (r' = r) && decide (c' = c))) : ∀ n, lenB A n = if r < n then 1 else 0
  | 0 => rfl
  | n + 1 => by
    simp only [lenB]
    rw [lenB_single hc h n, ones_cnt]
    by_cases e : n = r
    · subst e
      rw [cnt_one (c := c) (fun i hi => by rw [h n i hi]; simp) 64 (Nat.le_refl _), if_pos hc]; simp
    · rw [cnt_none fun i hi => by rw [h n i hi, decide_eq_false e]; rfl]
      by_cases e2 : r < n
      · rw [if_pos e2, if_pos (by omega)]
      · rw [if_neg e2, if_neg (by omega)]
theorem cntX_add {X : Nat → Nat → Bool} {i j : Nat} (hi : i < 1024) (hj : j < 1024) (h : X i j = false) : cntX (addX X i j) = cntX X + 1 := by
  rw [← addX_or, cntX_or X (by omega) (by omega), lenB_single (r := i % 64) (c := j % 64) (Nat.mod_lt _ (by decide)), if_pos (Nat.mod_lt _ (by decide))]
  intro r c hc
  have hb : (bitB zeroB (i % 64) (j % 64) r).getLsbD c = (decide (r = i % 64) && decide (c = j % 64)) := by
    unfold bitB updB
    by_cases e : r = i % 64
    · rw [if_pos e, decide_eq_true e, Bool.true_and, BitVec.getLsbD_or, getLsbD_bit _ _ hc]
      simp [zeroB]
    · rw [if_neg e, decide_eq_false e]; simp [zeroB]
  unfold lessB
  rw [BitVec.getLsbD_and, hb, BitVec.getLsbD_not, blkAt_bit _ _ _ _ _ hc]
  by_cases e : r = i % 64 ∧ c = j % 64
  · obtain ⟨rfl, rfl⟩ := e
    rw [blk_part, blk_part, h]; simp [hc]
  · by_cases e1 : r = i % 64
    · have e2 : ¬ c = j % 64 := fun h => e ⟨e1, h⟩
      simp [e2]
    · simp [e1]
attribute [local irreducible] G GO GR GT Fn FnV pt init exs pur sat own ImpS mat posL allV orL
end Go.Proofs.YtfoahdfflchidaaDoor
namespace Go.Proofs.YtfoahdfflchidaaDoor
open Go
def exM : List (Int × Int) := [(0, 99), (70, 3)]
def exX : Nat → Nat → Bool := setL noX exM
theorem exX_at : exX 0 99 = true := by decide
theorem exX_len : cntX exX = 2 := by
  show cntX (addX (addX noX 0 99) 70 3) = 2
  rw [cntX_add (by decide) (by decide) (by decide), cntX_add (by decide) (by decide) (by decide), cntX_no]
theorem exM_in : inL 100 exM = true := by decide
theorem exX_def : setL noX exM = exX := rfl
theorem exG1 : getM exX 100 0 99 = .tuple #[.bool true, i64 0] := by
  unfold getM
  rw [if_pos (by decide), show exX (0 : Int).toNat (99 : Int).toNat = true from exX_at]
theorem exG2 : getM exX 100 0 100 = .tuple #[.bool false, i64 2] := by
  unfold getM
  rw [if_neg (by decide)]
attribute [local irreducible] G GO GR GT Fn FnV pt init exs pur sat own ImpS mat posL allV orL exX
set_option maxHeartbeats 4000000 in
theorem mawake_spec : Fn Tryd.prog 15 #[] [] (fun v Q => v = .bool true ∧ Q = []) := by
  refine Fn.mk Tryd.func15 rfl rfl fun w0 F => ?_
  (refine G.seq ?_; refine G.region ?_; refine GO.assign rfl rfl ?_; refine GO.nil ?_; refine kthen_n ?_; refine G.seq ?_; refine G.region ?_; refine GO.build2 rfl rfl rfl rfl ?_; refine GO.build2 rfl rfl rfl rfl ?_)
  refine GO.buildSlice2 rfl rfl rfl (by simp [putParts, Value.cells]) rfl (by omega) fun b => ?_
  have hcs : SlR (pt b (row (putParts [Value.agg (putParts [i64 0, i64 99]).toArray, Value.agg (putParts [i64 70, i64 3]).toArray]) 34)) (.slice (some ⟨b, 0, none⟩) 2 2) exM.length 2 (cellsV exM) := SlR.own (l := cellsV exM) rfl
  refine GO.call2 rfl rfl rfl (mof_spec 100 _ _ exM hcs (by decide)) (Tks.c Tk.h Tks.n) ?_
  rintro _ _ (⟨n, b1, e1, hn1, hn2, hin, rfl, rfl⟩ | ⟨hno, rfl, rfl⟩)
  · obtain rfl : n = 100 := by omega
    rw [exX_def]
    (refine GO.move rfl rfl ?_; refine GO.extract rfl rfl rfl ?_; refine GO.extract rfl rfl rfl ?_; refine GO.assign rfl rfl ?_; refine GO.assign rfl rfl ?_; refine GO.nil ?_; refine kthen_n ?_; refine G.seq ?_; refine G.seq ?_; refine G.region ?_; refine GO.move rfl rfl ?_; refine GO.eqNilP rfl rfl ?_; refine GO.move rfl rfl ?_; refine GO.gT rfl rfl rfl ?_; refine GO.move rfl rfl ?_; refine GO.gT rfl rfl rfl ?_; refine GO.neF rfl rfl rfl rfl ?_; refine GO.pickF rfl rfl rfl ?_; refine GO.nil ?_; refine kthen_n ?_; refine G.condF rfl rfl ?_; refine G.skip ?_; refine kthen_n ?_; refine G.seq ?_; refine G.region ?_; refine GO.move rfl rfl ?_)
    refine GO.call3 rfl rfl rfl rfl (get_mat 100 b1 exX 0 99) (Tks.c Tk.h Tks.n) ?_
    rintro _ _ ⟨rfl, rfl⟩
    rw [exG1]
    (refine GO.move rfl rfl ?_; refine GO.extract rfl rfl rfl ?_; refine GO.extract rfl rfl rfl ?_; refine GO.assign rfl rfl ?_; refine GO.assign rfl rfl ?_; refine GO.nil ?_; refine kthen_n ?_; refine G.seq ?_; refine G.region ?_; refine GO.move rfl rfl ?_)
    refine GO.call3 rfl rfl rfl rfl (get_mat 100 b1 exX 0 100) (Tks.c Tk.h Tks.n) ?_
    rintro _ _ ⟨rfl, rfl⟩
    rw [exG2]
    (refine GO.move rfl rfl ?_; refine GO.extract rfl rfl rfl ?_; refine GO.extract rfl rfl rfl ?_; refine GO.assign rfl rfl ?_; refine GO.assign rfl rfl ?_; refine GO.nil ?_; refine kthen_n ?_; refine G.seq ?_; refine G.region ?_)
    refine GO.call1 rfl rfl (new_spec 1025) Tks.n ?_
    rintro _ _ (⟨n, b7, e1, hn1, hn2, rfl, rfl⟩ | ⟨hno, rfl, rfl⟩)
    · omega
    · (refine GO.move rfl rfl ?_; refine GO.extract rfl rfl rfl ?_; refine GO.extract rfl rfl rfl ?_; refine GO.assign rfl rfl ?_; refine GO.assign rfl rfl ?_; refine GO.nil ?_; refine kthen_n ?_; refine G.seq ?_; refine G.region ?_; refine GO.move rfl rfl ?_; refine GO.move rfl rfl ?_; refine GO.gT rfl rfl rfl ?_; refine GO.move rfl rfl ?_; refine GO.gT rfl rfl rfl ?_; refine GO.eqT rfl rfl rfl rfl ?_; refine GO.pickT rfl rfl rfl ?_; refine GO.move rfl rfl ?_; refine GO.gT rfl rfl rfl ?_; refine GO.move rfl rfl ?_; refine GO.gT rfl rfl rfl ?_; refine GO.eqT rfl rfl rfl rfl ?_; refine GO.pickT rfl rfl rfl ?_; refine GO.move rfl rfl ?_; refine GO.gT rfl rfl rfl ?_; refine GO.move rfl rfl ?_; refine GO.gT rfl rfl rfl ?_; refine GO.eqNilP rfl rfl ?_; refine GO.pickT rfl rfl rfl ?_; refine GO.move rfl rfl ?_; refine GO.gT rfl rfl rfl ?_; refine GO.move rfl rfl ?_; refine GO.gT rfl rfl rfl ?_; refine GO.eqT rfl rfl rfl rfl ?_; refine GO.pickT rfl rfl rfl ?_; refine GO.move rfl rfl ?_; refine GO.gT rfl rfl rfl ?_; refine GO.move rfl rfl ?_; refine GO.gT rfl rfl rfl ?_)
      refine GO.call1 rfl rfl (len_mat 100 b1 exX) (Tks.c Tk.h Tks.n) ?_
      rintro _ _ ⟨rfl, rfl⟩
      rw [exX_len]
      (refine GO.gT rfl rfl rfl ?_; refine GO.eqT rfl rfl rfl rfl ?_; refine GO.pickT rfl rfl rfl ?_; refine GO.move rfl rfl ?_; refine GO.gT rfl rfl rfl ?_; refine GO.move rfl rfl ?_; refine GO.gT rfl rfl rfl ?_)
      refine GO.call1 rfl rfl (side_mat 100 b1 exX) (Tks.c Tk.h Tks.n) ?_
      rintro _ _ ⟨rfl, rfl⟩
      (refine GO.gT rfl rfl rfl ?_; refine GO.eqT rfl rfl rfl rfl ?_; refine GO.pickT rfl rfl rfl ?_; refine GO.assign rfl rfl ?_; refine GO.nil ?_; refine kthen_n ?_; refine G.ret ?_)
      refine KF.r1 rfl (RV.t rfl) ⟨rfl, rfl⟩ ?_
      (skip; (refine Sb.s ?_; refine Sb.s ?_; exact Sb.r))
  · exact absurd ⟨by decide, by decide, exM_in⟩ hno
end Go.Proofs.YtfoahdfflchidaaDoor
namespace Go.Proofs.YtfoahdfflchidaaDoor
open Go
theorem perm_j4 {a o b q : HP} {J F : List HP} : (a :: o :: b :: q :: (J ++ F)).Perm ((J ++ [q]) ++ (a :: o :: b :: F)) := by
  rw [List.append_assoc]
  refine List.Perm.trans (List.perm_append_comm_assoc [a, o, b, q] J F) (List.Perm.append_left J ?_)
  exact List.perm_middle (a := q) (l₁ := [a, o, b]) (l₂ := F)
theorem perm_j4a {a o b q : HP} {J F : List HP} : ((J ++ [q]) ++ (a :: o :: b :: F)).Perm ((o :: b :: q :: (J ++ F)) ++ [a]) := perm_j4.symm.trans (List.perm_append_singleton a _).symm
theorem end3 {o b q : HP} {J F : List HP} : ImpS (o :: b :: q :: (J ++ F)) ((J ++ ([q] ++ [star [o, b]])) ++ F) :=
  ImpS.trans (ImpS.flat (k := [o, b]) (M := q :: (J ++ F)) ImpS.refl) (ImpS.sb ⟨[], by rw [List.append_nil]; exact (List.Perm.swap _ _ _).trans perm_jq2⟩)
theorem end4 {a o b q : HP} {J F : List HP} : ImpS ((J ++ [q]) ++ (a :: o :: b :: F)) ((J ++ ([q] ++ [star [o, b]])) ++ F) := ImpS.trans (ImpS.sb ⟨[a], perm_j4a⟩) end3
abbrev bkM (X : Nat → Nat → Bool) (b3 : Nat) (v : Value) : HP := star [pt b3 (row [v] 82), own 84 66 (posL X).length v (allV X (posL X))]
abbrev bkA (X : Nat → Nat → Bool) (z : Nat) : List Value := [.agg #[i64 ((z / 16 : Nat) : Int), i64 ((z % 16 : Nat) : Int)], blk (blkAt X (z / 16) (z % 16))]
attribute [local irreducible] G GO GR GT Fn FnV pt init exs pur sat own ImpS mat posL allV orL
theorem blocks_mat (side b : Nat) (X : Nat → Nat → Bool) : Fn Tryd.prog 84 #[.pointer (some ⟨b, 0, none⟩)] [mat side X b] (fun r Q => ∃ b3 v, r = .func (.func 90) #[] #[.pointer (some ⟨b3, 0, none⟩)] ∧ Q = [bkM X b3 v, mat side X b]) := by
  refine Fn.mk2 Tryd.func84 rfl rfl fun w0 F => ?_
  (refine G.seq ?_; refine G.region ?_; refine GO.assign rfl rfl ?_; refine GO.nil ?_; refine kthen_n ?_; refine G.seq ?_; refine G.region ?_; refine GO.move rfl rfl ?_)
  refine GO.call1 rfl rfl (all_mat side b X) (Tks.c Tk.h Tks.n) ?_
  rintro v5 _ rfl
  refine GO.ownOne Tk.h fun hone => ?_
  (refine GO.alloc rfl fun b3 => ?_; refine GO.store1 rfl rfl (by assumption) Tk.h (by decide) ?_; refine GO.nil ?_; refine kthen_n ?_; refine G.seq ?_; refine G.region ?_; refine GO.makeFunc1 rfl rfl ?_; refine GO.assign rfl rfl ?_; refine GO.nil ?_; refine kthen_n ?_; refine G.ret ?_)
  refine KF2.r1 rfl (RV.t rfl) ⟨_, v5, rfl, rfl⟩ ?_
  refine ImpS.trans (ImpS.sb (M := pt b3 (row [v5] 82) :: own 84 66 (posL X).length v5 (allV X (posL X)) :: mat side X b :: F) ?_) ?_
  · ((refine Sb.c Tk.h ?_; refine Sb.c Tk.h ?_; refine Sb.c Tk.h ?_); (exact Sb.r))
  · exact ImpS.flat (k := [pt b3 (row [v5] 82), own 84 66 (posL X).length v5 (allV X (posL X))]) (M := mat side X b :: F) ImpS.refl
set_option maxHeartbeats 2000000 in
theorem blocks1_spec (q : HP) (X : Nat → Nat → Bool) (bx : Nat) (v y : Value) (J S : Nat → List HP)
    (hy : ∀ i u, ((posL X).map (bkA X))[i]? = some u → FnV Tryd.prog y u (J i ++ [q]) (fun v Q => (v = .bool true ∧ Q = J (i + 1) ++ [q]) ∨ (v = .bool false ∧ Q = S i ++ [q]))) :
    Fn Tryd.prog 90 #[y, .pointer (some ⟨bx, 0, none⟩)] (J 0 ++ ([q] ++ [bkM X bx v])) (fun _ Q => Q = J (posL X).length ++ ([q] ++ [bkM X bx v]) ∨ ∃ i, i < (posL X).length ∧ Q = S i ++ ([q] ++ [bkM X bx v])) := by
  have hpl : ¬ 256 < (posL X).length := by have := posL_len X; omega
  refine Fn.mk2 Tryd.func90 rfl rfl fun w0 F => ?_
  refine G.mem (H' := q :: bkM X bx v :: (J 0 ++ F)) ⟨[], by simpa using perm_jq2.symm⟩ ?_
  refine G.take (Tk.t Tk.h) (G.flat ?_)
  (refine G.seq ?_; refine G.region ?_; refine GO.load1 rfl rfl rfl Tk.h rfl ?_; refine GO.lenOwn rfl rfl (Tk.t Tk.h) ?_; refine GO.move rfl rfl ?_; refine GO.nil ?_; refine kthen_n ?_; refine G.block ?_)
  refine G.loop (fun k : Nat => [(0, y), (5, v), (6, i64 (posL X).length), (7, i64 k)])
    (fun k => pt bx (row [v] 82) :: own 84 66 (posL X).length v (allV X (posL X)) :: q :: (J k ++ F)) (fun k => k ≤ (posL X).length) (fun k => (posL X).length - k) 0 (by omega) ?_ ?_ ?_
  · (refine SubE.c rfl rfl ?_; refine SubE.c rfl rfl ?_; refine SubE.c rfl rfl ?_; refine SubE.c rfl rfl ?_; exact SubE.n)
  · exact Sb.r
  rintro k hk
  (refine G.seq ?_; refine G.region ?_; refine GO.lti rfl rfl rfl ?_; refine GO.nil ?_; refine kthen_n ?_; refine G.seq ?_)
  refine G.condD rfl (fun hlt => ?_) (fun hge => ?_)
  · have hlt' : k < (posL X).length := by omega
    obtain ⟨z, hz⟩ : ∃ z, (posL X)[k]? = some z := ⟨(posL X)[k], by simp [hlt']⟩
    refine G.ownForm (by omega) (Tk.t Tk.h) fun bl capl e2 hd1 hd2 hd3 => ?_
    subst e2
    have hyk := hy k (bkA X z) (by rw [List.getElem?_map, hz]; rfl)
    (refine G.skip ?_; refine kthen_n ?_; refine G.seq ?_; refine G.block ?_; refine G.seq ?_; refine G.region ?_)
    refine GO.idxS (j := k) rfl rfl rfl ⟨rfl, by omega⟩ ?_
    refine GO.loadQV rfl rfl rfl rfl hz (Tk.t Tk.h) ?_
    (refine GO.alloc rfl fun b4 => ?_; refine GO.storeW rfl rfl Tk.h ⟨qV_len _ _ _, zV_len⟩ (qV_one _ _ _) ?_; refine GO.nil ?_; refine kthen_n ?_; refine G.seq ?_; refine G.region ?_; refine GO.move rfl rfl ?_; refine GO.fieldAddr rfl rfl ?_; refine GO.loadA2 rfl rfl rfl rfl Tk.h ?_; refine GO.fieldAddr rfl rfl ?_; refine GO.loadB2 rfl rfl rfl rfl Tk.h ?_)
    refine GO.callV2 rfl rfl rfl rfl hyk (F := pt b4 (row (plV X z) 84) :: pt bx (row [.slice (some ⟨bl, 0, none⟩) (posL X).length capl] 82) :: own 84 66 (posL X).length (.slice (some ⟨bl, 0, none⟩) (posL X).length capl) (allV X (posL X)) :: F) perm_j4 ?_
    rintro _ _ (⟨rfl, rfl⟩ | ⟨rfl, rfl⟩)
    · (refine GO.not rfl rfl ?_; refine GO.nil ?_; refine kthen_n ?_; refine G.condF rfl rfl ?_; refine G.skip ?_; refine kblock_n ?_; refine kthen_n ?_; refine G.region ?_; refine GO.addi rfl rfl rfl (by omega) ?_; refine GO.move rfl rfl ?_; refine GO.nil ?_; refine kthen_n ?_)
      refine ⟨k + 1, by omega, by omega, ?_, ?_⟩
      · (refine SubE.c rfl rfl ?_; refine SubE.c rfl rfl ?_; refine SubE.c rfl rfl ?_; refine SubE.c rfl rfl ?_; exact SubE.n)
      · exact ⟨_, perm_j4a⟩
    · (refine GO.not rfl rfl ?_; refine GO.nil ?_; refine kthen_n ?_; refine G.condT rfl rfl ?_; refine G.ret ?_; refine kblock_r ?_; refine kthen_r ?_; refine kthen_r ?_; refine kblock_r ?_)
      exact KF2.r0 rfl (.inr ⟨k, by omega, rfl⟩) end4
  · obtain rfl : k = (posL X).length := by omega
    (refine G.exit ?_; refine kthen_x ?_; refine kthen_x ?_; refine kblock_x ?_)
    exact KF2.n0 rfl (.inl rfl) end3
theorem blocks_seq (q : HP) (X : Nat → Nat → Bool) (bx : Nat) (v : Value) : SeqOK Tryd.prog (.func (.func 90) #[] #[.pointer (some ⟨bx, 0, none⟩)]) ((posL X).map (bkA X)) [q] [bkM X bx v] :=
  ⟨_, _, rfl, inferInstance, fun y J S hy => by rw [List.length_map]; exact blocks1_spec q X bx v y J S hy⟩
end Go.Proofs.YtfoahdfflchidaaDoor
namespace Go.Proofs.YtfoahdfflchidaaDoor
open Go
/-- The cells from a place on, row by row. -/
def restX (X : Nat → Nat → Bool) (K : Nat) : List (Nat × Nat) := ((List.range' K (1048576 - K)).filter fun z => X (z / 1024) (z % 1024)).map fun z => (z / 1024, z % 1024)
/-- All cells of a matrix, rising. -/
def cellsX (X : Nat → Nat → Bool) : List (Nat × Nat) := restX X 0
theorem restX_cut (X : Nat → Nat → Bool) {K K' : Nat} (h1 : K ≤ K') (h2 : K' ≤ 1048576) : restX X K = (((List.range' K (K' - K)).filter fun z => X (z / 1024) (z % 1024)).map fun z => (z / 1024, z % 1024)) ++ restX X K' := by
  unfold restX
  rw [show 1048576 - K = (K' - K) + (1048576 - K') by omega, ← List.range'_append_1, List.filter_append, List.map_append, show K + (K' - K) = K' by omega]
theorem restX_skip {X : Nat → Nat → Bool} {K K' : Nat} (h1 : K ≤ K') (h2 : K' ≤ 1048576) (h : ∀ z, K ≤ z → z < K' → X (z / 1024) (z % 1024) = false) : restX X K = restX X K' := by
  rw [restX_cut X h1 h2, List.filter_eq_nil_iff.2, List.map_nil, List.nil_append]
  intro z hz
  have := List.mem_range'_1.1 hz
  rw [h z (by omega) (by omega)]; simp
theorem restX_end (X : Nat → Nat → Bool) : restX X 1048576 = [] := rfl
theorem restX_row (X : Nat → Nat → Bool) {i r j : Nat} (hi : i < 16) (hr : r < 64) (hj : j < 16) : restX X (65536 * i + 1024 * r + 64 * j) = ((rowL 0 (blkAt X i j r)).map fun p => (64 * i + r, 64 * j + p.2)) ++ restX X (65536 * i + 1024 * r + 64 * (j + 1)) := by
  rw [restX_cut X (K' := 65536 * i + 1024 * r + 64 * (j + 1)) (by omega) (by omega), show 65536 * i + 1024 * r + 64 * (j + 1) - (65536 * i + 1024 * r + 64 * j) = 64 by omega]
  congr 1
  unfold rowL
  rw [List.range'_eq_map_range, List.filter_map, List.map_map, List.map_map]
  have hm : ∀ c, c < 64 → (65536 * i + 1024 * r + 64 * j + c) / 1024 = 64 * i + r ∧ (65536 * i + 1024 * r + 64 * j + c) % 1024 = 64 * j + c := fun c hc => by omega
  rw [List.filter_congr (q := fun c => (blkAt X i j r).getLsbD c) (fun c hc => ?_)]
  · refine List.map_congr_left fun c hc => ?_
    have hc' := hm c (by have := (List.mem_filter.1 hc).1; simpa using this)
    show (_, _) = (_, _)
    rw [hc'.1, hc'.2]
  · have hc' : c < 64 := by simpa using hc
    show X _ _ = _
    rw [(hm c hc').1, (hm c hc').2, blkAt_bit _ _ _ _ _ hc']
theorem restX_get {X : Nat → Nat → Bool} {n k K : Nat} {p : Nat × Nat} {l m : List (Nat × Nat)} (h : (cellsX X).drop n = restX X K) (hl : restX X K = l ++ m) (hk : l[k]? = some p) : (cellsX X)[n + k]? = some p := by
  have h1 := congrArg (fun x : List (Nat × Nat) => x[k]?) h
  simp only [List.getElem?_drop] at h1
  rw [h1, hl, List.getElem?_append_left (List.getElem?_eq_some_iff.1 hk).1, hk]
theorem restX_next {X : Nat → Nat → Bool} {n K : Nat} {l m : List (Nat × Nat)} (h : (cellsX X).drop n = restX X K) (hl : restX X K = l ++ m) : (cellsX X).drop (n + l.length) = m := by
  rw [← List.drop_drop, h, hl, List.drop_append_of_le_length (Nat.le_refl _), List.drop_length, List.nil_append]
theorem restX_le {X : Nat → Nat → Bool} {n K : Nat} {l m : List (Nat × Nat)} (h : (cellsX X).drop n = restX X K) (hl : restX X K = l ++ m) (hn : n ≤ (cellsX X).length) : n + l.length ≤ (cellsX X).length := by
  have := congrArg List.length h
  rw [hl, List.length_drop, List.length_append] at this
  omega
/-! ## A rising list, gone through -/
def UpTo (g : List Nat) (m b : Nat) (f : Nat → Nat) : Prop := ∀ (k z : Nat), g[k]? = some z → (k < m ↔ f z < b)
section
variable {g : List Nat} {m b : Nat} {f : Nat → Nat}
theorem UpTo.ge (h : UpTo g m b f) {z : Nat} (hz : g[m]? = some z) : b ≤ f z := by
  have := h m z hz; omega
theorem UpTo.nil (h : ∀ z ∈ g, b ≤ f z) : UpTo g 0 b f := fun k z hz => by have := h z (List.mem_of_getElem? hz); omega
def StrictF (g : List Nat) (f : Nat → Nat) : Prop := ∀ (a c x y : Nat), a < c → g[a]? = some x → g[c]? = some y → f x < f y
def WeakF (g : List Nat) (f : Nat → Nat) : Prop := ∀ (a c x y : Nat), a < c → g[a]? = some x → g[c]? = some y → f x ≤ f y
theorem UpTo.step (hs : StrictF g f) {z : Nat} (hz : g[m]? = some z) : UpTo g (m + 1) (f z + 1) f := fun k y hy => by
  rcases Nat.lt_trichotomy k m with h | h | h
  · have := hs k m y z h hy hz; omega
  · subst h; rw [hz] at hy; obtain rfl : z = y := by simpa using hy
    omega
  · have := hs m k z y h hz hy; omega
theorem UpTo.gap (h : UpTo g m b f) (hs : StrictF g f) {z y : Nat} (hz : g[m]? = some z) (hy : y ∈ g) (hl : f y < f z) : f y < b := by
  obtain ⟨k, hk⟩ := List.mem_iff_getElem?.1 hy
  refine (h k y hk).1 ?_
  apply Classical.byContradiction
  intro hn
  rcases Nat.lt_or_ge m k with h' | h'
  · have := hs m k z y h' hz hk; omega
  · obtain rfl : k = m := by omega
    rw [hz] at hk; obtain rfl : z = y := by simpa using hk
    omega
theorem UpTo.gapW (h : UpTo g m b f) (hs : ∀ (a c x y : Nat), a < c → g[a]? = some x → g[c]? = some y → f x ≤ f y) {z y : Nat} (hz : g[m]? = some z) (hy : y ∈ g) (hl : f y < f z) : f y < b := by
  obtain ⟨k, hk⟩ := List.mem_iff_getElem?.1 hy
  refine (h k y hk).1 ?_
  apply Classical.byContradiction
  intro hn
  rcases Nat.lt_or_ge m k with h' | h'
  · have := hs m k z y h' hz hk; omega
  · obtain rfl : k = m := by omega
    rw [hz] at hk; obtain rfl : z = y := by simpa using hk
    omega
theorem UpTo.all (h : UpTo g m b f) (hm : g.length ≤ m) {y : Nat} (hy : y ∈ g) : f y < b := by
  obtain ⟨k, hk⟩ := List.mem_iff_getElem?.1 hy
  exact (h k y hk).1 (Nat.lt_of_lt_of_le (List.getElem?_eq_some_iff.1 hk).1 hm)
end
theorem strict_of {l : List Nat} (h : l.Pairwise (fun a b => a < b)) : StrictF l id := fun a c x y hac hx hy => by
  obtain ⟨ha, rfl⟩ := List.getElem?_eq_some_iff.1 hx
  obtain ⟨hc, rfl⟩ := List.getElem?_eq_some_iff.1 hy
  exact List.pairwise_iff_getElem.1 h a c ha hc hac
theorem posL_upE {X : Nat → Nat → Bool} : StrictF (posL X) id := strict_of (List.Pairwise.filter _ List.pairwise_lt_range)
theorem posL_weak {X : Nat → Nat → Bool} : WeakF (posL X) (fun z => z / 16) := fun a c x y h hx hy => by
  have : x < y := posL_upE a c x y h hx hy
  show x / 16 ≤ y / 16
  omega
/-- The blocks of one row of blocks. -/
def grp (X : Nat → Nat → Bool) (f t : Nat) : List Nat := ((posL X).take t).drop f
theorem grp_get (X : Nat → Nat → Bool) {f t k : Nat} (h : f + k < t) : (grp X f t)[k]? = (posL X)[f + k]? := by
  unfold grp; rw [List.getElem?_drop, List.getElem?_take, if_pos h]
theorem grp_len {X : Nat → Nat → Bool} {f t : Nat} (h : t ≤ (posL X).length) : (grp X f t).length = t - f := by
  unfold grp; rw [List.length_drop, List.length_take]; omega
structure GrpOK (X : Nat → Nat → Bool) (i : Nat) (g : List Nat) : Prop where
  mem : ∀ z, z ∈ g ↔ z ∈ posL X ∧ z / 16 = i
  up : StrictF g (fun z => z % 16)
theorem grp_ok {X : Nat → Nat → Bool} {i f t : Nat} (ht : t ≤ (posL X).length) (h : ∀ k z, (posL X)[k]? = some z → ((f ≤ k ∧ k < t) ↔ z / 16 = i)) : GrpOK X i (grp X f t) := by
  have gk : ∀ k z, (grp X f t)[k]? = some z → f + k < t := fun k z hk => by
    have := (List.getElem?_eq_some_iff.1 hk).1
    rw [grp_len ht] at this; omega
  refine ⟨fun z => ⟨fun hz => ?_, fun ⟨hz, hi⟩ => ?_⟩, fun a c x y hac hx hy => ?_⟩
  · obtain ⟨k, hk⟩ := List.mem_iff_getElem?.1 hz
    have hlt := gk k z hk
    rw [grp_get X hlt] at hk
    exact ⟨List.mem_of_getElem? hk, (h _ _ hk).1 ⟨by omega, hlt⟩⟩
  · obtain ⟨k, hk⟩ := List.mem_iff_getElem?.1 hz
    have hkk := (h k z hk).2 hi
    refine List.mem_iff_getElem?.2 ⟨k - f, ?_⟩
    rw [grp_get X (by omega), show f + (k - f) = k by omega, hk]
  · have h1 := gk a x hx
    have h2 := gk c y hy
    rw [grp_get X h1] at hx
    rw [grp_get X h2] at hy
    have e1 := (h _ _ hx).1 ⟨by omega, h1⟩
    have e2 := (h _ _ hy).1 ⟨by omega, h2⟩
    have : x < y := posL_upE (f + a) (f + c) x y (by omega) hx hy
    show x % 16 < y % 16
    omega
/-! ## Gaps -/
theorem gap_row {X : Nat → Nat → Bool} {i r j0 j : Nat} {g : List Nat} (hg : GrpOK X i g) (hi : i < 16) (hr : r < 64) (hj : j ≤ 16) (hle : j0 ≤ j) (h : ∀ y ∈ g, y % 16 < j → y % 16 < j0) : restX X (65536 * i + 1024 * r + 64 * j0) = restX X (65536 * i + 1024 * r + 64 * j) := by
  refine restX_skip (by omega) (by omega) fun z h1 h2 => ?_
  cases hx : X (z / 1024) (z % 1024) with
  | false => rfl
  | true =>
    exfalso
    have e1 : z / 1024 = 64 * i + r := by omega
    have hm : 16 * i + z % 1024 / 64 ∈ g := by
      refine (hg.mem _).2 ⟨posL_mem.2 ⟨by omega, ?_⟩, by omega⟩
      rw [show (16 * i + z % 1024 / 64) / 16 = i by omega, show (16 * i + z % 1024 / 64) % 16 = z % 1024 / 64 by omega, hasB_iff]
      exact ⟨r, z % 1024 % 64, hr, Nat.mod_lt _ (by decide), by rw [← e1, Nat.div_add_mod]; exact hx⟩
    have := h _ hm (by omega)
    omega
theorem gap_rows {X : Nat → Nat → Bool} {i0 i : Nat} (hi : i ≤ 16) (hle : i0 ≤ i) (h : ∀ y ∈ posL X, y / 16 < i → y / 16 < i0) : restX X (65536 * i0) = restX X (65536 * i) := by
  refine restX_skip (by omega) (by omega) fun z h1 h2 => ?_
  cases hx : X (z / 1024) (z % 1024) with
  | false => rfl
  | true =>
    exfalso
    have hm : 16 * (z / 1024 / 64) + z % 1024 / 64 ∈ posL X := by
      refine posL_mem.2 ⟨by omega, ?_⟩
      rw [show (16 * (z / 1024 / 64) + z % 1024 / 64) / 16 = z / 1024 / 64 by omega, show (16 * (z / 1024 / 64) + z % 1024 / 64) % 16 = z % 1024 / 64 by omega, hasB_iff]
      exact ⟨z / 1024 % 64, z % 1024 % 64, Nat.mod_lt _ (by decide), Nat.mod_lt _ (by decide), by rw [Nat.div_add_mod, Nat.div_add_mod]; exact hx⟩
    have := h _ hm (by omega)
    omega
/-- A row of a block alone. -/
theorem cellsL_one (x : BitVec 64) : cellsL (updB zeroB 0 x) = rowL 0 x := by
  unfold cellsL
  rw [rowsL_step _ (by decide)]
  have : rowsL (updB zeroB 0 x) 1 = [] := by
    unfold rowsL
    rw [List.flatMap_eq_nil_iff]
    intro i hi
    have h1 := (List.mem_range'_1.1 hi).1
    have : updB zeroB 0 x i = 0#64 := by unfold updB zeroB; rw [if_neg (by omega)]; rfl
    rw [this, rowL_zero]
  rw [this, List.append_nil]
  rfl
end Go.Proofs.YtfoahdfflchidaaDoor
namespace Go.Proofs.YtfoahdfflchidaaDoor
open Go
section
variable {P : Program}
/-- A round's contract, the state as one piece. -/
theorem FnV.star1 {y : Value} {u : List Value} {J J' S Sh : List HP} (h : FnV P y u (J ++ Sh) (fun v Q => (v = .bool true ∧ Q = J' ++ Sh) ∨ (v = .bool false ∧ Q = S ++ Sh))) :
    FnV P y u (star J :: Sh) (fun v Q => (v = .bool true ∧ Q = star J' :: Sh) ∨ (v = .bool false ∧ Q = star S :: Sh)) := by
  obtain ⟨fn, caps, hv, h⟩ := h
  refine ⟨fn, caps, hv, fun F w s => ?_⟩
  have s1 : sat ((J ++ Sh) ++ F) w := by rw [List.append_assoc]; exact sat_flat.1 s
  obtain ⟨nx, h1, h2⟩ := h F w s1
  refine ⟨nx, h1, h2.mono fun e w' => ?_⟩
  rintro ⟨v, Q, a, b, x | x, d⟩
  · obtain ⟨rfl, rfl⟩ := x
    rw [List.append_assoc] at d
    exact ⟨_, star J' :: Sh, a, b, .inl ⟨rfl, rfl⟩, sat_flat.2 d⟩
  · obtain ⟨rfl, rfl⟩ := x
    rw [List.append_assoc] at d
    exact ⟨_, star S :: Sh, a, b, .inr ⟨rfl, rfl⟩, sat_flat.2 d⟩
theorem SeqOK.of1 {gf : FuncId} [hc : Cal P gf] {caps : Array Value} {xs : List (List Value)} {Sh Gm : List HP}
    (h : ∀ (y : Value) (J S : Nat → HP), (∀ i u, xs[i]? = some u → FnV P y u (J i :: Sh) (fun v Q => (v = .bool true ∧ Q = J (i + 1) :: Sh) ∨ (v = .bool false ∧ Q = S i :: Sh))) →
      Fn P gf (#[y] ++ caps) (J 0 :: (Sh ++ Gm)) (fun _ Q => Q = J xs.length :: (Sh ++ Gm) ∨ ∃ i, i < xs.length ∧ Q = S i :: (Sh ++ Gm))) : SeqOK P (.func (.func gf) #[] caps) xs Sh Gm :=
  ⟨gf, caps, rfl, hc, fun y J X hy F w s => by
    have s1 : sat ((star (J 0) :: (Sh ++ Gm)) ++ F) w := by
      rw [List.append_assoc] at s
      exact sat_flat.2 s
    refine (h y (fun i => star (J i)) (fun i => star (X i)) (fun i u hu => FnV.star1 (hy i u hu)) F w s1).mono fun e w' => ?_
    rintro ⟨v, Q, a, b, x | ⟨i, hi, x⟩, d⟩
    · subst x
      exact ⟨v, J xs.length ++ (Sh ++ Gm), a, b, .inl rfl, by rw [List.append_assoc]; exact sat_flat.1 d⟩
    · subst x
      exact ⟨v, X i ++ (Sh ++ Gm), a, b, .inr ⟨i, hi, rfl⟩, by rw [List.append_assoc]; exact sat_flat.1 d⟩⟩
theorem FnV.form {y : Value} {u : List Value} {Pre : List HP} {R : Value → List HP → Prop} (h : FnV P y u Pre R) : ∃ fn caps, y = .func fn #[] caps := let ⟨fn, caps, hv, _⟩ := h; ⟨fn, caps, hv⟩
variable {c : Cx} {A : Array Oper} {rest : List Oper} {K : Kont} {L : Env} {H F : List HP} {t : TypeId} {p : String} {e : Array Edge} {d : Nat}
/-- s[l:h]. -/
theorem GO.sliceLH {ty el : TypeId} {sz n cap l h b o : Nat} {kk kh : IntKind} {i j : Int} {x y z : Operand} [hu : UL P ty (.slice el)] [hs : SZ P el sz] (hN : Nat.blt d c.N = true) (hx : evl L x = some (.slice (some ⟨b, o, none⟩) n cap)) (hy : evl L y = some (.int kk i)) (hz : evl L z = some (.int kh j)) (hi : i = (l : Int) ∧ j = (h : Int) ∧ l < h ∧ h ≤ cap)
    (k : GO P c A rest K ((d, .slice (some ⟨b, o + l * sz, none⟩) (h - l) (cap - l)) :: L) H) : GO P c A (⟨some d, .slice ty x (some y) (some z) none, t, p, e, none⟩ :: rest) K L H :=
  GO.val hN rfl (fun a w Y hh _ => by
    obtain ⟨rfl, rfl, h1, h2⟩ := hi
    have hle : (l : Int) ≤ h := by omega
    have hle2 : (h : Int) ≤ cap := by omega
    have hne : ¬ cap = l := by omega
    simp only [execOp, hh.eval hx, Option.map_none, Option.map_some, hh.eval hy, hh.eval hz]
    simp [Instr.sliceAt, Instr.slice, Sem.run_bind, run_underlying hu.out, Instr.sliceBounds, run_sliceBound w _ _ _ _ (Int.natCast_nonneg l) hle, run_sliceBound w _ _ _ _ (Int.natCast_nonneg h) hle2, run_sizeOf_SZ, Result.andThen, hne, add_plain]) k
end
end Go.Proofs.YtfoahdfflchidaaDoor
namespace Go.Proofs.YtfoahdfflchidaaDoor
open Go
section
variable {P : Program} {c : Cx} {A : Array Oper} {rest : List Oper} {K : Kont} {L : Env} {H F : List HP} {t : TypeId} {p : String} {e : Array Edge} {d : Nat}
/-- A placed block out of a list of them that can be read. -/
theorem GO.loadQR {b oo o k z : Nat} {X : Nat → Nat → Bool} {l : List Nat} {ty : TypeId} {ds : TypeDesc} {x : Operand} {q : HP} [hu : UL P ty ds] [hs : SZ P ty 66] (hrd : ∀ j u, (allV X l)[j]? = some u → Rd q ⟨b, oo + j, none⟩ u) (hd : ds.isRow = true) (hN : Nat.blt d c.N = true) (hx : evl L x = some (.pointer (some ⟨b, o, none⟩))) (ho : o = oo + k * 66) (hz : l[k]? = some z)
    (tk : Tk q H F) (k : GO P c A rest K ((d, .agg (plV X z).toArray) :: L) H) : GO P c A (⟨some d, .load ty x, t, p, e, none⟩ :: rest) K L H :=
  GO.loadM (vs := plV X z) hd hN hx tk (qV_len _ _ _) (fun j u hj => by
    have hj66 : j < 66 := by have := (List.getElem?_eq_some_iff.1 hj).1; rw [qV_len] at this; exact this
    rw [ho, Nat.add_assoc]
    refine hrd _ _ ?_
    rw [allV_get hz hj66]
    exact hj) k
end
theorem plV_word (X : Nat → Nat → Bool) (z : Nat) {r o : Nat} (hr : r < 64) (ho : o = 2 + r) : (plV X z)[o]? = some (u64 (blkAt X (z / 16) (z % 16) r)) := by
  subst ho
  show (_ :: _ :: cells _)[2 + r]? = _
  rw [show 2 + r = r + 1 + 1 by omega]
  exact cells_get _ hr rfl
theorem allV_grp {X : Nat → Nat → Bool} {f t j : Nat} {u : Value} (h : (allV X (grp X f t))[j]? = some u) : (allV X (posL X))[f * 66 + j]? = some u := by
  have hj := (List.getElem?_eq_some_iff.1 h).1
  rw [allV_len] at hj
  have hk : j / 66 < (grp X f t).length := by omega
  have hft : f + j / 66 < t := by unfold grp at hk; rw [List.length_drop, List.length_take] at hk; omega
  have e : j = j / 66 * 66 + j % 66 := by omega
  obtain ⟨z, hz⟩ : ∃ z, (grp X f t)[j / 66]? = some z := ⟨_, List.getElem?_eq_getElem hk⟩
  have hz2 := hz
  rw [grp_get X hft] at hz2
  rw [e, allV_get hz (Nat.mod_lt _ (by decide))] at h
  rw [e, show f * 66 + (j / 66 * 66 + j % 66) = (f + j / 66) * 66 + j % 66 by omega, allV_get hz2 (Nat.mod_lt _ (by decide))]
  exact h
theorem built_row (w : BitVec 64) : Tryd.prog.built 77 [(0, u64 w)] = some (u64 w :: List.replicate 63 (.int .u64 0)).toArray := by kernel_rfl
theorem one_row (w : BitVec 64) : u64 w :: List.replicate 63 (.int .u64 0) = cells (updB zeroB 0 w) := by
  rw [← cells_set zeroB w (show 0 = 0 from rfl), ← cells_zero]
  rfl
abbrev celV (p : Nat × Nat) : List Value := [i64 (p.1 : Nat), i64 (p.2 : Nat)]
attribute [local irreducible] G GO GR GT Fn FnV pt init exs pur sat own ImpS mat posL allV orL restX cellsX
set_option maxHeartbeats 4000000 in
theorem gcells_spec (q o : HP) (hq : Tab q) (X : Nat → Nat → Bool) (i : Nat) (hi : i < 16) (g : List Nat) (hg : GrpOK X i g) (hgl : ¬ 256 < g.length) (v y : Value) (hyf : ∃ fn caps, y = .func fn #[] caps) (hv : Sl o v g.length 66 (allV X g)) (J S : Nat → HP)
    (hy : ∀ n u, ((cellsX X).map celV)[n]? = some u → FnV Tryd.prog y u [J n, q] (fun v Q => (v = .bool true ∧ Q = [J (n + 1), q]) ∨ (v = .bool false ∧ Q = [S n, q]))) (n0 : Nat) (h0 : (cellsX X).drop n0 = restX X (65536 * i)) (hn0 : n0 ≤ (cellsX X).length) :
    Fn Tryd.prog 42 #[v, y] [J n0, q, o] (fun r Q => (r = .bool true ∧ ∃ n, (cellsX X).drop n = restX X (65536 * (i + 1)) ∧ n ≤ (cellsX X).length ∧ Q = [J n, q, o]) ∨ (r = .bool false ∧ ∃ n, n < (cellsX X).length ∧ Q = [S n, q, o])) := by
  obtain ⟨fn, caps, rfl⟩ := hyf
  obtain ⟨a, cap, rfl, hl, hrd⟩ := hv
  refine Fn.mk2 Tryd.func42 rfl rfl fun w0 F => ?_
  (refine G.seq ?_; refine G.region ?_; refine GO.box rfl rfl rfl fun b3 => ?_; refine GO.alloc rfl fun b4 => ?_; refine GO.nil ?_; refine kthen_n ?_; refine G.seq ?_; refine G.seq ?_; refine G.region ?_; refine GO.move rfl rfl ?_; refine GO.nil ?_; refine kthen_n ?_; refine G.block ?_)
  refine G.loop2 (fun (r : Nat) (n : Nat) => [(0, .slice a g.length cap), (3, .pointer (some ⟨b3, 0, none⟩)), (4, .pointer (some ⟨b4, 0, none⟩)), (9, i64 r)])
    (fun _ n => pt b3 (row [.func fn #[] caps] 89) :: pt b4 (row [.bool false] 4) :: J n :: q :: o :: F) (fun r n => r ≤ 64 ∧ (cellsX X).drop n = restX X (65536 * i + 1024 * r) ∧ n ≤ (cellsX X).length) (fun r _ => 64 - r) 0 n0 ⟨by omega, h0, hn0⟩ ?_ ?_ ?_
  · (refine SubE.c rfl rfl ?_; refine SubE.c rfl rfl ?_; refine SubE.c rfl rfl ?_; refine SubE.c rfl rfl ?_; exact SubE.n)
  · ((refine Sb.c (Tk.t Tk.h) ?_; refine Sb.c Tk.h ?_; refine Sb.c Tk.h ?_; refine Sb.c Tk.h ?_; refine Sb.c Tk.h ?_); (exact Sb.r))
  rintro r n ⟨hr, hd, hnl⟩
  (refine G.seq ?_; refine G.region ?_; refine GO.lti rfl rfl rfl ?_; refine GO.nil ?_; refine kthen_n ?_; refine G.seq ?_)
  refine G.condD rfl (fun hlt => ?_) (fun hge => ?_)
  · have hr64 : r < 64 := by omega
    (refine G.skip ?_; refine kthen_n ?_; refine G.seq ?_; refine G.block ?_; refine G.seq ?_; refine G.region ?_; refine GO.move rfl rfl ?_; refine GO.alloc rfl fun b5 => ?_; refine GO.store1 rfl rfl rfl Tk.h (by decide) ?_; refine GO.nil ?_; refine kthen_n ?_; refine G.seq ?_; refine G.region ?_; refine GO.move rfl rfl ?_; refine GO.lenS rfl rfl ?_; refine GO.move rfl rfl ?_; refine GO.nil ?_; refine kthen_n ?_; refine G.block ?_)
    refine G.loop2 (fun (m : Nat) (n : Nat) => [(0, .slice a g.length cap), (3, .pointer (some ⟨b3, 0, none⟩)), (4, .pointer (some ⟨b4, 0, none⟩)), (5, .pointer (some ⟨b5, 0, none⟩)), (9, i64 r), (12, .slice a g.length cap), (13, i64 g.length), (14, i64 m)])
      (fun _ n => pt b5 (row [i64 r] 3) :: pt b3 (row [.func fn #[] caps] 89) :: pt b4 (row [.bool false] 4) :: J n :: q :: o :: F) (fun m n => m ≤ g.length ∧ ∃ j0, j0 ≤ 16 ∧ UpTo g m j0 (fun z => z % 16) ∧ (cellsX X).drop n = restX X (65536 * i + 1024 * r + 64 * j0) ∧ n ≤ (cellsX X).length) (fun m _ => g.length - m) 0 n ⟨by omega, 0, by omega, UpTo.nil (fun _ _ => Nat.zero_le _), hd, hnl⟩ ?_ ?_ ?_
    · (refine SubE.c rfl rfl ?_; refine SubE.c rfl rfl ?_; refine SubE.c rfl rfl ?_; refine SubE.c rfl rfl ?_; refine SubE.c rfl rfl ?_; refine SubE.c rfl rfl ?_; refine SubE.c rfl rfl ?_; refine SubE.c rfl rfl ?_; exact SubE.n)
    · ((refine Sb.c Tk.h ?_; refine Sb.c Tk.h ?_; refine Sb.c Tk.h ?_; refine Sb.c Tk.h ?_; refine Sb.c Tk.h ?_; refine Sb.c Tk.h ?_); (exact Sb.r))
    rintro m n ⟨hm, j0, hj0, hup, hd, hnl⟩
    (refine G.seq ?_; refine G.region ?_; refine GO.lti rfl rfl rfl ?_; refine GO.nil ?_; refine kthen_n ?_; refine G.seq ?_)
    refine G.condD rfl (fun hlt => ?_) (fun hge => ?_)
    · have hmg : m < g.length := by omega
      obtain ⟨bo, oo, rfl, hr'⟩ := hrd (by omega)
      obtain ⟨z, hz⟩ : ∃ z, g[m]? = some z := ⟨_, List.getElem?_eq_getElem hmg⟩
      have hz1 := ((hg.mem z).1 (List.mem_of_getElem? hz)).2
      have hj : z % 16 < 16 := Nat.mod_lt _ (by decide)
      have hd' := hd.trans (gap_row hg hi hr64 (Nat.le_of_lt hj) (hup.ge hz) (fun y hy h => hup.gap hg.up hz hy h))
      have hrow := restX_row X hi hr64 hj
      have hup' := UpTo.step hg.up hz
      have hgt := fun k p => restX_get (k := k) (p := p) hd' hrow
      have hnx := restX_next hd' hrow
      have hnl' := restX_le hd' hrow hnl
      clear hd hup hrow hmg
      (refine G.skip ?_; refine kthen_n ?_; refine G.seq ?_; refine G.block ?_; refine G.seq ?_; refine G.region ?_)
      refine GO.idxS (j := m) rfl rfl rfl ⟨rfl, by omega⟩ ?_
      refine GO.loadQR hr' rfl rfl rfl rfl hz (Tk.t (Tk.t (Tk.t (Tk.t (Tk.t Tk.h))))) ?_
      (refine GO.alloc rfl fun b7 => ?_; refine GO.storeW rfl rfl Tk.h ⟨qV_len _ _ _, zV_len⟩ (qV_one _ _ _) ?_; refine GO.nil ?_; refine kthen_n ?_; refine G.seq ?_; refine G.region ?_; refine GO.load1 rfl rfl rfl (Tk.t Tk.h) rfl ?_; refine GO.fieldAddr rfl rfl ?_; refine GO.idxA rfl rfl rfl ⟨rfl, by omega⟩ ?_)
      refine GO.load1 rfl rfl rfl Tk.h (plV_word X z hr64 (by omega)) ?_
      generalize hw : blkAt X (z / 16) (z % 16) r = w
      rw [show i = z / 16 from hz1.symm] at hgt hnx
      rw [hw] at hgt hnx
      rw [show i = z / 16 from hz1.symm, hw] at hnl'
      refine GO.buildPart1 (built_row w) rfl rfl ?_
      rw [one_row]
      refine GO.call1 rfl rfl (bcells_spec (updB zeroB 0 w)) Tks.n ?_
      rintro _ _ ⟨bI, rfl, rfl⟩
      (refine GO.nil ?_; refine kthen_n ?_; refine G.block ?_)
      refine G.rangeF (F := o :: F) (psl := [24]) (v := .func (.func 69) #[] #[.pointer (some ⟨bI, 0, none⟩)]) (xs := (cellsL (updB zeroB 0 w)).map fun p => [cellV p]) (Sh := [q]) (Gm := [pt bI (row (cells (updB zeroB 0 w)) 77)])
        (fun k => [J (n + k), pt b7 (row (plV X z) 84), pt b5 (row [i64 r] 3), pt b3 (row [.func fn #[] caps] 89), pt b4 (row [.bool false] 4)])
        (fun k jc => [pur (jc = .ret ∧ n + k < (cellsX X).length), S (n + k), pt b7 (row (plV X z) 84), pt b5 (row [i64 r] 3), pt b3 (row [.func fn #[] caps] 89), pt b4 (row [.bool false] 4)])
        (fun _ h => by cases h) rfl (fun u hu => by obtain ⟨p, _, rfl⟩ := List.mem_map.1 hu; rfl) rfl (cells_seq q hq (updB zeroB 0 w) bI) ?_ (fun lp Lr Lb w1 F1 k u hu => ?_) ?_ ?_
      · (refine Tks.c (Tk.t (Tk.t (Tk.t (Tk.t (Tk.t Tk.h))))) ?_; refine Tks.c (Tk.t Tk.h) ?_; refine Tks.c (Tk.t Tk.h) ?_; refine Tks.c (Tk.t Tk.h) ?_; refine Tks.c (Tk.t Tk.h) ?_; refine Tks.c (Tk.t Tk.h) ?_; exact Tks.n)
      · obtain ⟨p, hp, rfl⟩ : ∃ p, (rowL 0 w)[k]? = some p ∧ u = [cellV p] := by
          rw [cellsL_one, List.getElem?_map] at hu
          cases hc : (rowL 0 w)[k]? with
          | none => simp [hc] at hu
          | some p => simp [hc] at hu; exact ⟨p, rfl, hu.symm⟩
        have hyk := hy (n + k) (celV (64 * (z / 16) + r, 64 * (z % 16) + p.2)) (by rw [List.getElem?_map, hgt k (64 * (z / 16) + r, 64 * (z % 16) + p.2) (by rw [List.getElem?_map, hp]; rfl)]; rfl)
        have hnk : n + k < (cellsX X).length := (List.getElem?_eq_some_iff.1 (hgt k (64 * (z / 16) + r, 64 * (z % 16) + p.2) (by rw [List.getElem?_map, hp]; rfl))).1
        dsimp only [celV] at hyk
        rw [show ((64 * (z / 16) + r : Nat) : Int) = ((z / 16 : Nat) : Int) * 64 + r by omega, show ((64 * (z % 16) + p.2 : Nat) : Int) = ((z % 16 : Nat) : Int) * 64 + (p.2 : Nat) by omega] at hyk
        have hp2 : ¬ 64 ≤ p.2 := by
          have := List.mem_of_getElem? hp
          unfold rowL at this
          obtain ⟨c, hc, rfl⟩ := List.mem_map.1 this
          have := List.mem_range.1 (List.mem_filter.1 hc).1
          show ¬ 64 ≤ c
          omega
        change G _ _ _ _ ((24, cellV p) :: _) (J (n + k) :: pt b7 (row (plV X z) 84) :: pt b5 (row [i64 r] 3) :: pt b3 (row [.func fn #[] caps] 89) :: pt b4 (row [.bool false] 4) :: q :: F1)
        (refine G.region ?_; refine GO.alloc rfl fun b8 => ?_; refine GO.storeW rfl rfl Tk.h ⟨rfl, rfl⟩ (by simp [Value.oneCell']) ?_; refine GO.nil ?_)
        refine kA_n ?_
        (refine G.block ?_; refine G.seq ?_; refine G.region ?_; refine GO.load1 rfl rfl rfl (Tk.t (Tk.t (Tk.t (Tk.t Tk.h)))) rfl ?_; refine GO.fieldAddr rfl rfl ?_; refine GO.fieldAddr rfl rfl ?_; refine GO.load1 rfl rfl rfl (Tk.t (Tk.t Tk.h)) rfl ?_; refine GO.muli rfl rfl rfl (by omega) ?_; refine GO.load1 rfl rfl rfl (Tk.t (Tk.t (Tk.t Tk.h))) rfl ?_; refine GO.addi rfl rfl rfl (by omega) ?_; refine GO.fieldAddr rfl rfl ?_; refine GO.fieldAddr rfl rfl ?_; refine GO.load1 rfl rfl rfl (Tk.t (Tk.t Tk.h)) rfl ?_; refine GO.muli rfl rfl rfl (by omega) ?_; refine GO.fieldAddr rfl rfl ?_; refine GO.load1 rfl rfl rfl Tk.h rfl ?_; refine GO.addi rfl rfl rfl (by omega) ?_)
        refine GO.callV2 rfl rfl rfl rfl (hyk) (Tks.c (Tk.t Tk.h) (Tks.c (Tk.t (Tk.t (Tk.t (Tk.t (Tk.t Tk.h))))) Tks.n)) ?_
        rintro _ _ (⟨rfl, rfl⟩ | ⟨rfl, rfl⟩)
        · (refine GO.not rfl rfl ?_; refine GO.nil ?_; refine kthen_n ?_; refine G.condF rfl rfl ?_; refine G.skip ?_; refine kblock_n ?_)
          refine kB_n (ImpS.sb ?_)
          ((refine Sb.c Tk.h ?_; refine Sb.c (Tk.t (Tk.t Tk.h)) ?_; refine Sb.c (Tk.t (Tk.t Tk.h)) ?_; refine Sb.c (Tk.t (Tk.t Tk.h)) ?_; refine Sb.c (Tk.t (Tk.t Tk.h)) ?_; refine Sb.c Tk.h ?_); (refine Sb.s ?_; exact Sb.r))
        · (refine GO.not rfl rfl ?_; refine GO.nil ?_; refine kthen_n ?_; refine G.condT rfl rfl ?_; refine G.seq ?_; refine G.region ?_; refine GO.store1 rfl rfl rfl (Tk.t (Tk.t (Tk.t (Tk.t (Tk.t (Tk.t Tk.h)))))) (by decide) ?_; refine GO.nil ?_; refine kthen_n ?_; refine G.ret ?_; refine kblock_r ?_)
          refine kB_r (ImpS.pur ⟨rfl, hnk⟩ (ImpS.sb ?_))
          ((refine Sb.c (Tk.t Tk.h) ?_; refine Sb.c (Tk.t (Tk.t (Tk.t Tk.h))) ?_; refine Sb.c (Tk.t (Tk.t (Tk.t Tk.h))) ?_; refine Sb.c (Tk.t (Tk.t (Tk.t Tk.h))) ?_; refine Sb.c Tk.h ?_; refine Sb.c Tk.h ?_); (refine Sb.s ?_; exact Sb.r))
      · rw [List.length_map, cellsL_one]
        change G _ _ _ _ _ (J (n + (rowL 0 w).length) :: pt b7 (row (plV X z) 84) :: pt b5 (row [i64 r] 3) :: pt b3 (row [.func fn #[] caps] 89) :: pt b4 (row [.bool false] 4) :: q :: pt bI (row (cells (updB zeroB 0 w)) 77) :: o :: F)
        (refine G.region ?_; refine GO.addi rfl rfl rfl (by omega) ?_; refine GO.move rfl rfl ?_; refine GO.nil ?_; refine kthen_n ?_)
        rw [List.length_map] at hnx hnl'
        refine ⟨m + 1, n + (rowL 0 w).length, ⟨by omega, z % 16 + 1, by omega, hup', by rw [hnx, hz1], hnl'⟩, by omega, ?_, ?_⟩
        · (refine SubE.c rfl rfl ?_; refine SubE.c rfl rfl ?_; refine SubE.c rfl rfl ?_; refine SubE.c rfl rfl ?_; refine SubE.c rfl rfl ?_; refine SubE.c rfl rfl ?_; refine SubE.c rfl rfl ?_; refine SubE.c rfl rfl ?_; exact SubE.n)
        · ((refine Sb.c (Tk.t (Tk.t Tk.h)) ?_; refine Sb.c (Tk.t (Tk.t Tk.h)) ?_; refine Sb.c (Tk.t (Tk.t Tk.h)) ?_; refine Sb.c Tk.h ?_; refine Sb.c (Tk.t Tk.h) ?_; refine Sb.c (Tk.t (Tk.t Tk.h)) ?_); (refine Sb.s ?_; refine Sb.s ?_; exact Sb.r))
      · intro k jc hk
        change G _ _ _ _ _ (pur (jc = .ret ∧ n + k < (cellsX X).length) :: S (n + k) :: pt b7 (row (plV X z) 84) :: pt b5 (row [i64 r] 3) :: pt b3 (row [.func fn #[] caps] 89) :: pt b4 (row [.bool false] 4) :: q :: pt bI (row (cells (updB zeroB 0 w)) 77) :: o :: F)
        refine G.pur fun h => ?_
        obtain ⟨rfl, hlt⟩ := h
        (refine G.ret ?_; refine kblock_r ?_; refine kblock_r ?_; refine kthen_r ?_; refine kthen_r ?_; refine kblock_r ?_; refine kblock_r ?_; refine kthen_r ?_; refine kthen_r ?_; refine kblock_r ?_; refine kthen_r ?_)
        refine KF2.r1 rfl (RV.c1 rfl rfl (by (exact (Tk.t (Tk.t (Tk.t (Tk.t Tk.h)))))) rfl) (.inr ⟨rfl, n + k, hlt, rfl⟩) (ImpS.sb ?_)
        ((refine Sb.c Tk.h ?_; refine Sb.c (Tk.t (Tk.t (Tk.t (Tk.t Tk.h)))) ?_; refine Sb.c (Tk.t (Tk.t (Tk.t (Tk.t (Tk.t Tk.h))))) ?_); (refine Sb.s ?_; refine Sb.s ?_; refine Sb.s ?_; refine Sb.s ?_; refine Sb.s ?_; exact Sb.r))
    · have hmg : g.length ≤ m := by omega
      have hd' := hd.trans (gap_row hg hi hr64 (Nat.le_refl 16) hj0 (fun y hy _ => hup.all hmg hy))
      rw [show 65536 * i + 1024 * r + 64 * 16 = 65536 * i + 1024 * (r + 1) by omega] at hd'
      (refine G.exit ?_; refine kthen_x ?_; refine kthen_x ?_; refine kblock_x ?_; refine kblock_n ?_; refine kthen_n ?_; refine G.region ?_; refine GO.addi rfl rfl rfl (by omega) ?_; refine GO.move rfl rfl ?_; refine GO.nil ?_; refine kthen_n ?_)
      refine ⟨r + 1, n, ⟨by omega, hd', hnl⟩, by omega, ?_, ?_⟩
      · (refine SubE.c rfl rfl ?_; refine SubE.c rfl rfl ?_; refine SubE.c rfl rfl ?_; refine SubE.c rfl rfl ?_; exact SubE.n)
      · ((refine Sb.c (Tk.t Tk.h) ?_; refine Sb.c (Tk.t Tk.h) ?_; refine Sb.c (Tk.t Tk.h) ?_; refine Sb.c (Tk.t Tk.h) ?_; refine Sb.c (Tk.t Tk.h) ?_); (refine Sb.s ?_; exact Sb.r))
  · obtain rfl : r = 64 := by omega
    (refine G.exit ?_; refine kthen_x ?_; refine kthen_x ?_; refine kblock_x ?_; refine kthen_n ?_; refine G.seq ?_; refine G.region ?_; refine GO.store1 rfl rfl rfl (Tk.t Tk.h) (by decide) ?_; refine GO.nil ?_; refine kthen_n ?_; refine G.ret ?_)
    refine KF2.r1 rfl (RV.c1 rfl rfl (by (exact Tk.h)) rfl) (.inl ⟨rfl, n, by rw [hd]; rfl, hnl, rfl⟩) (ImpS.sb ?_)
    ((refine Sb.c (Tk.t (Tk.t Tk.h)) ?_; refine Sb.c (Tk.t (Tk.t Tk.h)) ?_; refine Sb.c (Tk.t (Tk.t Tk.h)) ?_); (refine Sb.s ?_; refine Sb.s ?_; exact Sb.r))
end Go.Proofs.YtfoahdfflchidaaDoor
namespace Go.Proofs.YtfoahdfflchidaaDoor
open Go
theorem cellsX_pos {side : Nat} {X : Nat → Nat → Bool} (hs : side ≤ 1024) (hin : ∀ r c, X r c = true → r < side ∧ c < side) {r c : Nat} (h : X r c = true) : (r, c) ∈ cellsX X := by
  have := hin r c h
  unfold cellsX restX
  refine List.mem_map.2 ⟨1024 * r + c, List.mem_filter.2 ⟨List.mem_range'_1.2 ⟨by omega, by omega⟩, ?_⟩, ?_⟩
  · show X ((1024 * r + c) / 1024) ((1024 * r + c) % 1024) = true
    rw [show (1024 * r + c) / 1024 = r by omega, show (1024 * r + c) % 1024 = c by omega]
    exact h
  · show ((1024 * r + c) / 1024, (1024 * r + c) % 1024) = (r, c)
    rw [show (1024 * r + c) / 1024 = r by omega, show (1024 * r + c) % 1024 = c by omega]
theorem cellsX_true {X : Nat → Nat → Bool} {p : Nat × Nat} (h : p ∈ cellsX X) : X p.1 p.2 = true := by
  unfold cellsX restX at h
  obtain ⟨z, hz, rfl⟩ := List.mem_map.1 h
  exact (List.mem_filter.1 hz).2
theorem cellsX_some {X : Nat → Nat → Bool} {z : Nat} (hz : z ∈ posL X) : ∃ u, ((cellsX X).map celV)[0]? = some u := by
  have h0 : restX X 0 ≠ [] := fun h => by
    obtain ⟨hz1, hz2⟩ := posL_mem.1 hz
    obtain ⟨r, c, hr, hc, hx⟩ := hasB_iff.1 hz2
    have hm : (64 * (z / 16) + r, 64 * (z % 16) + c) ∈ restX X 0 := by
      unfold restX
      refine List.mem_map.2 ⟨1024 * (64 * (z / 16) + r) + (64 * (z % 16) + c), List.mem_filter.2 ⟨List.mem_range'_1.2 ⟨by omega, by omega⟩, ?_⟩, ?_⟩
      · show X ((1024 * (64 * (z / 16) + r) + (64 * (z % 16) + c)) / 1024) ((1024 * (64 * (z / 16) + r) + (64 * (z % 16) + c)) % 1024) = true
        rw [show (1024 * (64 * (z / 16) + r) + (64 * (z % 16) + c)) / 1024 = 64 * (z / 16) + r by omega, show (1024 * (64 * (z / 16) + r) + (64 * (z % 16) + c)) % 1024 = 64 * (z % 16) + c by omega]
        exact hx
      · show ((1024 * (64 * (z / 16) + r) + (64 * (z % 16) + c)) / 1024, (1024 * (64 * (z / 16) + r) + (64 * (z % 16) + c)) % 1024) = _
        rw [show (1024 * (64 * (z / 16) + r) + (64 * (z % 16) + c)) / 1024 = 64 * (z / 16) + r by omega, show (1024 * (64 * (z / 16) + r) + (64 * (z % 16) + c)) % 1024 = 64 * (z % 16) + c by omega]
    rw [h] at hm
    cases hm
  show ∃ u, ((restX X 0).map celV)[0]? = some u
  cases hl : restX X 0 with
  | nil => exact absurd hl h0
  | cons p l => exact ⟨celV p, rfl⟩
theorem plV_row (X : Nat → Nat → Bool) (z : Nat) : (plV X z)[0]? = some (i64 ((z / 16 : Nat) : Int)) := rfl
attribute [local irreducible] G GO GR GT Fn FnV pt init exs pur sat own ImpS mat posL allV orL restX cellsX
/-- Where the rows of blocks that have come end. -/
theorem rows_end {X : Nat → Nat → Bool} {f t z : Nat} {i0 : Nat} (hup : UpTo (posL X) f i0 (fun z => z / 16)) (hz : (posL X)[f]? = some z) (hft : f < t) (hin : ∀ k y, (posL X)[k]? = some y → f ≤ k → k < t → y / 16 = z / 16) (hout : ∀ y, (posL X)[t]? = some y → y / 16 ≠ z / 16) :
    (∀ k y, (posL X)[k]? = some y → ((f ≤ k ∧ k < t) ↔ y / 16 = z / 16)) ∧ UpTo (posL X) t (z / 16 + 1) (fun z => z / 16) := by
  have hge : i0 ≤ z / 16 := hup.ge hz
  have hlate : ∀ k y, (posL X)[k]? = some y → t ≤ k → z / 16 < y / 16 := fun k y hy htk => by
    obtain ⟨x, hx⟩ : ∃ x, (posL X)[t]? = some x := ⟨_, List.getElem?_eq_getElem (Nat.lt_of_le_of_lt htk (List.getElem?_eq_some_iff.1 hy).1)⟩
    have h1 := hout x hx
    have h2 : z / 16 ≤ x / 16 := posL_weak f t z x hft hz hx
    rcases Nat.lt_or_ge t k with h | h
    · have h3 : x / 16 ≤ y / 16 := posL_weak t k x y h hx hy
      omega
    · obtain rfl : t = k := by omega
      rw [hx] at hy; obtain rfl : x = y := by simpa using hy
      omega
  have hearly : ∀ k y, (posL X)[k]? = some y → k < f → y / 16 < z / 16 := fun k y hy hk => by
    have : y / 16 < i0 := (hup k y hy).1 hk
    omega
  constructor
  · intro k y hy
    constructor
    · rintro ⟨h1, h2⟩; exact hin k y hy h1 h2
    · intro e
      refine ⟨?_, ?_⟩
      · apply Classical.byContradiction; intro h; have := hearly k y hy (by omega); omega
      · apply Classical.byContradiction; intro h; have := hlate k y hy (by omega); omega
  · intro k y hy
    show k < t ↔ y / 16 < z / 16 + 1
    constructor
    · intro h
      rcases Nat.lt_or_ge k f with h' | h'
      · have := hearly k y hy h'; omega
      · have := hin k y hy h' h; omega
    · intro h
      apply Classical.byContradiction; intro hn
      have := hlate k y hy (by omega); omega
set_option maxHeartbeats 4000000 in
theorem cells1_spec (q : HP) (hq : Tab q) (X : Nat → Nat → Bool) (bx : Nat) (v y : Value) (J S : Nat → HP)
    (hy : ∀ n u, ((cellsX X).map celV)[n]? = some u → FnV Tryd.prog y u [J n, q] (fun v Q => (v = .bool true ∧ Q = [J (n + 1), q]) ∨ (v = .bool false ∧ Q = [S n, q]))) :
    Fn Tryd.prog 41 #[y, .pointer (some ⟨bx, 0, none⟩)] [J 0, q, bkM X bx v] (fun _ Q => Q = [J (cellsX X).length, q, bkM X bx v] ∨ ∃ n, n < (cellsX X).length ∧ Q = [S n, q, bkM X bx v]) := by
  have hpl : ¬ 256 < (posL X).length := by have := posL_len X; omega
  refine Fn.mk2 Tryd.func41 rfl rfl fun w0 F => ?_
  refine G.take (Tk.t (Tk.t Tk.h)) (G.flat ?_)
  (refine G.seq ?_; refine G.region ?_; refine GO.assign rfl rfl ?_; refine GO.nil ?_; refine kthen_n ?_; refine G.block ?_)
  refine G.loop2 (fun (f : Nat) (_ : Nat) => [(0, y), (1, .pointer (some ⟨bx, 0, none⟩)), (3, i64 f)])
    (fun _ n => pt bx (row [v] 82) :: own 84 66 (posL X).length v (allV X (posL X)) :: J n :: q :: F)
    (fun f n => f ≤ (posL X).length ∧ ∃ i0, i0 ≤ 16 ∧ UpTo (posL X) f i0 (fun z => z / 16) ∧ (cellsX X).drop n = restX X (65536 * i0) ∧ n ≤ (cellsX X).length) (fun f _ => (posL X).length - f) 0 0 ⟨by omega, 0, by omega, UpTo.nil (fun _ _ => Nat.zero_le _), by rw [List.drop_zero]; unfold cellsX; rfl, Nat.zero_le _⟩ ?_ ?_ ?_
  · (refine SubE.c rfl rfl ?_; refine SubE.c rfl rfl ?_; refine SubE.c rfl rfl ?_; exact SubE.n)
  · ((refine Sb.c Tk.h ?_; refine Sb.c Tk.h ?_; refine Sb.c Tk.h ?_; refine Sb.c Tk.h ?_); (exact Sb.r))
  rintro f n ⟨hf, i0, hi0, hup, hd, hn⟩
  (refine G.seq ?_; refine G.seq ?_; refine G.region ?_; refine GO.move rfl rfl ?_; refine GO.load1 rfl rfl rfl Tk.h rfl ?_; refine GO.lenOwn rfl rfl (Tk.t Tk.h) ?_; refine GO.lti rfl rfl rfl ?_; refine GO.nil ?_; refine kthen_n ?_)
  refine G.condD rfl (fun hlt => ?_) (fun hge => ?_)
  · have hlt' : f < (posL X).length := by omega
    obtain ⟨z, hz⟩ : ∃ z, (posL X)[f]? = some z := ⟨_, List.getElem?_eq_getElem hlt'⟩
    have hyf : ∃ fn caps, y = .func fn #[] caps := by
      obtain ⟨u, hu⟩ := cellsX_some (List.mem_of_getElem? hz)
      exact (hy 0 u hu).form
    refine G.ownForm (by omega) (Tk.t Tk.h) fun bl capl e2 hd1 hd2 hd3 => ?_
    subst e2
    have hz16 : z / 16 < 16 := by have := (posL_mem.1 (List.mem_of_getElem? hz)).1; omega
    have rd : ∀ k x, (posL X)[k]? = some x → Rd (own 84 66 (posL X).length (.slice (some ⟨bl, 0, none⟩) (posL X).length capl) (allV X (posL X))) ⟨bl, 0 + k * 66, none⟩ (i64 ((x / 16 : Nat) : Int)) := fun k x hx => by
      rw [Nat.zero_add]
      refine Rd.own ?_
      have := allV_get (X := X) (j := 0) hx (by decide)
      rw [Nat.add_zero] at this
      rw [this, plV_row]
    have rdf := rd f z hz
    (refine G.skip ?_; refine kthen_n ?_; refine G.block ?_; refine G.seq ?_; refine G.region ?_; refine GO.move rfl rfl ?_; refine GO.assign rfl rfl ?_; refine GO.nil ?_; refine kthen_n ?_; refine G.seq ?_; refine G.block ?_)
    refine G.loop (fun t : Nat => [(0, y), (1, .pointer (some ⟨bx, 0, none⟩)), (3, i64 f), (4, i64 t)])
      (fun _ => pt bx (row [.slice (some ⟨bl, 0, none⟩) (posL X).length capl] 82) :: own 84 66 (posL X).length (.slice (some ⟨bl, 0, none⟩) (posL X).length capl) (allV X (posL X)) :: J n :: q :: F)
      (fun t => f ≤ t ∧ t ≤ (posL X).length ∧ ∀ k x, (posL X)[k]? = some x → f ≤ k → k < t → x / 16 = z / 16) (fun t => (posL X).length - t) f ⟨by omega, by omega, fun k x _ h1 h2 => by omega⟩ ?_ ?_ ?_
    · (refine SubE.c rfl rfl ?_; refine SubE.c rfl rfl ?_; refine SubE.c rfl rfl ?_; refine SubE.c rfl rfl ?_; exact SubE.n)
    · ((refine Sb.c Tk.h ?_; refine Sb.c Tk.h ?_; refine Sb.c Tk.h ?_; refine Sb.c Tk.h ?_); (exact Sb.r))
    rintro t ⟨ht1, ht2, hin⟩
    (refine G.seq ?_; refine G.seq ?_)
    cases h4 : decide ((t : Int) < ((posL X).length : Int)) with
    | true =>
      have ht3 : t < (posL X).length := by have := of_decide_eq_true h4; omega
      obtain ⟨x, hx⟩ : ∃ x, (posL X)[t]? = some x := ⟨_, List.getElem?_eq_getElem ht3⟩
      have rdt := rd t x hx
      refine G.draw 19 (by kernel_rfl) ?_
      ((apply GQ.step; focus (intro Z; refine GO.move rfl rfl ?_; exact KQ.z)); (apply GQ.step; focus (intro Z; refine GO.load1 rfl rfl rfl Tk.h rfl ?_; exact KQ.z)); (apply GQ.step; focus (intro Z; refine GO.lenS rfl rfl ?_; exact KQ.z)); (apply GQ.step; focus (intro Z; refine GO.lti rfl rfl rfl ?_; exact KQ.z)); (apply GQ.step; focus (intro Z; refine GO.move rfl rfl ?_; exact KQ.z)); (apply GQ.step; focus (intro Z; refine GO.gT rfl rfl (by assumption) ?_; refine GO.load1 rfl rfl rfl Tk.h rfl ?_; exact KQ.z)); (apply GQ.step; focus (intro Z; refine GO.gT rfl rfl (by assumption) ?_; refine GO.move rfl rfl ?_; exact KQ.z)); (apply GQ.step; focus (intro Z; refine GO.gT rfl rfl (by assumption) ?_; refine GO.idxS rfl rfl rfl ⟨rfl, by omega⟩ ?_; exact KQ.z)); (apply GQ.step; focus (intro Z; refine GO.gT rfl rfl (by assumption) ?_; refine GO.fieldAddr rfl rfl ?_; exact KQ.z)); (apply GQ.step; focus (intro Z; refine GO.gT rfl rfl (by assumption) ?_; refine GO.fieldAddr rfl rfl ?_; exact KQ.z)); (apply GQ.step; focus (intro Z; refine GO.gT rfl rfl (by assumption) ?_; refine GO.loadQ rfl rfl rfl (Tk.t Tk.h) (by assumption) ?_; exact KQ.z)); (apply GQ.step; focus (intro Z; refine GO.gT rfl rfl (by assumption) ?_; refine GO.load1 rfl rfl rfl Tk.h rfl ?_; exact KQ.z)); (apply GQ.step; focus (intro Z; refine GO.gT rfl rfl (by assumption) ?_; refine GO.move rfl rfl ?_; exact KQ.z)); (apply GQ.step; focus (intro Z; refine GO.gT rfl rfl (by assumption) ?_; refine GO.idxS rfl rfl rfl ⟨rfl, by omega⟩ ?_; exact KQ.z)); (apply GQ.step; focus (intro Z; refine GO.gT rfl rfl (by assumption) ?_; refine GO.fieldAddr rfl rfl ?_; exact KQ.z)); (apply GQ.step; focus (intro Z; refine GO.gT rfl rfl (by assumption) ?_; refine GO.fieldAddr rfl rfl ?_; exact KQ.z)); (apply GQ.step; focus (intro Z; refine GO.gT rfl rfl (by assumption) ?_; refine GO.loadQ rfl rfl rfl (Tk.t Tk.h) (by assumption) ?_; exact KQ.z)); (apply GQ.step; focus (intro Z; refine GO.gT rfl rfl (by assumption) ?_; refine GO.eqi rfl rfl rfl ?_; exact KQ.z)); (apply GQ.step; focus (intro Z; refine GO.pickTa rfl rfl (by assumption) rfl ?_; exact KQ.z)); refine GQ.nil ?_)
      (refine GO.nil ?_; refine kthen_n ?_)
      refine G.condD rfl (fun hxe => ?_) (fun hxe => ?_)
      · have hxe' : x / 16 = z / 16 := by omega
        (refine G.skip ?_; refine kthen_n ?_; refine G.block ?_; refine G.region ?_; refine GO.move rfl rfl ?_; refine GO.addi rfl rfl rfl (by omega) ?_; refine GO.assign rfl rfl ?_; refine GO.nil ?_; refine kblock_n ?_; refine kthen_n ?_)
        refine ⟨t + 1, ⟨by omega, by omega, fun k u hu h1 h2 => ?_⟩, by omega, ?_, ?_⟩
        · rcases Nat.lt_or_ge k t with h | h
          · exact hin k u hu h1 h
          · obtain rfl : k = t := by omega
            rw [hx] at hu; obtain rfl : x = u := by simpa using hu
            exact hxe'
        · (refine SubE.c rfl rfl ?_; refine SubE.c rfl rfl ?_; refine SubE.c rfl rfl ?_; refine SubE.c rfl rfl ?_; exact SubE.n)
        · ((refine Sb.c Tk.h ?_; refine Sb.c Tk.h ?_; refine Sb.c Tk.h ?_; refine Sb.c Tk.h ?_); (exact Sb.r))
      · have hxe' : ¬ x / 16 = z / 16 := by omega
        have hft : f < t := by
          rcases Nat.lt_or_ge f t with h | h
          · exact h
          · obtain rfl : f = t := by omega
            rw [hz] at hx; obtain rfl : z = x := by simpa using hx
            exact absurd rfl hxe'
        have hout : ∀ y, (posL X)[t]? = some y → y / 16 ≠ z / 16 := fun u hu => by
          rw [hx] at hu; obtain rfl : x = u := by simpa using hu
          exact hxe'
        (refine G.exit ?_; refine kthen_x ?_; refine kthen_x ?_; refine kblock_x ?_; refine kthen_n ?_; refine G.seq ?_; refine G.seq ?_; refine G.region ?_; refine GO.load1 rfl rfl rfl Tk.h rfl ?_; refine GO.move rfl rfl ?_; refine GO.move rfl rfl ?_)
        obtain ⟨hend, hup'⟩ := rows_end hup hz hft hin hout
        have hgl := grp_len (X := X) (f := f) ht2
        have hgo := grp_ok (X := X) ht2 hend
        have hd' := hd.trans (gap_rows (Nat.le_of_lt hz16) (hup.ge hz) (fun y hy h => hup.gapW posL_weak hz hy h))
        have hsl : Sl (own 84 66 (posL X).length (.slice (some ⟨bl, 0, none⟩) (posL X).length capl) (allV X (posL X))) (.slice (some ⟨bl, 0 + f * 66, none⟩) (t - f) (capl - f)) (grp X f t).length 66 (allV X (grp X f t)) := ⟨_, _, by rw [hgl], allV_len X _, fun _ => ⟨bl, 0 + f * 66, rfl, fun j u hj => by rw [Nat.zero_add]; exact Rd.own (allV_grp hj)⟩⟩
        refine GO.sliceLH (l := f) (h := t) rfl rfl rfl rfl ⟨rfl, rfl, hft, by omega⟩ ?_
        (refine GO.move rfl rfl ?_)
        refine GO.call2 rfl rfl rfl (gcells_spec q (own 84 66 (posL X).length (.slice (some ⟨bl, 0, none⟩) (posL X).length capl) (allV X (posL X))) hq X (z / 16) hz16 (grp X f t) hgo (by rw [hgl]; omega) (.slice (some ⟨bl, 0 + f * 66, none⟩) (t - f) (capl - f)) y hyf hsl J S hy n hd' hn) (Tks.c (Tk.t (Tk.t Tk.h)) (Tks.c (Tk.t (Tk.t Tk.h)) (Tks.c (Tk.t Tk.h) Tks.n))) ?_
        rintro _ _ (⟨rfl, n', hn', hn2, rfl⟩ | ⟨rfl, n', hn', rfl⟩)
        · (refine GO.not rfl rfl ?_; refine GO.nil ?_; refine kthen_n ?_; refine G.condF rfl rfl ?_; refine G.skip ?_; refine kthen_n ?_; refine G.region ?_; refine GO.move rfl rfl ?_; refine GO.assign rfl rfl ?_; refine GO.nil ?_; refine kblock_n ?_; refine kthen_n ?_)
          refine ⟨t, n', ⟨ht2, z / 16 + 1, by omega, hup', hn', hn2⟩, by omega, ?_, ?_⟩
          · (refine SubE.c rfl rfl ?_; refine SubE.c rfl rfl ?_; refine SubE.c rfl rfl ?_; exact SubE.n)
          · ((refine Sb.c (Tk.t (Tk.t (Tk.t Tk.h))) ?_; refine Sb.c (Tk.t (Tk.t Tk.h)) ?_; refine Sb.c Tk.h ?_; refine Sb.c Tk.h ?_); (exact Sb.r))
        · (refine GO.not rfl rfl ?_; refine GO.nil ?_; refine kthen_n ?_; refine G.condT rfl rfl ?_; refine G.ret ?_; refine kthen_r ?_; refine kblock_r ?_; refine kthen_r ?_; refine kblock_r ?_)
          refine KF2.r0 rfl (.inr ⟨n', hn', rfl⟩) ?_
          exact ImpS.cons Tk.h (ImpS.cons Tk.h (ImpS.flat (k := [pt bx (row [.slice (some ⟨bl, 0, none⟩) (posL X).length capl] 82), own 84 66 (posL X).length (.slice (some ⟨bl, 0, none⟩) (posL X).length capl) (allV X (posL X))]) (M := F) (ImpS.sb (by ((refine Sb.c (Tk.t Tk.h) ?_; refine Sb.c Tk.h ?_); (exact Sb.r))))))
    | false =>
      have ht3 : ¬ t < (posL X).length := by have := of_decide_eq_false h4; omega
      have hft : f < t := by omega
      have hout : ∀ y, (posL X)[t]? = some y → y / 16 ≠ z / 16 := fun u hu => absurd (List.getElem?_eq_some_iff.1 hu).1 ht3
      refine G.draw 19 (by kernel_rfl) ?_
      ((apply GQ.step; focus (intro Z; refine GO.move rfl rfl ?_; exact KQ.z)); (apply GQ.step; focus (intro Z; refine GO.load1 rfl rfl rfl Tk.h rfl ?_; exact KQ.z)); (apply GQ.step; focus (intro Z; refine GO.lenS rfl rfl ?_; exact KQ.z)); (apply GQ.step; focus (intro Z; refine GO.lti rfl rfl rfl ?_; exact KQ.z)); (apply GQ.step; focus (intro Z; refine GO.move rfl rfl ?_; exact KQ.z)); (apply GQ.step; focus (intro Z; refine GO.gF rfl rfl rfl (by assumption) ?_; exact KQ.z)); (apply GQ.step; focus (intro Z; refine GO.gF rfl rfl rfl (by assumption) ?_; exact KQ.z)); (apply GQ.step; focus (intro Z; refine GO.gF rfl rfl rfl (by assumption) ?_; exact KQ.z)); (apply GQ.step; focus (intro Z; refine GO.gF rfl rfl rfl (by assumption) ?_; exact KQ.z)); (apply GQ.step; focus (intro Z; refine GO.gF rfl rfl rfl (by assumption) ?_; exact KQ.z)); (apply GQ.step; focus (intro Z; refine GO.gF rfl rfl rfl (by assumption) ?_; exact KQ.z)); (apply GQ.step; focus (intro Z; refine GO.gF rfl rfl rfl (by assumption) ?_; exact KQ.z)); (apply GQ.step; focus (intro Z; refine GO.gF rfl rfl rfl (by assumption) ?_; exact KQ.z)); (apply GQ.step; focus (intro Z; refine GO.gF rfl rfl rfl (by assumption) ?_; exact KQ.z)); (apply GQ.step; focus (intro Z; refine GO.gF rfl rfl rfl (by assumption) ?_; exact KQ.z)); (apply GQ.step; focus (intro Z; refine GO.gF rfl rfl rfl (by assumption) ?_; exact KQ.z)); (apply GQ.step; focus (intro Z; refine GO.gF rfl rfl rfl (by assumption) ?_; exact KQ.z)); (apply GQ.step; focus (intro Z; refine GO.gF rfl rfl rfl (by assumption) ?_; exact KQ.z)); (apply GQ.step; focus (intro Z; refine GO.pickFa rfl rfl (by assumption) rfl ?_; exact KQ.z)); refine GQ.nil ?_)
      (refine GO.nil ?_; refine kthen_n ?_; refine G.condF rfl rfl ?_; refine G.exit ?_; refine kthen_x ?_; refine kthen_x ?_; refine kblock_x ?_; refine kthen_n ?_; refine G.seq ?_; refine G.seq ?_; refine G.region ?_; refine GO.load1 rfl rfl rfl Tk.h rfl ?_; refine GO.move rfl rfl ?_; refine GO.move rfl rfl ?_)
      obtain ⟨hend, hup'⟩ := rows_end hup hz hft hin hout
      have hgl := grp_len (X := X) (f := f) ht2
      have hgo := grp_ok (X := X) ht2 hend
      have hd' := hd.trans (gap_rows (Nat.le_of_lt hz16) (hup.ge hz) (fun y hy h => hup.gapW posL_weak hz hy h))
      have hsl : Sl (own 84 66 (posL X).length (.slice (some ⟨bl, 0, none⟩) (posL X).length capl) (allV X (posL X))) (.slice (some ⟨bl, 0 + f * 66, none⟩) (t - f) (capl - f)) (grp X f t).length 66 (allV X (grp X f t)) := ⟨_, _, by rw [hgl], allV_len X _, fun _ => ⟨bl, 0 + f * 66, rfl, fun j u hj => by rw [Nat.zero_add]; exact Rd.own (allV_grp hj)⟩⟩
      refine GO.sliceLH (l := f) (h := t) rfl rfl rfl rfl ⟨rfl, rfl, hft, by omega⟩ ?_
      (refine GO.move rfl rfl ?_)
      refine GO.call2 rfl rfl rfl (gcells_spec q (own 84 66 (posL X).length (.slice (some ⟨bl, 0, none⟩) (posL X).length capl) (allV X (posL X))) hq X (z / 16) hz16 (grp X f t) hgo (by rw [hgl]; omega) (.slice (some ⟨bl, 0 + f * 66, none⟩) (t - f) (capl - f)) y hyf hsl J S hy n hd' hn) (Tks.c (Tk.t (Tk.t Tk.h)) (Tks.c (Tk.t (Tk.t Tk.h)) (Tks.c (Tk.t Tk.h) Tks.n))) ?_
      rintro _ _ (⟨rfl, n', hn', hn2, rfl⟩ | ⟨rfl, n', hn', rfl⟩)
      · (refine GO.not rfl rfl ?_; refine GO.nil ?_; refine kthen_n ?_; refine G.condF rfl rfl ?_; refine G.skip ?_; refine kthen_n ?_; refine G.region ?_; refine GO.move rfl rfl ?_; refine GO.assign rfl rfl ?_; refine GO.nil ?_; refine kblock_n ?_; refine kthen_n ?_)
        refine ⟨t, n', ⟨ht2, z / 16 + 1, by omega, hup', hn', hn2⟩, by omega, ?_, ?_⟩
        · (refine SubE.c rfl rfl ?_; refine SubE.c rfl rfl ?_; refine SubE.c rfl rfl ?_; exact SubE.n)
        · ((refine Sb.c (Tk.t (Tk.t (Tk.t Tk.h))) ?_; refine Sb.c (Tk.t (Tk.t Tk.h)) ?_; refine Sb.c Tk.h ?_; refine Sb.c Tk.h ?_); (exact Sb.r))
      · (refine GO.not rfl rfl ?_; refine GO.nil ?_; refine kthen_n ?_; refine G.condT rfl rfl ?_; refine G.ret ?_; refine kthen_r ?_; refine kblock_r ?_; refine kthen_r ?_; refine kblock_r ?_)
        refine KF2.r0 rfl (.inr ⟨n', hn', rfl⟩) ?_
        exact ImpS.cons Tk.h (ImpS.cons Tk.h (ImpS.flat (k := [pt bx (row [.slice (some ⟨bl, 0, none⟩) (posL X).length capl] 82), own 84 66 (posL X).length (.slice (some ⟨bl, 0, none⟩) (posL X).length capl) (allV X (posL X))]) (M := F) (ImpS.sb (by ((refine Sb.c (Tk.t Tk.h) ?_; refine Sb.c Tk.h ?_); (exact Sb.r))))))
  · have hfl : (posL X).length ≤ f := by omega
    have hdz : (cellsX X).drop n = [] := by
      rw [hd, gap_rows (Nat.le_refl 16) hi0 (fun y hy _ => hup.all hfl hy)]
      exact restX_end X
    have hnl : n = (cellsX X).length := by
      have := congrArg List.length hdz
      rw [List.length_drop, List.length_nil] at this
      omega
    subst hnl
    (refine G.exit ?_; refine kthen_x ?_; refine kthen_x ?_; refine kblock_x ?_)
    refine KF2.n0 rfl (.inl rfl) ?_
    exact ImpS.cons (Tk.t (Tk.t Tk.h)) (ImpS.cons (Tk.t (Tk.t Tk.h)) (ImpS.flat (k := [pt bx (row [v] 82), own 84 66 (posL X).length v (allV X (posL X))]) (M := F) ImpS.refl))
end Go.Proofs.YtfoahdfflchidaaDoor
namespace Go.Proofs.YtfoahdfflchidaaDoor
open Go
attribute [local irreducible] G GO GR GT Fn FnV pt init exs pur sat own ImpS mat posL allV orL restX cellsX
theorem mcells_seq (q : HP) (hq : Tab q) (X : Nat → Nat → Bool) (bx : Nat) (v : Value) : SeqOK Tryd.prog (.func (.func 41) #[] #[.pointer (some ⟨bx, 0, none⟩)]) ((cellsX X).map celV) [q] [bkM X bx v] :=
  SeqOK.of1 (caps := #[.pointer (some ⟨bx, 0, none⟩)]) fun y J S hy => by rw [List.length_map]; exact cells1_spec q hq X bx v y J S hy
theorem mcells_mat (side b : Nat) (X : Nat → Nat → Bool) : Fn Tryd.prog 17 #[.pointer (some ⟨b, 0, none⟩)] [mat side X b] (fun r Q => ∃ b3 v, r = .func (.func 41) #[] #[.pointer (some ⟨b3, 0, none⟩)] ∧ Q = [bkM X b3 v, mat side X b]) := by
  refine Fn.mk2 Tryd.func17 rfl rfl fun w0 F => ?_
  (refine G.seq ?_; refine G.region ?_; refine GO.assign rfl rfl ?_; refine GO.nil ?_; refine kthen_n ?_; refine G.seq ?_; refine G.region ?_; refine GO.move rfl rfl ?_)
  refine GO.call1 rfl rfl (all_mat side b X) (Tks.c Tk.h Tks.n) ?_
  rintro v5 _ rfl
  refine GO.ownOne Tk.h fun hone => ?_
  (refine GO.alloc rfl fun b3 => ?_; refine GO.store1 rfl rfl (by assumption) Tk.h (by decide) ?_; refine GO.nil ?_; refine kthen_n ?_; refine G.seq ?_; refine G.region ?_; refine GO.makeFunc1 rfl rfl ?_; refine GO.assign rfl rfl ?_; refine GO.nil ?_; refine kthen_n ?_; refine G.ret ?_)
  refine KF2.r1 rfl (RV.t rfl) ⟨_, v5, rfl, rfl⟩ ?_
  refine ImpS.trans (ImpS.sb (M := pt b3 (row [v5] 82) :: own 84 66 (posL X).length v5 (allV X (posL X)) :: mat side X b :: F) ?_) ?_
  · ((refine Sb.c Tk.h ?_; refine Sb.c Tk.h ?_; refine Sb.c Tk.h ?_); (exact Sb.r))
  · exact ImpS.flat (k := [pt b3 (row [v5] 82), own 84 66 (posL X).length v5 (allV X (posL X))]) (M := mat side X b :: F) ImpS.refl
end Go.Proofs.YtfoahdfflchidaaDoor
namespace Go.Proofs.YtfoahdfflchidaaDoor
open Go
theorem part_fit {side z : Nat} {X : Nat → Nat → Bool} (hin : ∀ r c, X r c = true → r < side ∧ c < side) : FitB side (z / 16) (z % 16) (blkAt X (z / 16) (z % 16)) := fun r c hr hc hb => by
  rw [blkAt_bit _ _ _ _ _ hc] at hb
  exact hin _ _ hb
theorem part_fold {side : Nat} {X : Nat → Nat → Bool} (hs : side ≤ 1024) (hin : ∀ r c, X r c = true → r < side ∧ c < side) : orL (fun z => z / 16) (fun z => z % 16) (fun z => blkAt X (z / 16) (z % 16)) noX (posL X) = X := by
  refine orL_eq (fun z hz r c h1 h2 h3 => ?_) (fun r c h => ?_)
  · rw [blkAt_bit _ _ _ _ _ (Nat.mod_lt _ (by decide)), ← h1, ← h2, blk_part, blk_part] at h3
    exact h3
  · obtain ⟨h1, h2, h3⟩ := posL_of hs hin h
    refine ⟨_, h1, h2.symm, h3.symm, ?_⟩
    rw [h2, h3, blkAt_bit _ _ _ _ _ (Nat.mod_lt _ (by decide)), blk_part, blk_part]
    exact h
theorem less_bit (b : Blk) (X : Nat → Nat → Bool) (i j r c : Nat) (hc : c < 64) : (lessB b (blkAt X i j) r).getLsbD c = ((b r).getLsbD c && !X (64 * i + r) (64 * j + c)) := by
  unfold lessB
  rw [BitVec.getLsbD_and, BitVec.getLsbD_not, blkAt_bit _ _ _ _ _ hc]
  simp [hc]
attribute [local irreducible] G GO GR GT Fn FnV pt init exs pur sat own ImpS mat posL allV orL exX cntX
end Go.Proofs.YtfoahdfflchidaaDoor
namespace Go.Proofs.YtfoahdfflchidaaDoor
open Go
/-- One's cells and the other's. -/
def uniX (X Y : Nat → Nat → Bool) : Nat → Nat → Bool := fun r c => X r c || Y r c
theorem uni_fold {side : Nat} {Y : Nat → Nat → Bool} (X : Nat → Nat → Bool) (hs : side ≤ 1024) (hin : ∀ r c, Y r c = true → r < side ∧ c < side) : orL (fun z => z / 16) (fun z => z % 16) (fun z => blkAt Y (z / 16) (z % 16)) X (posL Y) = uniX X Y := by
  funext r c
  have h := congrFun (congrFun (part_fold hs hin) r) c
  rw [orL_at] at h ⊢
  rw [show noX r c = false from rfl, Bool.false_or] at h
  rw [h]
  rfl
/-- How many cells there are, when k blocks have come. -/
theorem cnt_step {X W : Nat → Nat → Bool} {z : Nat} (b : Blk) (hz : z < 256) (h : cntX X ≤ cntX W) : cntX X ≤ cntX (orX W (z / 16) (z % 16) b) ∧ decide (cntX X < cntX (orX W (z / 16) (z % 16) b)) = (decide (cntX X < cntX W) || decide (0 < lenB (lessB b (blkAt W (z / 16) (z % 16))) 64)) := by
  rw [cntX_or W (by omega) (Nat.mod_lt _ (by decide))]
  refine ⟨by omega, ?_⟩
  rw [Bool.eq_iff_iff, Bool.or_eq_true, decide_eq_true_iff, decide_eq_true_iff, decide_eq_true_iff]
  omega
theorem own_or {X : Nat → Nat → Bool} (i j : Nat) : orX X i j (blkAt X i j) = X := by
  funext r c
  unfold orX
  cases hX : X r c with
  | true => rfl
  | false =>
    rw [Bool.false_or]
    cases h : (decide (r / 64 = i) && (decide (c / 64 = j) && (blkAt X i j (r % 64)).getLsbD (c % 64))) with
    | false => rfl
    | true =>
      simp only [Bool.and_eq_true, decide_eq_true_eq] at h
      obtain ⟨h1, h2, h3⟩ := h
      rw [blkAt_bit _ _ _ _ _ (Nat.mod_lt _ (by decide)), ← h1, ← h2, blk_part, blk_part, hX] at h3
      exact h3.symm
theorem own_none (X : Nat → Nat → Bool) (i j : Nat) : decide (0 < lenB (lessB (blkAt X i j) (blkAt X i j)) 64) = false := by
  rw [decide_eq_false_iff_not, lenB_none (fun r c hr hc => ?_)]
  · exact Nat.lt_irrefl 0
  · rw [less_bit _ _ _ _ _ _ hc, blkAt_bit _ _ _ _ _ hc]
    cases X (64 * i + r) (64 * j + c) <;> rfl
attribute [local irreducible] G GO GR GT Fn FnV pt init exs pur sat own ImpS mat posL allV orL orX cntX
def joinR (s s2 : Nat) (X Y : Nat → Nat → Bool) (b bo : Nat) (r : Value) (Q : List HP) : Prop :=
  (s = s2 ∧ r = .tuple #[.bool (decide (cntX X < cntX (uniX X Y))), i64 0] ∧ Q = [mat s (uniX X Y) b, mat s2 Y bo]) ∨ (s ≠ s2 ∧ r = .tuple #[.bool false, i64 5] ∧ Q = [mat s X b, mat s2 Y bo])
set_option maxHeartbeats 4000000 in
theorem join_mat (s s2 b bo : Nat) (X Y : Nat → Nat → Bool) : Fn Tryd.prog 20 #[.pointer (some ⟨b, 0, none⟩), .pointer (some ⟨bo, 0, none⟩)] [mat s X b, mat s2 Y bo] (joinR s s2 X Y b bo) := by
  refine Fn.mk2 Tryd.func20 rfl rfl fun w0 F => ?_
  refine G.matFact (Tk.t Tk.h) fun hsd hin => ?_
  have hpl : ¬ 256 < (posL Y).length := by have := posL_len Y; omega
  have hfold := uni_fold X hsd.2 hin
  have rs := mat_side (side := s) (b := b) (X := X)
  have rs2 := mat_side (side := s2) (b := bo) (X := Y)
  (refine G.seq ?_; refine G.region ?_; refine GO.assign rfl rfl ?_; refine GO.assign rfl rfl ?_; refine GO.nil ?_; refine kthen_n ?_; refine G.seq ?_; refine G.block ?_; refine G.seq ?_; refine G.region ?_; refine GO.move rfl rfl ?_)
  refine GO.call1 rfl rfl (is_mat s b X) (Tks.c Tk.h Tks.n) ?_
  rintro _ _ ⟨rfl, rfl⟩
  (refine GO.not rfl rfl ?_; refine GO.move rfl rfl ?_; refine GO.gT rfl rfl rfl ?_; refine GO.move rfl rfl ?_; refine GO.gT rfl rfl rfl ?_)
  refine GO.call1 rfl rfl (is_mat s2 bo Y) (Tks.c (Tk.t Tk.h) Tks.n) ?_
  rintro _ _ ⟨rfl, rfl⟩
  (refine GO.gT rfl rfl rfl ?_; refine GO.not rfl rfl ?_; refine GO.pickF rfl rfl rfl ?_; refine GO.assign rfl rfl ?_; refine GO.nil ?_; refine kthen_n ?_; refine G.condF rfl rfl ?_; refine G.seq ?_)
  refine G.draw 10 (by kernel_rfl) ?_
  ((apply GQ.step; focus (intro Z; refine GO.move rfl rfl ?_; exact KQ.z)); (apply GQ.step; focus (intro Z; refine GO.nilCheck rfl rfl ?_; exact KQ.z)); (apply GQ.step; focus (intro Z; refine GO.fieldAddr rfl rfl ?_; exact KQ.z)); (apply GQ.step; focus (intro Z; refine GO.loadQ rfl rfl rfl (Tk.t Tk.h) (by assumption) ?_; exact KQ.z)); (apply GQ.step; focus (intro Z; refine GO.move rfl rfl ?_; exact KQ.z)); (apply GQ.step; focus (intro Z; refine GO.nilCheck rfl rfl ?_; exact KQ.z)); (apply GQ.step; focus (intro Z; refine GO.fieldAddr rfl rfl ?_; exact KQ.z)); (apply GQ.step; focus (intro Z; refine GO.loadQ rfl rfl rfl Tk.h (by assumption) ?_; exact KQ.z)); (apply GQ.step; focus (intro Z; refine GO.nei rfl rfl rfl ?_; exact KQ.z)); (apply GQ.step; focus (intro Z; refine GO.assign rfl rfl ?_; exact KQ.z)); refine GQ.nil ?_)
  (refine GO.nil ?_; refine kthen_n ?_)
  refine G.condD rfl (fun h1 => ?_) (fun h1 => ?_)
  · (refine G.seq ?_; refine G.region ?_; refine GO.assign rfl rfl ?_; refine GO.assign rfl rfl ?_; refine GO.nil ?_; refine kthen_n ?_; refine G.ret ?_; refine kblock_r ?_; refine kthen_r ?_)
    refine KF2.r2 rfl (RV.t rfl) (RV.t rfl) (.inr ⟨by omega, rfl, rfl⟩) (ImpS.sb ?_)
    ((refine Sb.c (Tk.t Tk.h) ?_; refine Sb.c Tk.h ?_); (exact Sb.r))
  · obtain rfl : s = s2 := by omega
    clear rs rs2 h1
    (refine G.skip ?_; refine kblock_n ?_; refine kthen_n ?_; refine G.seq ?_; refine G.region ?_; refine GO.assign rfl rfl ?_; refine GO.nil ?_; refine kthen_n ?_; refine G.seq ?_; refine G.seq ?_; refine G.region ?_; refine GO.move rfl rfl ?_)
    refine GO.call1 rfl rfl (all_mat s bo Y) (Tks.c Tk.h Tks.n) ?_
    rintro v29 _ rfl
    (refine GO.lenOwn rfl rfl Tk.h ?_; refine GO.move rfl rfl ?_; refine GO.nil ?_; refine kthen_n ?_; refine G.block ?_)
    refine G.loop (fun k : Nat => [(0, .pointer (some ⟨b, 0, none⟩)), (6, .bool (decide (cntX X < cntX (orL (fun z => z / 16) (fun z => z % 16) (fun z => blkAt Y (z / 16) (z % 16)) X ((posL Y).take k))))), (29, v29), (30, i64 (posL Y).length), (31, i64 k)])
      (fun k => own 84 66 (posL Y).length v29 (allV Y (posL Y)) :: mat s Y bo :: mat s (orL (fun z => z / 16) (fun z => z % 16) (fun z => blkAt Y (z / 16) (z % 16)) X ((posL Y).take k)) b :: F) (fun k => k ≤ (posL Y).length ∧ cntX X ≤ cntX (orL (fun z => z / 16) (fun z => z % 16) (fun z => blkAt Y (z / 16) (z % 16)) X ((posL Y).take k))) (fun k => (posL Y).length - k) 0 ⟨by omega, by rw [orL_nil]; exact Nat.le_refl _⟩ ?_ ?_ ?_
    · rw [orL_nil, decide_eq_false (Nat.lt_irrefl _)]
      (refine SubE.c rfl rfl ?_; refine SubE.c rfl rfl ?_; refine SubE.c rfl rfl ?_; refine SubE.c rfl rfl ?_; refine SubE.c rfl rfl ?_; exact SubE.n)
    · rw [orL_nil]
      ((refine Sb.c Tk.h ?_; refine Sb.c Tk.h ?_; refine Sb.c Tk.h ?_); (exact Sb.r))
    rintro k ⟨hk, hle⟩
    (refine G.seq ?_; refine G.region ?_; refine GO.lti rfl rfl rfl ?_; refine GO.nil ?_; refine kthen_n ?_; refine G.seq ?_)
    refine G.condD rfl (fun hlt => ?_) (fun hge => ?_)
    · have hlt' : k < (posL Y).length := by omega
      obtain ⟨z, hz⟩ : ∃ z, (posL Y)[k]? = some z := ⟨(posL Y)[k], by simp [hlt']⟩
      refine G.ownForm (by omega) Tk.h fun bl capl e2 hd1 hd2 hd3 => ?_
      subst e2
      have hzm := List.mem_of_getElem? hz
      have hz256 := (posL_mem.1 hzm).1
      have hfit := part_fit (z := z) hin
      clear hlt' hd1 hd2 hd3
      (refine G.skip ?_; refine kthen_n ?_; refine G.seq ?_; refine G.block ?_; refine G.seq ?_; refine G.region ?_)
      refine GO.idxS (j := k) rfl rfl rfl ⟨rfl, by omega⟩ ?_
      refine GO.loadQV rfl rfl rfl rfl hz Tk.h ?_
      obtain ⟨hle', hdec⟩ := cnt_step (blkAt Y (z / 16) (z % 16)) hz256 hle
      rw [← orL_succ (fi := fun z => z / 16) (fj := fun z => z % 16) (fb := fun z => blkAt Y (z / 16) (z % 16)) hz] at hle' hdec
      (refine GO.alloc rfl fun b8 => ?_; refine GO.storeW rfl rfl Tk.h ⟨qV_len _ _ _, zV_len⟩ (qV_one _ _ _) ?_; refine GO.nil ?_; refine kthen_n ?_; refine G.seq ?_; refine G.region ?_; refine GO.move rfl rfl ?_; refine GO.fieldAddr rfl rfl ?_; refine GO.fieldAddr rfl rfl ?_; refine GO.load1 rfl rfl rfl Tk.h rfl ?_; refine GO.fieldAddr rfl rfl ?_; refine GO.fieldAddr rfl rfl ?_; refine GO.load1 rfl rfl rfl Tk.h rfl ?_; refine GO.fieldAddr rfl rfl ?_; refine GO.loadB2 rfl rfl rfl rfl Tk.h ?_)
      refine GO.call4 rfl rfl rfl rfl rfl (or_mat s b (z / 16) (z % 16) (orL (fun z => z / 16) (fun z => z % 16) (fun z => blkAt Y (z / 16) (z % 16)) X ((posL Y).take k)) (blkAt Y (z / 16) (z % 16)) (by omega) (by omega) hfit) (Tks.c (Tk.t (Tk.t (Tk.t Tk.h))) Tks.n) ?_
      rintro _ _ ⟨rfl, rfl⟩
      cases hm : decide (0 < lenB (lessB (blkAt Y (z / 16) (z % 16)) (blkAt (orL (fun z => z / 16) (fun z => z % 16) (fun z => blkAt Y (z / 16) (z % 16)) X ((posL Y).take k)) (z / 16) (z % 16))) 64) with
      | true =>
        rw [hm, Bool.or_true] at hdec
        (refine GO.nil ?_; refine kthen_n ?_; refine G.condT rfl rfl ?_; refine G.region ?_; refine GO.assign rfl rfl ?_; refine GO.nil ?_; refine kblock_n ?_; refine kthen_n ?_; refine G.region ?_; refine GO.addi rfl rfl rfl (by omega) ?_; refine GO.move rfl rfl ?_; refine GO.nil ?_; refine kthen_n ?_)
        refine ⟨k + 1, ⟨by omega, hle'⟩, by omega, ?_, ?_⟩
        · rw [hdec]
          (refine SubE.c rfl rfl ?_; refine SubE.c rfl rfl ?_; refine SubE.c rfl rfl ?_; refine SubE.c rfl rfl ?_; refine SubE.c rfl rfl ?_; exact SubE.n)
        · rw [orL_succ hz]
          ((refine Sb.c (Tk.t (Tk.t Tk.h)) ?_; refine Sb.c (Tk.t (Tk.t Tk.h)) ?_; refine Sb.c Tk.h ?_); (refine Sb.s ?_; exact Sb.r))
      | false =>
        rw [hm, Bool.or_false] at hdec
        (refine GO.nil ?_; refine kthen_n ?_; refine G.condF rfl rfl ?_; refine G.skip ?_; refine kblock_n ?_; refine kthen_n ?_; refine G.region ?_; refine GO.addi rfl rfl rfl (by omega) ?_; refine GO.move rfl rfl ?_; refine GO.nil ?_; refine kthen_n ?_)
        refine ⟨k + 1, ⟨by omega, hle'⟩, by omega, ?_, ?_⟩
        · rw [hdec]
          (refine SubE.c rfl rfl ?_; refine SubE.c rfl rfl ?_; refine SubE.c rfl rfl ?_; refine SubE.c rfl rfl ?_; refine SubE.c rfl rfl ?_; exact SubE.n)
        · rw [orL_succ hz]
          ((refine Sb.c (Tk.t (Tk.t Tk.h)) ?_; refine Sb.c (Tk.t (Tk.t Tk.h)) ?_; refine Sb.c Tk.h ?_); (refine Sb.s ?_; exact Sb.r))
    · obtain rfl : k = (posL Y).length := by omega
      rw [List.take_length, hfold]
      (refine G.exit ?_; refine kthen_x ?_; refine kthen_x ?_; refine kblock_x ?_; refine kthen_n ?_; refine G.seq ?_; refine G.region ?_; refine GO.move rfl rfl ?_; refine GO.assign rfl rfl ?_; refine GO.assign rfl rfl ?_; refine GO.nil ?_; refine kthen_n ?_; refine G.ret ?_)
      refine KF2.r2 rfl (RV.t rfl) (RV.t rfl) (.inl ⟨rfl, rfl, rfl⟩) (ImpS.sb ?_)
      ((refine Sb.c (Tk.t (Tk.t Tk.h)) ?_; refine Sb.c (Tk.t Tk.h) ?_); (refine Sb.s ?_; exact Sb.r))
/-- .. with itself. -/
theorem join_self (s b : Nat) (X : Nat → Nat → Bool) : Fn Tryd.prog 20 #[.pointer (some ⟨b, 0, none⟩), .pointer (some ⟨b, 0, none⟩)] [mat s X b] (fun r Q => r = .tuple #[.bool false, i64 0] ∧ Q = [mat s X b]) := by
  refine Fn.mk2 Tryd.func20 rfl rfl fun w0 F => ?_
  refine G.matFact Tk.h fun hsd hin => ?_
  have hpl : ¬ 256 < (posL X).length := by have := posL_len X; omega
  have rs := mat_side (side := s) (b := b) (X := X)
  (refine G.seq ?_; refine G.region ?_; refine GO.assign rfl rfl ?_; refine GO.assign rfl rfl ?_; refine GO.nil ?_; refine kthen_n ?_; refine G.seq ?_; refine G.block ?_; refine G.seq ?_; refine G.region ?_; refine GO.move rfl rfl ?_)
  refine GO.call1 rfl rfl (is_mat s b X) (Tks.c Tk.h Tks.n) ?_
  rintro _ _ ⟨rfl, rfl⟩
  (refine GO.not rfl rfl ?_; refine GO.move rfl rfl ?_; refine GO.gT rfl rfl rfl ?_; refine GO.move rfl rfl ?_; refine GO.gT rfl rfl rfl ?_)
  refine GO.call1 rfl rfl (is_mat s b X) (Tks.c Tk.h Tks.n) ?_
  rintro _ _ ⟨rfl, rfl⟩
  (refine GO.gT rfl rfl rfl ?_; refine GO.not rfl rfl ?_; refine GO.pickF rfl rfl rfl ?_; refine GO.assign rfl rfl ?_; refine GO.nil ?_; refine kthen_n ?_; refine G.condF rfl rfl ?_; refine G.seq ?_)
  refine G.draw 10 (by kernel_rfl) ?_
  ((apply GQ.step; focus (intro Z; refine GO.move rfl rfl ?_; exact KQ.z)); (apply GQ.step; focus (intro Z; refine GO.nilCheck rfl rfl ?_; exact KQ.z)); (apply GQ.step; focus (intro Z; refine GO.fieldAddr rfl rfl ?_; exact KQ.z)); (apply GQ.step; focus (intro Z; refine GO.loadQ rfl rfl rfl Tk.h (by assumption) ?_; exact KQ.z)); (apply GQ.step; focus (intro Z; refine GO.move rfl rfl ?_; exact KQ.z)); (apply GQ.step; focus (intro Z; refine GO.nilCheck rfl rfl ?_; exact KQ.z)); (apply GQ.step; focus (intro Z; refine GO.fieldAddr rfl rfl ?_; exact KQ.z)); (apply GQ.step; focus (intro Z; refine GO.loadQ rfl rfl rfl Tk.h (by assumption) ?_; exact KQ.z)); (apply GQ.step; focus (intro Z; refine GO.neF rfl rfl rfl rfl ?_; exact KQ.z)); (apply GQ.step; focus (intro Z; refine GO.assign rfl rfl ?_; exact KQ.z)); refine GQ.nil ?_)
  (refine GO.nil ?_; refine kthen_n ?_; refine G.condF rfl rfl ?_; refine G.skip ?_; refine kblock_n ?_; refine kthen_n ?_; refine G.seq ?_; refine G.region ?_; refine GO.assign rfl rfl ?_; refine GO.nil ?_; refine kthen_n ?_; refine G.seq ?_; refine G.seq ?_; refine G.region ?_; refine GO.move rfl rfl ?_)
  clear rs
  skip
  refine GO.call1 rfl rfl (all_mat s b X) (Tks.c Tk.h Tks.n) ?_
  rintro v29 _ rfl
  (refine GO.lenOwn rfl rfl Tk.h ?_; refine GO.move rfl rfl ?_; refine GO.nil ?_; refine kthen_n ?_; refine G.block ?_)
  refine G.loop (fun k : Nat => [(0, .pointer (some ⟨b, 0, none⟩)), (6, .bool false), (29, v29), (30, i64 (posL X).length), (31, i64 k)])
    (fun _ => own 84 66 (posL X).length v29 (allV X (posL X)) :: mat s X b :: F) (fun k => k ≤ (posL X).length) (fun k => (posL X).length - k) 0 (by omega) ?_ ?_ ?_
  · (refine SubE.c rfl rfl ?_; refine SubE.c rfl rfl ?_; refine SubE.c rfl rfl ?_; refine SubE.c rfl rfl ?_; refine SubE.c rfl rfl ?_; exact SubE.n)
  · ((refine Sb.c Tk.h ?_; refine Sb.c Tk.h ?_); (exact Sb.r))
  rintro k hk
  (refine G.seq ?_; refine G.region ?_; refine GO.lti rfl rfl rfl ?_; refine GO.nil ?_; refine kthen_n ?_; refine G.seq ?_)
  refine G.condD rfl (fun hlt => ?_) (fun hge => ?_)
  · have hlt' : k < (posL X).length := by omega
    obtain ⟨z, hz⟩ : ∃ z, (posL X)[k]? = some z := ⟨(posL X)[k], by simp [hlt']⟩
    refine G.ownForm (by omega) Tk.h fun bl capl e2 hd1 hd2 hd3 => ?_
    subst e2
    have hzm := List.mem_of_getElem? hz
    have hz256 := (posL_mem.1 hzm).1
    have hfit := part_fit (z := z) hin
    clear hlt' hd1 hd2 hd3
    (refine G.skip ?_; refine kthen_n ?_; refine G.seq ?_; refine G.block ?_; refine G.seq ?_; refine G.region ?_)
    refine GO.idxS (j := k) rfl rfl rfl ⟨rfl, by omega⟩ ?_
    refine GO.loadQV rfl rfl rfl rfl hz Tk.h ?_
    (refine GO.alloc rfl fun b8 => ?_; refine GO.storeW rfl rfl Tk.h ⟨qV_len _ _ _, zV_len⟩ (qV_one _ _ _) ?_; refine GO.nil ?_; refine kthen_n ?_; refine G.seq ?_; refine G.region ?_; refine GO.move rfl rfl ?_; refine GO.fieldAddr rfl rfl ?_; refine GO.fieldAddr rfl rfl ?_; refine GO.load1 rfl rfl rfl Tk.h rfl ?_; refine GO.fieldAddr rfl rfl ?_; refine GO.fieldAddr rfl rfl ?_; refine GO.load1 rfl rfl rfl Tk.h rfl ?_; refine GO.fieldAddr rfl rfl ?_; refine GO.loadB2 rfl rfl rfl rfl Tk.h ?_)
    refine GO.call4 rfl rfl rfl rfl rfl (or_mat s b (z / 16) (z % 16) X (blkAt X (z / 16) (z % 16)) (by omega) (by omega) hfit) (Tks.c (Tk.t (Tk.t Tk.h)) Tks.n) ?_
    rintro _ _ ⟨rfl, rfl⟩
    rw [own_none, own_or]
    (refine GO.nil ?_; refine kthen_n ?_; refine G.condF rfl rfl ?_; refine G.skip ?_; refine kblock_n ?_; refine kthen_n ?_; refine G.region ?_; refine GO.addi rfl rfl rfl (by omega) ?_; refine GO.move rfl rfl ?_; refine GO.nil ?_; refine kthen_n ?_)
    refine ⟨k + 1, by omega, by omega, ?_, ?_⟩
    · (refine SubE.c rfl rfl ?_; refine SubE.c rfl rfl ?_; refine SubE.c rfl rfl ?_; refine SubE.c rfl rfl ?_; refine SubE.c rfl rfl ?_; exact SubE.n)
    · ((refine Sb.c (Tk.t (Tk.t Tk.h)) ?_; refine Sb.c Tk.h ?_); (refine Sb.s ?_; exact Sb.r))
  · obtain rfl : k = (posL X).length := by omega
    (refine G.exit ?_; refine kthen_x ?_; refine kthen_x ?_; refine kblock_x ?_; refine kthen_n ?_; refine G.seq ?_; refine G.region ?_; refine GO.move rfl rfl ?_; refine GO.assign rfl rfl ?_; refine GO.assign rfl rfl ?_; refine GO.nil ?_; refine kthen_n ?_; refine G.ret ?_)
    refine KF2.r2 rfl (RV.t rfl) (RV.t rfl) ⟨rfl, rfl⟩ (ImpS.sb ?_)
    ((refine Sb.c (Tk.t Tk.h) ?_); (refine Sb.s ?_; exact Sb.r))
end Go.Proofs.YtfoahdfflchidaaDoor
namespace Go.Proofs.YtfoahdfflchidaaDoor
open Go
theorem sumTo_zero {f : Nat → Nat} (h : ∀ i, f i = 0) : ∀ n, sumTo f n = 0
  | 0 => rfl
  | n + 1 => by simp only [sumTo]; rw [sumTo_zero h n, h n]
theorem sumTo_add (f g : Nat → Nat) : ∀ n, sumTo (fun i => f i + g i) n = sumTo f n + sumTo g n
  | 0 => rfl
  | n + 1 => by simp only [sumTo]; rw [sumTo_add f g n]; omega
theorem lenB_max (B : Blk) : ∀ n, lenB B n ≤ n * 64
  | 0 => Nat.zero_le _
  | n + 1 => by
    have h1 := lenB_max B n
    have h2 : ∀ (x : BitVec 64) m, cnt x m ≤ m := fun x m => by
      induction m with
      | zero => exact Nat.le_refl _
      | succ m ih => simp only [cnt]; cases x.getLsbD m <;> simp <;> omega
    have h3 := h2 (B n) 64
    simp only [lenB]
    rw [ones_cnt]
    omega
theorem cnt_max (X : Nat → Nat → Bool) : ¬ 1048576 < cntX X := by
  have h := sumTo_le (f := fun i => sumTo (fun j => lenB (blkAt X i j) 64) 16) (m := 65536) (fun i => by
    have := sumTo_le (f := fun j => lenB (blkAt X i j) 64) (m := 4096) (fun j => lenB_max _ 64) 16
    omega) 16
  unfold cntX
  omega
attribute [local irreducible] G GO GR GT Fn FnV pt init exs pur sat own ImpS mat posL allV orL exX cntX restX cellsX uniX diffX
end Go.Proofs.YtfoahdfflchidaaDoor
namespace Go.Proofs.YtfoahdfflchidaaDoor
open Go
theorem telescope {f g : Nat → Nat} : ∀ {n : Nat}, (∀ j, j < n → g j = f j + g (j + 1)) → g 0 = sumTo f n + g n
  | 0, _ => by simp [sumTo]
  | n + 1, h => by
    have h1 := telescope (n := n) (fun j hj => h j (by omega))
    have h2 := h n (by omega)
    simp only [sumTo]
    omega
theorem sumTo_swap (f : Nat → Nat → Nat) (m : Nat) : ∀ n, sumTo (fun i => sumTo (fun j => f i j) m) n = sumTo (fun j => sumTo (fun i => f i j) n) m
  | 0 => (sumTo_zero (fun _ => rfl) m).symm
  | n + 1 => by
    simp only [sumTo]
    rw [sumTo_swap f m n, sumTo_add]
theorem lenB_sum (B : Blk) : ∀ n, lenB B n = sumTo (fun r => cnt (B r) 64) n
  | 0 => rfl
  | n + 1 => by simp only [lenB, sumTo]; rw [lenB_sum B n, ones_cnt]
attribute [local irreducible] sumTo restX
theorem cellsX_len (X : Nat → Nat → Bool) : (cellsX X).length = cntX X := by
  have h1 : ∀ i r, i < 16 → r < 64 → (restX X (65536 * i + 1024 * r)).length = sumTo (fun j => cnt (blkAt X i j r) 64) 16 + (restX X (65536 * i + 1024 * (r + 1))).length := fun i r hi hr => by
    have h : (restX X (65536 * i + 1024 * r + 64 * 0)).length = sumTo (fun j => cnt (blkAt X i j r) 64) 16 + (restX X (65536 * i + 1024 * r + 64 * 16)).length := telescope (f := fun j => cnt (blkAt X i j r) 64) (g := fun j => (restX X (65536 * i + 1024 * r + 64 * j)).length) (n := 16) (fun j hj => by
      show (restX X (65536 * i + 1024 * r + 64 * j)).length = _
      rw [restX_row X hi hr hj, List.length_append, List.length_map, rowL_len])
    rw [show 65536 * i + 1024 * r + 64 * 0 = 65536 * i + 1024 * r by omega, show 65536 * i + 1024 * r + 64 * 16 = 65536 * i + 1024 * (r + 1) by omega] at h
    exact h
  have h2 : ∀ i, i < 16 → (restX X (65536 * i)).length = sumTo (fun j => lenB (blkAt X i j) 64) 16 + (restX X (65536 * (i + 1))).length := fun i hi => by
    have h : (restX X (65536 * i + 1024 * 0)).length = sumTo (fun r => sumTo (fun j => cnt (blkAt X i j r) 64) 16) 64 + (restX X (65536 * i + 1024 * 64)).length := telescope (f := fun r => sumTo (fun j => cnt (blkAt X i j r) 64) 16) (g := fun r => (restX X (65536 * i + 1024 * r)).length) (n := 64) (fun r hr => h1 i r hi hr)
    have e : sumTo (fun j => lenB (blkAt X i j) 64) 16 = sumTo (fun j => sumTo (fun r => cnt (blkAt X i j r) 64) 64) 16 := sumTo_congr fun j _ => lenB_sum _ _
    rw [sumTo_swap, ← e, show 65536 * i + 1024 * 0 = 65536 * i by omega, show 65536 * i + 1024 * 64 = 65536 * (i + 1) by omega] at h
    exact h
  have h3 : (restX X (65536 * 0)).length = sumTo (fun i => sumTo (fun j => lenB (blkAt X i j) 64) 16) 16 + (restX X (65536 * 16)).length := telescope (f := fun i => sumTo (fun j => lenB (blkAt X i j) 64) 16) (g := fun i => (restX X (65536 * i)).length) (n := 16) h2
  have e0 : (restX X (65536 * 16)).length = 0 := by rw [show 65536 * 16 = 1048576 by omega, restX_end, List.length_nil]
  rw [e0, Nat.mul_zero, Nat.add_zero] at h3
  have e1 : cntX X = sumTo (fun i => sumTo (fun j => lenB (blkAt X i j) 64) 16) 16 := by unfold cntX; rfl
  have e2 : cellsX X = restX X 0 := by unfold cellsX; rfl
  rw [e1, e2]
  exact h3
attribute [local semireducible] sumTo restX
/-- A row's cells. -/
def rowX (X : Nat → Nat → Bool) (i : Nat) : List Nat := (List.range 1024).filter fun c => X i c
def lines (X : Nat → Nat → Bool) (i : Nat) : List (Nat × Nat) := (List.range i).flatMap fun r => (rowX X r).map fun c => (r, c)
/-! ## A row, block by block -/
def rowTo (X : Nat → Nat → Bool) (i n : Nat) : List Nat := (List.range n).filter fun c => X i c
theorem rowTo_step (X : Nat → Nat → Bool) (i j : Nat) : rowTo X i (64 * (j + 1)) = rowTo X i (64 * j) ++ ((rowL 0 (blkAt X (i / 64) j (i % 64))).map fun p => 64 * j + p.2) := by
  unfold rowTo rowL
  rw [show 64 * (j + 1) = 64 * j + 64 by omega, List.range_add, List.filter_append, List.filter_map, List.map_map]
  congr 1
  rw [List.filter_congr (q := fun c => (blkAt X (i / 64) j (i % 64)).getLsbD c) (fun c hc => ?_)]
  · rfl
  · have hc' : c < 64 := by simpa using hc
    show X i (64 * j + c) = _
    rw [blkAt_bit _ _ _ _ _ hc', blk_part]
theorem rowTo_none (X : Nat → Nat → Bool) {i j : Nat} (h : ∀ c, c < 64 → X i (64 * j + c) = false) : rowTo X i (64 * (j + 1)) = rowTo X i (64 * j) := by
  unfold rowTo
  rw [show 64 * (j + 1) = 64 * j + 64 by omega, List.range_add, List.filter_append, (List.filter_eq_nil_iff (l := (List.range 64).map (64 * j + ·))).2, List.append_nil]
  intro c hc
  obtain ⟨d, hd, rfl⟩ := List.mem_map.1 hc
  rw [h d (by simpa using hd)]; simp
theorem rowTo_end {side : Nat} {X : Nat → Nat → Bool} (hin : ∀ r c, X r c = true → r < side ∧ c < side) {i n : Nat} (h1 : side ≤ n) (h2 : n ≤ 1024) : rowTo X i n = rowX X i := by
  unfold rowTo rowX
  have e : List.range 1024 = List.range n ++ (List.range (1024 - n)).map (n + ·) := by rw [← List.range_add]; congr 1; omega
  rw [e, List.filter_append, (List.filter_eq_nil_iff (l := (List.range (1024 - n)).map (n + ·))).2, List.append_nil]
  intro c hc
  obtain ⟨d, hd, rfl⟩ := List.mem_map.1 hc
  cases hx : X i (n + d) with
  | false => simp
  | true => have := hin _ _ hx; omega
theorem rowTo_len (X : Nat → Nat → Bool) (i n : Nat) : (rowTo X i n).length ≤ n := by
  have := List.length_filter_le (fun c => X i c) (List.range n)
  rw [List.length_range] at this
  exact this
end Go.Proofs.YtfoahdfflchidaaDoor
namespace Go.Proofs.YtfoahdfflchidaaDoor
open Go
/-- Numbers as cells. -/
def natsV (l : List Nat) : List Value := l.map fun c => i64 (c : Nat)
theorem natsV_len (l : List Nat) : (natsV l).length = l.length := by simp [natsV]
theorem natsV_one (l : List Nat) (c : Nat) : natsV l ++ [i64 (c : Nat)] = natsV (l ++ [c]) := by simp [natsV]
theorem natsV_get {l : List Nat} {k c : Nat} (h : l[k]? = some c) : (natsV l)[k]? = some (i64 (c : Nat)) := by simp [natsV, h]
theorem rowOf_t (B : Blk) {r : Nat} (h : r < 64) : rowOf B (r : Nat) = .tuple #[u64 (B r), i64 0] := by
  unfold rowOf
  rw [if_pos ⟨by omega, by omega⟩]
  rfl
def rowK (X : Nat → Nat → Bool) (m j : Nat) (w : BitVec 64) (k : Nat) : List Nat := rowTo X m (64 * j) ++ ((rowL 0 w).take k).map fun p => 64 * j + p.2
theorem rowK_succ (X : Nat → Nat → Bool) (m j : Nat) {w : BitVec 64} {k : Nat} {p : Nat × Nat} (h : (rowL 0 w)[k]? = some p) : rowK X m j w (k + 1) = rowK X m j w k ++ [64 * j + p.2] := by
  unfold rowK
  rw [List.take_add_one, h, List.map_append, List.append_assoc]
  rfl
theorem rowK_nil (X : Nat → Nat → Bool) (m j : Nat) (w : BitVec 64) : rowK X m j w 0 = rowTo X m (64 * j) := by
  unfold rowK
  rw [List.take_zero, List.map_nil, List.append_nil]
theorem rowK_end (X : Nat → Nat → Bool) (m j : Nat) {w : BitVec 64} (hw : blkAt X (m / 64) j (m % 64) = w) : rowK X m j w (rowL 0 w).length = rowTo X m (64 * (j + 1)) := by
  unfold rowK
  rw [List.take_length, rowTo_step, hw]
theorem rowK_len (X : Nat → Nat → Bool) (m j : Nat) (w : BitVec 64) (k : Nat) : (rowK X m j w k).length ≤ 64 * j + 64 := by
  have h1 := rowTo_len X m (64 * j)
  have h2 : ((rowL 0 w).take k).length ≤ 64 := by
    rw [List.length_take, rowL_len]
    have := cnt_le w 64
    omega
  unfold rowK
  rw [List.length_append, List.length_map]
  omega
def rowR (side b : Nat) (X : Nat → Nat → Bool) (q : HP) (i : Int) (r : Value) (Q : List HP) : Prop :=
  (∃ m : Nat, i = m ∧ m < side ∧ ∃ v, r = .tuple #[v, i64 0] ∧ Q = [own 3 1 (rowX X m).length v (natsV (rowX X m)), mat side X b, q]) ∨ (¬ (0 ≤ i ∧ i < side) ∧ r = .tuple #[.slice none 0 0, i64 2] ∧ Q = [mat side X b, q])
attribute [local irreducible] G GO GR GT Fn FnV pt init exs pur sat own ImpS mat posL allV orL restX cellsX natsV rowTo rowX rowK
set_option maxHeartbeats 4000000 in
theorem mrow_mat (q : HP) (hq : Tab q) (side b : Nat) (X : Nat → Nat → Bool) (i : Int) : Fn Tryd.prog 12 #[.pointer (some ⟨b, 0, none⟩), i64 i] [mat side X b, q] (rowR side b X q i) := by
  refine Fn.mk2 Tryd.func12 rfl rfl fun w0 F => ?_
  refine G.matFact Tk.h fun hsd hin => ?_
  refine G.matOpen Tk.h fun g hg => ?_
  (refine G.seq ?_; refine G.region ?_; refine GO.assign rfl rfl ?_; refine GO.assign rfl rfl ?_; refine GO.nil ?_; refine kthen_n ?_; refine G.seq ?_; refine G.block ?_; refine G.seq ?_; refine G.region ?_; refine GO.move rfl rfl ?_)
  refine GO.call1 rfl rfl (is_pcs g hg) (Tks.c Tk.h (Tks.c Tk.h (Tks.c Tk.h Tks.n))) ?_
  rintro _ _ ⟨rfl, rfl⟩
  (refine GO.not rfl rfl ?_; refine GO.assign rfl rfl ?_; refine GO.nil ?_; refine kthen_n ?_; refine G.condF rfl rfl ?_; refine G.seq ?_; refine G.region ?_; refine GO.move rfl rfl ?_; refine GO.move rfl rfl ?_)
  refine GO.call2 rfl rfl rfl (in_pcs g i) (Tks.c Tk.h (Tks.c Tk.h (Tks.c Tk.h Tks.n))) ?_
  rintro _ _ ⟨rfl, rfl⟩
  cases h1 : decide (0 ≤ i ∧ i < side) with
  | false =>
    (refine GO.not rfl rfl ?_; refine GO.assign rfl rfl ?_; refine GO.nil ?_; refine kthen_n ?_; refine G.condT rfl rfl ?_; refine G.seq ?_; refine G.region ?_; refine GO.assign rfl rfl ?_; refine GO.assign rfl rfl ?_; refine GO.nil ?_; refine kthen_n ?_; refine G.ret ?_; refine kblock_r ?_; refine kthen_r ?_)
    refine KF2.r2 rfl (RV.t rfl) (RV.t rfl) (.inr ⟨of_decide_eq_false h1, rfl, rfl⟩) (ImpS.mat g hg (ImpS.sb Sb.r))
  | true =>
    have h3 := of_decide_eq_true h1
    obtain ⟨m, rfl⟩ := Int.eq_ofNat_of_zero_le h3.1
    have hms : m < side := by omega
    have hg0 := hg
    obtain ⟨D, np, nl, P, B, cn, vp, vl⟩ := g
    have hok : MatOK side X D np nl P B cn := hg0
    obtain ⟨ow, low, T⟩ := hok.tree
    obtain ⟨hD1, hD2, hD3⟩ := hok.dp
    have hbd := hok.pow
    have hi := hok.inb (i := m) (by omega)
    refine GO.mem (H' := matP b side D cn vp vl :: parP np vp P :: leaP nl vl B :: q :: F) Sb.r ?_
    refine GO.ownForm T.some (Tk.t Tk.h) fun bp cap e1 _ _ _ => ?_
    subst e1
    refine GO.ownNil (T := 3) (sz := 1) ?_
    (refine GO.not rfl rfl ?_; refine GO.assign rfl rfl ?_; refine GO.nil ?_; refine kthen_n ?_; refine G.condF rfl rfl ?_; refine G.skip ?_; refine kblock_n ?_; refine kthen_n ?_; refine G.seq ?_; refine G.region ?_; refine GO.alloc rfl fun b6 => ?_; refine GO.nil ?_; refine kthen_n ?_; refine G.seq ?_; refine G.seq ?_; refine G.region ?_; refine GO.alloc rfl fun b7 => ?_; refine GO.store1 rfl rfl rfl Tk.h (by decide) ?_; refine GO.nil ?_; refine kthen_n ?_; refine G.block ?_)
    refine G.loop3 (fun (j : Nat) (b7 : Nat) (_ : Value) => [(0, .pointer (some ⟨b, 0, none⟩)), (1, i64 m), (6, .pointer (some ⟨b6, 0, none⟩)), (7, .pointer (some ⟨b7, 0, none⟩))])
      (fun j b7 v => pt b7 (row [i64 j] 3) :: pt b6 (row [v] 29) :: own 3 1 (rowTo X m (64 * j)).length v (natsV (rowTo X m (64 * j))) :: matP b side D cn (.slice (some ⟨bp, 0, none⟩) np cap) vl :: parP np (.slice (some ⟨bp, 0, none⟩) np cap) P :: leaP nl vl B :: q :: F)
      (fun j _ _ => ¬ 16 < j) (fun j _ _ => 16 - j) 0 b7 (.slice none 0 0) (by omega) ?_ ?_ ?_
    · (refine SubE.c rfl rfl ?_; refine SubE.c rfl rfl ?_; refine SubE.c rfl rfl ?_; refine SubE.c rfl rfl ?_; exact SubE.n)
    · rw [show rowTo X m (64 * 0) = [] by unfold rowTo; rfl, show natsV [] = [] by unfold natsV; rfl]
      ((refine Sb.c Tk.h ?_; refine Sb.c Tk.h ?_; refine Sb.c Tk.h ?_; refine Sb.c Tk.h ?_; refine Sb.c Tk.h ?_; refine Sb.c Tk.h ?_; refine Sb.c Tk.h ?_); (exact Sb.r))
    rintro j b7 v hj
    (refine G.seq ?_; refine G.seq ?_)
    refine G.draw 7 (by kernel_rfl) ?_
    ((apply GQ.step; focus (intro Z; refine GO.load1 rfl rfl rfl Tk.h rfl ?_; exact KQ.z)); (apply GQ.step; focus (intro Z; refine GO.muli rfl rfl rfl (by omega) ?_; exact KQ.z)); (apply GQ.step; focus (intro Z; refine GO.move rfl rfl ?_; exact KQ.z)); (apply GQ.step; focus (intro Z; refine GO.nilCheck rfl rfl ?_; exact KQ.z)); (apply GQ.step; focus (intro Z; refine GO.fieldAddr rfl rfl ?_; exact KQ.z)); (apply GQ.step; focus (intro Z; refine GO.load1 rfl rfl rfl (Tk.t (Tk.t (Tk.t Tk.h))) rfl ?_; exact KQ.z)); (apply GQ.step; focus (intro Z; refine GO.lti rfl rfl rfl ?_; exact KQ.z)); refine GQ.nil ?_)
    (refine GO.nil ?_; refine kthen_n ?_)
    refine G.condD rfl (fun hlt => ?_) (fun hge => ?_)
    · have hj16 : j < 16 := by omega
      refine G.skip ?_
      refine kthen_n ?_
      refine G.seq ?_
      refine G.block ?_
      refine G.midB [(0, .pointer (some ⟨b, 0, none⟩)), (1, i64 m), (6, .pointer (some ⟨b6, 0, none⟩)), (7, .pointer (some ⟨b7, 0, none⟩))]
        ((exs fun v => star [pt b6 (row [v] 29), own 3 1 (rowTo X m (64 * (j + 1))).length v (natsV (rowTo X m (64 * (j + 1))))]) :: pt b7 (row [i64 j] 3) :: matP b side D cn (.slice (some ⟨bp, 0, none⟩) np cap) vl :: parP np (.slice (some ⟨bp, 0, none⟩) np cap) P :: leaP nl vl B :: q :: F) ?_ ?_
      · have hj2 : j < 2 ^ D := by omega
        (refine G.seq ?_; refine G.region ?_; refine GO.move rfl rfl ?_; refine GO.move rfl rfl ?_; refine GO.quoi rfl rfl rfl (by omega) ?_; refine GO.load1 rfl rfl rfl Tk.h rfl ?_)
        refine GO.call3 rfl rfl rfl rfl (leaf_spec T side cn b bp cap vl (m / 64) j (by omega) (by omega) (by omega)) (Tks.c (Tk.t (Tk.t (Tk.t Tk.h))) (Tks.c (Tk.t (Tk.t (Tk.t Tk.h))) Tks.n)) ?_
        rintro _ _ ⟨rfl, rfl⟩
        (refine GO.assign rfl rfl ?_; refine GO.nil ?_; refine kthen_n ?_; refine G.seq ?_; refine G.seq ?_; refine G.region ?_; refine GO.move rfl rfl ?_; refine GO.eqi rfl rfl rfl ?_; refine GO.nil ?_; refine kthen_n ?_)
        refine G.condD rfl (fun h5 => ?_) (fun h5 => ?_)
        · have hn : rowTo X m (64 * (j + 1)) = rowTo X m (64 * j) := rowTo_none X fun c hc => by
            have := hok.non (m / 64) j hi hj2 (by omega) (m % 64) c (Nat.mod_lt _ (by decide)) hc
            rw [blk_part] at this
            exact this
          (refine G.exit ?_; refine kthen_x ?_; refine kblock_x ?_; refine kthen_n ?_)
          rw [hn]
          refine ⟨?_, ?_⟩
          · (refine SubE.c rfl rfl ?_; refine SubE.c rfl rfl ?_; refine SubE.c rfl rfl ?_; refine SubE.c rfl rfl ?_; exact SubE.n)
          · refine ImpS.exs v (ImpS.flat (ImpS.sb ?_))
            ((refine Sb.c (Tk.t (Tk.t (Tk.t Tk.h))) ?_; refine Sb.c (Tk.t (Tk.t (Tk.t Tk.h))) ?_; refine Sb.c (Tk.t (Tk.t Tk.h)) ?_; refine Sb.c Tk.h ?_; refine Sb.c Tk.h ?_; refine Sb.c Tk.h ?_; refine Sb.c Tk.h ?_); (exact Sb.r))
        · obtain ⟨q0, hq0⟩ : ∃ q0, fnd P (m / 64) j (D - 1) 0 = q0 + 1 := ⟨fnd P (m / 64) j (D - 1) 0 - 1, by omega⟩
          rw [hq0]
          obtain ⟨hl1, _⟩ := hok.lea (m / 64) j q0 hi hj2 hq0
          have hql := hok.lt hi hj2 hq0
          have hm64 : m % 64 < 64 := Nat.mod_lt _ (by decide)
          have hw1 := hl1 _ hm64
          refine G.ownForm (el := 77) (n' := nl) (by omega) (Tk.t (Tk.t (Tk.t (Tk.t (Tk.t Tk.h))))) fun bl capl e1 _ _ _ => ?_
          subst e1
          (refine G.skip ?_; refine kthen_n ?_; refine G.seq ?_; refine G.region ?_; refine GO.move rfl rfl ?_; refine GO.nilCheck rfl rfl ?_; refine GO.fieldAddr rfl rfl ?_; refine GO.load1 rfl rfl rfl Tk.h rfl ?_; refine GO.move rfl rfl ?_; refine GO.subi rfl rfl rfl (by omega) ?_)
          refine GO.chg (i64 (q0 : Nat)) (by congr 1; omega) ?_
          (refine GO.idxS rfl rfl rfl ⟨rfl, by omega⟩ ?_; refine GO.loadLeaf rfl rfl rfl rfl (by assumption) (Tk.t (Tk.t (Tk.t (Tk.t (Tk.t Tk.h))))) ?_; refine GO.move rfl rfl ?_; refine GO.remi rfl rfl rfl (by omega) ?_)
          refine GO.call2 rfl rfl rfl (row_spec (B q0) ((m % 64 : Nat) : Int)) Tks.n ?_
          rintro _ _ ⟨rfl, rfl⟩
          rw [rowOf_t (B q0) hm64, hw1]
          generalize hw : blkAt X (m / 64) j (m % 64) = w
          (refine GO.move rfl rfl ?_; refine GO.extract rfl rfl rfl ?_; refine GO.extract rfl rfl rfl ?_; refine GO.assign rfl rfl ?_; refine GO.assign rfl rfl ?_; refine GO.nil ?_; refine kthen_n ?_; refine G.seq ?_; refine G.region ?_; refine GO.move rfl rfl ?_)
          refine GO.buildPart1 (built_row w) rfl rfl ?_
          rw [one_row]
          refine GO.call1 rfl rfl (bcells_spec (updB zeroB 0 w)) Tks.n ?_
          rintro _ _ ⟨bI, rfl, rfl⟩
          (refine GO.nil ?_; refine kthen_n ?_; refine G.block ?_)
          rw [← rowK_nil X m j w]
          refine G.impS (H' := (exs fun v => star [pt b6 (row [v] 29), own 3 1 (rowK X m j w 0).length v (natsV (rowK X m j w 0))]) :: pt b7 (row [i64 j] 3) :: q :: pt bI (row (cells (updB zeroB 0 w)) 77) :: matP b side D cn (.slice (some ⟨bp, 0, none⟩) np cap) (.slice (some ⟨bl, 0, none⟩) nl capl) :: parP np (.slice (some ⟨bp, 0, none⟩) np cap) P :: leaP nl (.slice (some ⟨bl, 0, none⟩) nl capl) B :: F) (ImpS.exs v (ImpS.flat (ImpS.sb (by ((refine Sb.c (Tk.t (Tk.t (Tk.t (Tk.t Tk.h)))) ?_; refine Sb.c (Tk.t (Tk.t (Tk.t (Tk.t Tk.h)))) ?_; refine Sb.c (Tk.t (Tk.t (Tk.t Tk.h))) ?_; refine Sb.c (Tk.t (Tk.t (Tk.t (Tk.t Tk.h)))) ?_; refine Sb.c Tk.h ?_; refine Sb.c Tk.h ?_; refine Sb.c Tk.h ?_; refine Sb.c Tk.h ?_); (exact Sb.r)))))) ?_
          refine G.rangeF (F := matP b side D cn (.slice (some ⟨bp, 0, none⟩) np cap) (.slice (some ⟨bl, 0, none⟩) nl capl) :: parP np (.slice (some ⟨bp, 0, none⟩) np cap) P :: leaP nl (.slice (some ⟨bl, 0, none⟩) nl capl) B :: F) (psl := [54]) (v := .func (.func 69) #[] #[.pointer (some ⟨bI, 0, none⟩)]) (xs := (cellsL (updB zeroB 0 w)).map fun p => [cellV p]) (Sh := [q]) (Gm := [pt bI (row (cells (updB zeroB 0 w)) 77)])
            (fun k => [exs fun v => star [pt b6 (row [v] 29), own 3 1 (rowK X m j w k).length v (natsV (rowK X m j w k))], pt b7 (row [i64 j] 3)])
            (fun _ _ => [pur False])
            (fun _ h => by cases h) rfl (fun u hu => by obtain ⟨p, _, rfl⟩ := List.mem_map.1 hu; rfl) rfl (cells_seq q hq (updB zeroB 0 w) bI) ?_ (fun lp Lr Lb w1 F1 k u hu => ?_) ?_ ?_
          · (exact Tks.n)
          · obtain ⟨p, hp, rfl⟩ : ∃ p, (rowL 0 w)[k]? = some p ∧ u = [cellV p] := by
              rw [cellsL_one, List.getElem?_map] at hu
              cases hc : (rowL 0 w)[k]? with
              | none => simp [hc] at hu
              | some p => simp [hc] at hu; exact ⟨p, rfl, hu.symm⟩
            have hp2 : ¬ 64 ≤ p.2 := by
              have := List.mem_of_getElem? hp
              unfold rowL at this
              obtain ⟨c, hc, rfl⟩ := List.mem_map.1 this
              have := List.mem_range.1 (List.mem_filter.1 hc).1
              show ¬ 64 ≤ c
              omega
            have hlk := rowK_len X m j w k
            have hsuc := rowK_succ X m j hp
            change G _ _ _ _ ((54, cellV p) :: _) ((exs fun v => star [pt b6 (row [v] 29), own 3 1 (rowK X m j w k).length v (natsV (rowK X m j w k))]) :: pt b7 (row [i64 j] 3) :: q :: F1)
            refine G.exs fun v3 => G.flat ?_
            (refine G.region ?_; refine GO.alloc rfl fun b11 => ?_; refine GO.storeW rfl rfl Tk.h ⟨rfl, rfl⟩ (by simp [Value.oneCell']) ?_; refine GO.nil ?_)
            refine kA_n ?_
            (refine G.block ?_; refine G.region ?_; refine GO.load1 rfl rfl rfl (Tk.t Tk.h) rfl ?_; refine GO.load1 rfl rfl rfl (Tk.t (Tk.t (Tk.t Tk.h))) rfl ?_; refine GO.muli rfl rfl rfl (by omega) ?_; refine GO.fieldAddr rfl rfl ?_; refine GO.load1 rfl rfl rfl Tk.h rfl ?_; refine GO.addi rfl rfl rfl (by omega) ?_)
            refine GO.buildSlice1 rfl rfl (by simp; rfl) rfl ⟨by omega, by omega⟩ fun b61 => ?_
            refine GO.appendOwn (m := 1) (news := [i64 ((j : Int) * 64 + (p.2 : Nat))]) rfl rfl rfl (Tk.t (Tk.t (Tk.t Tk.h))) Tk.h rfl (by simp [Value.oneCell']) ⟨by decide, rfl⟩ Nat.one_pos (by unfold maxLen; omega) (by omega) fun v4 => ?_
            rw [show ((j : Int) * 64 + (p.2 : Nat)) = ((64 * j + p.2 : Nat) : Int) by omega, natsV_one, ← hsuc, show (rowK X m j w k).length + 1 = (rowK X m j w (k + 1)).length by rw [hsuc, List.length_append]; rfl]
            refine GO.ownOne Tk.h fun hone => ?_
            (refine GO.store1 rfl rfl (by assumption) (Tk.t (Tk.t (Tk.t Tk.h))) (by simp) ?_; refine GO.nil ?_; refine kblock_n ?_)
            refine kB_n (ImpS.exs v4 (ImpS.flat (ImpS.sb ?_)))
            ((refine Sb.c Tk.h ?_; refine Sb.c Tk.h ?_; refine Sb.c (Tk.t (Tk.t Tk.h)) ?_; refine Sb.c (Tk.t (Tk.t Tk.h)) ?_); (refine Sb.s ?_; refine Sb.s ?_; exact Sb.r))
          · rw [List.length_map, cellsL_one, rowK_end X m j hw]
            (refine kblock_n ?_; refine kblock_n ?_; refine kthen_n ?_)
            refine ⟨?_, ImpS.sb ?_⟩
            · (refine SubE.c rfl rfl ?_; refine SubE.c rfl rfl ?_; refine SubE.c rfl rfl ?_; refine SubE.c rfl rfl ?_; exact SubE.n)
            · simp only [List.cons_append, List.nil_append]
              ((refine Sb.c Tk.h ?_; refine Sb.c Tk.h ?_; refine Sb.c (Tk.t (Tk.t Tk.h)) ?_; refine Sb.c (Tk.t (Tk.t Tk.h)) ?_; refine Sb.c (Tk.t (Tk.t Tk.h)) ?_; refine Sb.c Tk.h ?_); (refine Sb.s ?_; exact Sb.r))
          · intro k jc hk
            exact G.pur fun h => h.elim
      · refine G.exs fun v2 => G.flat ?_
        (refine G.seq ?_; refine G.seq ?_; refine G.region ?_; refine GO.load1 rfl rfl rfl (Tk.t (Tk.t Tk.h)) rfl ?_; refine GO.nil ?_; refine kthen_n ?_; refine G.region ?_; refine GO.alloc rfl fun b7 => ?_; refine GO.store1 rfl rfl rfl Tk.h (by decide) ?_; refine GO.nil ?_; refine kthen_n ?_; refine G.region ?_; refine GO.load1 rfl rfl rfl Tk.h rfl ?_; refine GO.addi rfl rfl rfl (by omega) ?_; refine GO.store1 rfl rfl rfl Tk.h (by simp) ?_; refine GO.nil ?_; refine kthen_n ?_)
        refine ⟨j + 1, b7, v2, by omega, by omega, ?_, ?_⟩
        · (refine SubE.c rfl rfl ?_; refine SubE.c rfl rfl ?_; refine SubE.c rfl rfl ?_; refine SubE.c rfl rfl ?_; exact SubE.n)
        · ((refine Sb.c Tk.h ?_; refine Sb.c Tk.h ?_; refine Sb.c Tk.h ?_; refine Sb.c (Tk.t Tk.h) ?_; refine Sb.c (Tk.t Tk.h) ?_; refine Sb.c (Tk.t Tk.h) ?_; refine Sb.c (Tk.t Tk.h) ?_); (refine Sb.s ?_; exact Sb.r))
    · rw [rowTo_end hin (by omega) (by omega)]
      (refine G.exit ?_; refine kthen_x ?_; refine kthen_x ?_; refine kblock_x ?_; refine kthen_n ?_; refine G.seq ?_; refine G.region ?_; refine GO.load1 rfl rfl rfl (Tk.t Tk.h) rfl ?_; refine GO.assign rfl rfl ?_; refine GO.assign rfl rfl ?_; refine GO.nil ?_; refine kthen_n ?_; refine G.ret ?_)
      refine KF2.r2 rfl (RV.t rfl) (RV.t rfl) (.inl ⟨m, rfl, hms, v, rfl, rfl⟩) ?_
      exact ImpS.cons (Tk.t (Tk.t Tk.h)) (ImpS.mat ⟨D, np, nl, P, B, cn, .slice (some ⟨bp, 0, none⟩) np cap, vl⟩ hg (ImpS.sb (by ((refine Sb.c (Tk.t (Tk.t Tk.h)) ?_; refine Sb.c (Tk.t (Tk.t Tk.h)) ?_; refine Sb.c (Tk.t (Tk.t Tk.h)) ?_; refine Sb.c (Tk.t (Tk.t Tk.h)) ?_); (refine Sb.s ?_; refine Sb.s ?_; exact Sb.r)))))
end Go.Proofs.YtfoahdfflchidaaDoor
namespace Go.Proofs.YtfoahdfflchidaaDoor
open Go
abbrev Cl := Int × Int
def ltC (p q : Cl) : Bool := decide (p.1 < q.1) || (decide (p.1 = q.1) && decide (p.2 < q.2))
def mrg : List Cl → List Cl → List Cl
  | [], ys => ys
  | xs, [] => xs
  | a :: xs, b :: ys => if ltC a b then a :: mrg xs (b :: ys) else if a = b then b :: mrg xs ys else b :: mrg (a :: xs) ys
termination_by xs ys => xs.length + ys.length
/-- Has the second one a cell that the first has not? -/
def mrgM : List Cl → List Cl → Bool
  | [], ys => !ys.isEmpty
  | _, [] => false
  | a :: xs, b :: ys => if ltC a b then mrgM xs (b :: ys) else if a = b then mrgM xs ys else true
termination_by xs ys => xs.length + ys.length
theorem mrg_nil (xs : List Cl) : mrg xs [] = xs := by cases xs <;> simp [mrg]
theorem mrg_nil' (ys : List Cl) : mrg [] ys = ys := by simp [mrg]
theorem mrgM_nil (xs : List Cl) : mrgM xs [] = false := by cases xs <;> simp [mrgM]
theorem mrgM_nil' (b : Cl) (ys : List Cl) : mrgM [] (b :: ys) = true := by simp [mrgM]
theorem mrg_lt {a b : Cl} {xs ys : List Cl} (h : ltC a b = true) : mrg (a :: xs) (b :: ys) = a :: mrg xs (b :: ys) := by rw [mrg, if_pos h]
theorem mrg_eq {a b : Cl} {xs ys : List Cl} (h : ltC a b = false) (e : a = b) : mrg (a :: xs) (b :: ys) = b :: mrg xs ys := by rw [mrg, if_neg (by simp [h]), if_pos e]
theorem mrg_gt {a b : Cl} {xs ys : List Cl} (h : ltC a b = false) (e : a ≠ b) : mrg (a :: xs) (b :: ys) = b :: mrg (a :: xs) ys := by rw [mrg, if_neg (by simp [h]), if_neg e]
theorem mrgM_lt {a b : Cl} {xs ys : List Cl} (h : ltC a b = true) : mrgM (a :: xs) (b :: ys) = mrgM xs (b :: ys) := by rw [mrgM, if_pos h]
theorem mrgM_eq {a b : Cl} {xs ys : List Cl} (h : ltC a b = false) (e : a = b) : mrgM (a :: xs) (b :: ys) = mrgM xs ys := by rw [mrgM, if_neg (by simp [h]), if_pos e]
theorem mrgM_gt {a b : Cl} {xs ys : List Cl} (h : ltC a b = false) (e : a ≠ b) : mrgM (a :: xs) (b :: ys) = true := by rw [mrgM, if_neg (by simp [h]), if_neg e]
theorem drop_at {α : Type} {l : List α} {k : Nat} {x : α} (h : l[k]? = some x) : l.drop k = x :: l.drop (k + 1) := by
  obtain ⟨hk, rfl⟩ := List.getElem?_eq_some_iff.1 h
  exact List.drop_eq_getElem_cons hk
theorem cellsV_snoc (l : List Cl) (p : Cl) : cellsV l ++ [i64 p.1, i64 p.2] = cellsV (l ++ [p]) := by simp [cellsV]
attribute [local irreducible] G GO GR GT GQ Fn FnV pt init exs pur sat own ImpS
theorem before_spec (p r : Cl) : Fn Tryd.prog 79 #[.agg #[i64 p.1, i64 p.2], .agg #[i64 r.1, i64 r.2]] [] (fun v Q => v = .bool (ltC p r) ∧ Q = []) := by
  obtain ⟨a, b⟩ := p
  obtain ⟨c, d⟩ := r
  refine Fn.mk2 Tryd.func79 rfl rfl fun w0 F => ?_
  unfold ltC
  dsimp only
  cases h1 : decide (a < c) with
  | true =>
    (refine G.seq ?_; refine G.region ?_; refine GO.box rfl rfl rfl fun b2 => ?_; refine GO.box rfl rfl rfl fun b3 => ?_; refine GO.assign rfl rfl ?_; refine GO.nil ?_; refine kthen_n ?_; refine G.seq ?_; refine G.region ?_; refine GO.fieldAddr rfl rfl ?_; refine GO.load1 rfl rfl rfl (Tk.t Tk.h) rfl ?_; refine GO.fieldAddr rfl rfl ?_; refine GO.load1 rfl rfl rfl Tk.h rfl ?_; refine GO.lti rfl rfl rfl ?_; refine GO.move rfl rfl ?_; refine GO.gF rfl rfl rfl (by assumption) ?_; refine GO.gF rfl rfl rfl (by assumption) ?_; refine GO.gF rfl rfl rfl (by assumption) ?_; refine GO.gF rfl rfl rfl (by assumption) ?_; refine GO.gF rfl rfl rfl (by assumption) ?_; refine GO.gF rfl rfl rfl (by assumption) ?_; refine GO.gU rfl rfl rfl ?_; refine GO.gU rfl rfl rfl ?_; refine GO.gU rfl rfl rfl ?_; refine GO.gU rfl rfl rfl ?_; refine GO.gU rfl rfl rfl ?_; refine GO.gF rfl rfl rfl (by assumption) ?_; refine GO.pickTa rfl rfl (by assumption) rfl ?_; refine GO.assign rfl rfl ?_; refine GO.nil ?_; refine kthen_n ?_; refine G.ret ?_)
    refine KF2.r1 rfl (RV.t rfl) ⟨by rw [Bool.true_or], rfl⟩ (ImpS.sb ?_)
    (skip; (refine Sb.s ?_; refine Sb.s ?_; exact Sb.r))
  | false =>
    cases h2 : decide (a = c) with
    | true =>
      (refine G.seq ?_; refine G.region ?_; refine GO.box rfl rfl rfl fun b2 => ?_; refine GO.box rfl rfl rfl fun b3 => ?_; refine GO.assign rfl rfl ?_; refine GO.nil ?_; refine kthen_n ?_; refine G.seq ?_; refine G.region ?_; refine GO.fieldAddr rfl rfl ?_; refine GO.load1 rfl rfl rfl (Tk.t Tk.h) rfl ?_; refine GO.fieldAddr rfl rfl ?_; refine GO.load1 rfl rfl rfl Tk.h rfl ?_; refine GO.lti rfl rfl rfl ?_; refine GO.move rfl rfl ?_; refine GO.gT rfl rfl (by assumption) ?_; refine GO.fieldAddr rfl rfl ?_; refine GO.gT rfl rfl (by assumption) ?_; refine GO.load1 rfl rfl rfl (Tk.t Tk.h) rfl ?_; refine GO.gT rfl rfl (by assumption) ?_; refine GO.fieldAddr rfl rfl ?_; refine GO.gT rfl rfl (by assumption) ?_; refine GO.load1 rfl rfl rfl Tk.h rfl ?_; refine GO.gT rfl rfl (by assumption) ?_; refine GO.eqi rfl rfl rfl ?_; refine GO.gT rfl rfl (by assumption) ?_; refine GO.move rfl rfl ?_; refine GO.gT rfl rfl (by assumption) ?_; refine GO.fieldAddr rfl rfl ?_; refine GO.gT rfl rfl (by assumption) ?_; refine GO.load1 rfl rfl rfl (Tk.t Tk.h) rfl ?_; refine GO.gT rfl rfl (by assumption) ?_; refine GO.fieldAddr rfl rfl ?_; refine GO.gT rfl rfl (by assumption) ?_; refine GO.load1 rfl rfl rfl Tk.h rfl ?_; refine GO.gT rfl rfl (by assumption) ?_; refine GO.lti rfl rfl rfl ?_; refine GO.gT rfl rfl (by assumption) ?_; refine GO.pickTa rfl rfl (by assumption) rfl ?_; refine GO.pickFa rfl rfl (by assumption) rfl ?_; refine GO.assign rfl rfl ?_; refine GO.nil ?_; refine kthen_n ?_; refine G.ret ?_)
      refine KF2.r1 rfl (RV.t rfl) ⟨by rw [Bool.false_or, Bool.true_and], rfl⟩ (ImpS.sb ?_)
      (skip; (refine Sb.s ?_; refine Sb.s ?_; exact Sb.r))
    | false =>
      (refine G.seq ?_; refine G.region ?_; refine GO.box rfl rfl rfl fun b2 => ?_; refine GO.box rfl rfl rfl fun b3 => ?_; refine GO.assign rfl rfl ?_; refine GO.nil ?_; refine kthen_n ?_; refine G.seq ?_; refine G.region ?_; refine GO.fieldAddr rfl rfl ?_; refine GO.load1 rfl rfl rfl (Tk.t Tk.h) rfl ?_; refine GO.fieldAddr rfl rfl ?_; refine GO.load1 rfl rfl rfl Tk.h rfl ?_; refine GO.lti rfl rfl rfl ?_; refine GO.move rfl rfl ?_; refine GO.gT rfl rfl (by assumption) ?_; refine GO.fieldAddr rfl rfl ?_; refine GO.gT rfl rfl (by assumption) ?_; refine GO.load1 rfl rfl rfl (Tk.t Tk.h) rfl ?_; refine GO.gT rfl rfl (by assumption) ?_; refine GO.fieldAddr rfl rfl ?_; refine GO.gT rfl rfl (by assumption) ?_; refine GO.load1 rfl rfl rfl Tk.h rfl ?_; refine GO.gT rfl rfl (by assumption) ?_; refine GO.eqi rfl rfl rfl ?_; refine GO.gT rfl rfl (by assumption) ?_; refine GO.move rfl rfl ?_; refine GO.gF rfl rfl rfl (by assumption) ?_; refine GO.gF rfl rfl rfl (by assumption) ?_; refine GO.gF rfl rfl rfl (by assumption) ?_; refine GO.gF rfl rfl rfl (by assumption) ?_; refine GO.gF rfl rfl rfl (by assumption) ?_; refine GO.gT rfl rfl (by assumption) ?_; refine GO.pickFa rfl rfl (by assumption) rfl ?_; refine GO.pickFa rfl rfl (by assumption) rfl ?_; refine GO.assign rfl rfl ?_; refine GO.nil ?_; refine kthen_n ?_; refine G.ret ?_)
      refine KF2.r1 rfl (RV.t rfl) ⟨by rw [Bool.false_or, Bool.false_and], rfl⟩ (ImpS.sb ?_)
      (skip; (refine Sb.s ?_; refine Sb.s ?_; exact Sb.r))
end Go.Proofs.YtfoahdfflchidaaDoor
namespace Go.Proofs.YtfoahdfflchidaaDoor
open Go
theorem EqR.celC {d : Nat} (p r : Cl) : EqR Tryd.prog (d + 2) 34 (.agg #[i64 p.1, i64 p.2]) (.agg #[i64 r.1, i64 r.2]) (decide (p = r)) := by
  have h := EqR.cell (d := d) (a := p.1) (b := p.2) (a' := r.1) (b' := r.2)
  rwa [show (decide (p.1 = r.1) && decide (p.2 = r.2)) = decide (p = r) by rw [Bool.eq_iff_iff, Bool.and_eq_true, decide_eq_true_iff, decide_eq_true_iff, decide_eq_true_iff]; exact ⟨fun h => Prod.ext h.1 h.2, fun h => by rw [h]; exact ⟨rfl, rfl⟩⟩] at h
attribute [local irreducible] G GO GR GT GQ Fn FnV pt init exs pur sat own ImpS cellsV
set_option maxHeartbeats 8000000 in
theorem merge_spec (R : HP) (va vb : Value) (la lb : List Cl) (ha : SlR R va la.length 2 (cellsV la)) (hb : SlR R vb lb.length 2 (cellsV lb)) (hn : (la.length + lb.length) * 16 ≤ 140737488355328) :
    Fn Tryd.prog 78 #[va, vb] [R] (fun r Q => ∃ v, r = .tuple #[v, .bool (mrgM la lb)] ∧ Q = [own 34 2 (mrg la lb).length v (cellsV (mrg la lb)), R]) := by
  obtain ⟨aa, ca, rfl, _, hra⟩ := ha
  obtain ⟨ab, cb, rfl, _, hrb⟩ := hb
  refine Fn.mk2 Tryd.func78 rfl rfl fun w0 F => ?_
  refine G.ownNil (T := 34) (sz := 2) ?_
  (refine G.seq ?_; refine G.region ?_; refine GO.assign rfl rfl ?_; refine GO.assign rfl rfl ?_; refine GO.nil ?_; refine kthen_n ?_; refine G.seq ?_; refine G.region ?_; refine GO.assign rfl rfl ?_; refine GO.nil ?_; refine kthen_n ?_; refine G.seq ?_; refine G.region ?_; refine GO.assign rfl rfl ?_; refine GO.nil ?_; refine kthen_n ?_; refine G.seq ?_; refine G.region ?_; refine GO.assign rfl rfl ?_; refine GO.assign rfl rfl ?_; refine GO.nil ?_; refine kthen_n ?_; refine G.seq ?_; refine G.block ?_)
  refine G.loop (fun st : Nat × Nat × Value × List Cl × Bool => [(0, .slice aa la.length ca), (1, .slice ab lb.length cb), (6, st.2.2.1), (7, .bool st.2.2.2.2), (8, i64 (st.1 : Nat)), (9, i64 (st.2.1 : Nat))])
    (fun st => own 34 2 st.2.2.2.1.length st.2.2.1 (cellsV st.2.2.2.1) :: R :: F)
    (fun st => st.1 ≤ la.length ∧ st.2.1 ≤ lb.length ∧ st.2.2.2.1 ++ mrg (la.drop st.1) (lb.drop st.2.1) = mrg la lb ∧ (st.2.2.2.2 || mrgM (la.drop st.1) (lb.drop st.2.1)) = mrgM la lb ∧ st.2.2.2.1.length ≤ st.1 + st.2.1)
    (fun st => (la.length - st.1) + (lb.length - st.2.1)) (0, 0, .slice none 0 0, [], false) ⟨Nat.zero_le _, Nat.zero_le _, rfl, rfl, Nat.le_refl _⟩ ?_ ?_ ?_
  · (refine SubE.c rfl rfl ?_; refine SubE.c rfl rfl ?_; refine SubE.c rfl rfl ?_; refine SubE.c rfl rfl ?_; refine SubE.c rfl rfl ?_; refine SubE.c rfl rfl ?_; exact SubE.n)
  · rw [show cellsV [] = [] by unfold cellsV; rfl]
    ((refine Sb.c Tk.h ?_; refine Sb.c Tk.h ?_); (exact Sb.r))
  rintro ⟨i, j, v, out, more⟩ ⟨hi, hj, hout, hmore, hlen⟩
  dsimp only at hi hj hout hmore hlen ⊢
  cases hx : la[i]? with
  | none =>
    have hil : i = la.length := by have := List.getElem?_eq_none_iff.1 hx; omega
    have hda : la.drop i = [] := List.drop_eq_nil_iff.2 (by omega)
    rw [hda] at hout hmore
    have d1 : decide ((i : Int) < (la.length : Int)) = false := decide_eq_false (by omega)
    cases hy : lb[j]? with
    | none =>
      have hjl : j = lb.length := by have := List.getElem?_eq_none_iff.1 hy; omega
      have hdb : lb.drop j = [] := List.drop_eq_nil_iff.2 (by omega)
      rw [hdb, mrg_nil, List.append_nil] at hout
      rw [hdb, mrgM_nil, Bool.or_false] at hmore
      have d2 : decide ((j : Int) < (lb.length : Int)) = false := decide_eq_false (by omega)
      (refine G.seq ?_; refine G.seq ?_; refine G.region ?_; refine GO.move rfl rfl ?_; refine GO.move rfl rfl ?_; refine GO.lenS rfl rfl ?_; refine GO.lti rfl rfl rfl ?_; refine GO.move rfl rfl ?_; refine GO.gT rfl rfl (by assumption) ?_; refine GO.move rfl rfl ?_; refine GO.gT rfl rfl (by assumption) ?_; refine GO.move rfl rfl ?_; refine GO.gT rfl rfl (by assumption) ?_; refine GO.lenS rfl rfl ?_; refine GO.gT rfl rfl (by assumption) ?_; refine GO.lti rfl rfl rfl ?_; refine GO.pickFa rfl rfl (by assumption) rfl ?_; refine GO.nil ?_; refine kthen_n ?_; refine G.condF rfl (by assumption) ?_; refine G.exit ?_; refine kthen_x ?_; refine kthen_x ?_; refine kblock_x ?_; refine kthen_n ?_; refine G.seq ?_; refine G.region ?_; refine GO.move rfl rfl ?_; refine GO.move rfl rfl ?_; refine GO.assign rfl rfl ?_; refine GO.assign rfl rfl ?_; refine GO.nil ?_; refine kthen_n ?_; refine G.ret ?_)
      refine KF2.r2 rfl (RV.t rfl) (RV.t rfl) ⟨v, by rw [hmore], rfl⟩ (ImpS.sb ?_)
      rw [← hout]
      ((refine Sb.c Tk.h ?_; refine Sb.c Tk.h ?_); (exact Sb.r))
    | some y =>
      have hjl := (List.getElem?_eq_some_iff.1 hy).1
      rw [drop_at hy] at hout hmore
      rw [mrg_nil'] at hout
      rw [mrgM_nil', Bool.or_true] at hmore
      have d2 : decide ((j : Int) < (lb.length : Int)) = true := decide_eq_true (by omega)
      have d3 : decide ((j : Int) = (lb.length : Int)) = false := decide_eq_false (by omega)
      obtain ⟨bb, ob, rfl, hr⟩ := hrb (by omega)
      have r1 : Rd R ⟨bb, ob + j * 2, none⟩ (i64 y.1) := hr _ _ (cellsV_get hy).1
      have r2 : Rd R ⟨bb, ob + j * 2 + 1, none⟩ (i64 y.2) := hr _ _ (cellsV_get hy).2
      (refine G.seq ?_; refine G.seq ?_; refine G.region ?_; refine GO.move rfl rfl ?_; refine GO.move rfl rfl ?_; refine GO.lenS rfl rfl ?_; refine GO.lti rfl rfl rfl ?_; refine GO.move rfl rfl ?_; refine GO.gT rfl rfl (by assumption) ?_; refine GO.move rfl rfl ?_; refine GO.gT rfl rfl (by assumption) ?_; refine GO.move rfl rfl ?_; refine GO.gT rfl rfl (by assumption) ?_; refine GO.lenS rfl rfl ?_; refine GO.gT rfl rfl (by assumption) ?_; refine GO.lti rfl rfl rfl ?_; refine GO.pickFa rfl rfl (by assumption) rfl ?_; refine GO.nil ?_; refine kthen_n ?_; refine G.condT rfl (by assumption) ?_; refine G.skip ?_; refine kthen_n ?_; refine G.block ?_; refine G.seq ?_; refine G.seq ?_)
      refine G.draw 21 (by kernel_rfl) ?_
      ((apply GQ.step; focus (intro Z; refine GO.move rfl rfl ?_; exact KQ.z)); (apply GQ.step; focus (intro Z; refine GO.move rfl rfl ?_; exact KQ.z)); (apply GQ.step; focus (intro Z; refine GO.lenS rfl rfl ?_; exact KQ.z)); (apply GQ.step; focus (intro Z; refine GO.eqi rfl rfl rfl ?_; exact KQ.z)); (apply GQ.step; focus (intro Z; refine GO.move rfl rfl ?_; exact KQ.z)); (apply GQ.step; focus (intro Z; refine GO.gT rfl rfl (by assumption) ?_; refine GO.move rfl rfl ?_; exact KQ.z)); (apply GQ.step; focus (intro Z; refine GO.gT rfl rfl (by assumption) ?_; refine GO.move rfl rfl ?_; exact KQ.z)); (apply GQ.step; focus (intro Z; refine GO.gT rfl rfl (by assumption) ?_; refine GO.lenS rfl rfl ?_; exact KQ.z)); (apply GQ.step; focus (intro Z; refine GO.gT rfl rfl (by assumption) ?_; refine GO.lti rfl rfl rfl ?_; exact KQ.z)); (apply GQ.step; focus (intro Z; refine GO.gT rfl rfl (by assumption) ?_; refine GO.move rfl rfl ?_; exact KQ.z)); (apply GQ.step; focus (intro Z; refine GO.gF rfl rfl rfl (by assumption) ?_; exact KQ.z)); (apply GQ.step; focus (intro Z; refine GO.gF rfl rfl rfl (by assumption) ?_; exact KQ.z)); (apply GQ.step; focus (intro Z; refine GO.gF rfl rfl rfl (by assumption) ?_; exact KQ.z)); (apply GQ.step; focus (intro Z; refine GO.gF rfl rfl rfl (by assumption) ?_; exact KQ.z)); (apply GQ.step; focus (intro Z; refine GO.gF rfl rfl rfl (by assumption) ?_; exact KQ.z)); (apply GQ.step; focus (intro Z; refine GO.gF rfl rfl rfl (by assumption) ?_; exact KQ.z)); (apply GQ.step; focus (intro Z; refine GO.gF rfl rfl rfl (by assumption) ?_; exact KQ.z)); (apply GQ.step; focus (intro Z; refine GO.gF rfl rfl rfl (by assumption) ?_; exact KQ.z)); (apply GQ.step; focus (intro Z; refine GO.gF rfl rfl rfl (by assumption) ?_; exact KQ.z)); (apply GQ.step; focus (intro Z; refine GO.gT rfl rfl (by assumption) ?_; refine GO.pickFa rfl rfl (by assumption) rfl ?_; exact KQ.z)); (apply GQ.step; focus (intro Z; refine GO.pickFa rfl rfl (by assumption) rfl ?_; exact KQ.z)); refine GQ.nil ?_)
      (refine GO.nil ?_; refine kthen_n ?_; refine G.condF rfl rfl ?_; refine G.skip ?_; refine kthen_n ?_; refine G.seq ?_; refine G.seq ?_)
      refine G.draw 15 (by kernel_rfl) ?_
      ((apply GQ.step; focus (intro Z; refine GO.move rfl rfl ?_; exact KQ.z)); (apply GQ.step; focus (intro Z; refine GO.move rfl rfl ?_; exact KQ.z)); (apply GQ.step; focus (intro Z; refine GO.lenS rfl rfl ?_; exact KQ.z)); (apply GQ.step; focus (intro Z; refine GO.lti rfl rfl rfl ?_; exact KQ.z)); (apply GQ.step; focus (intro Z; refine GO.move rfl rfl ?_; exact KQ.z)); (apply GQ.step; focus (intro Z; refine GO.gF rfl rfl rfl (by assumption) ?_; exact KQ.z)); (apply GQ.step; focus (intro Z; refine GO.gF rfl rfl rfl (by assumption) ?_; exact KQ.z)); (apply GQ.step; focus (intro Z; refine GO.gF rfl rfl rfl (by assumption) ?_; exact KQ.z)); (apply GQ.step; focus (intro Z; refine GO.gF rfl rfl rfl (by assumption) ?_; exact KQ.z)); (apply GQ.step; focus (intro Z; refine GO.gF rfl rfl rfl (by assumption) ?_; exact KQ.z)); (apply GQ.step; focus (intro Z; refine GO.gF rfl rfl rfl (by assumption) ?_; exact KQ.z)); (apply GQ.step; focus (intro Z; refine GO.gF rfl rfl rfl (by assumption) ?_; exact KQ.z)); (apply GQ.step; focus (intro Z; refine GO.gF rfl rfl rfl (by assumption) ?_; exact KQ.z)); (apply GQ.step; focus (intro Z; refine GO.gF rfl rfl rfl (by assumption) ?_; exact KQ.z)); (apply GQ.step; focus (intro Z; refine GO.pickFa rfl rfl (by assumption) rfl ?_; exact KQ.z)); refine GQ.nil ?_)
      (refine GO.nil ?_; refine kthen_n ?_; refine G.condF rfl rfl ?_; refine G.region ?_; refine GO.assign rfl rfl ?_; refine GO.nil ?_; refine kthen_n ?_; refine G.seq ?_; refine G.region ?_; refine GO.move rfl rfl ?_; refine GO.move rfl rfl ?_; refine GO.move rfl rfl ?_; refine GO.idxS rfl rfl rfl ⟨rfl, by omega⟩ ?_; refine GO.load2 rfl rfl rfl (Tk.t Tk.h) (by assumption) (by assumption) ?_)
      refine GO.buildSlice1 rfl rfl (by simp; rfl) rfl ⟨by omega, by omega⟩ fun bs => ?_
      refine GO.appendOwn (m := 1) (news := [i64 y.1, i64 y.2]) rfl rfl rfl (Tk.t Tk.h) Tk.h rfl (by simp [Value.oneCell']) ⟨by decide, rfl⟩ Nat.one_pos (by unfold maxLen; omega) (by omega) fun v4 => ?_
      rw [cellsV_snoc, show out.length + 1 = (out ++ [y]).length by rw [List.length_append]; rfl]
      (refine GO.assign rfl rfl ?_; refine GO.nil ?_; refine kthen_n ?_; refine G.region ?_; refine GO.move rfl rfl ?_; refine GO.addi rfl rfl rfl (by omega) ?_; refine GO.assign rfl rfl ?_; refine GO.nil ?_; refine kblock_n ?_; refine kthen_n ?_)
      refine ⟨(i, j + 1, v4, out ++ [y], true), ⟨by dsimp only; omega, by dsimp only; omega, by dsimp only; rw [hda, mrg_nil', List.append_assoc]; exact hout, by dsimp only; rw [Bool.true_or]; exact hmore, by dsimp only; rw [List.length_append, List.length_singleton]; omega⟩, by dsimp only; omega, ?_, ?_⟩
      · (refine SubE.c rfl rfl ?_; refine SubE.c rfl rfl ?_; refine SubE.c rfl rfl ?_; refine SubE.c rfl rfl ?_; refine SubE.c rfl rfl ?_; refine SubE.c rfl rfl ?_; exact SubE.n)
      · ((refine Sb.c Tk.h ?_; refine Sb.c (Tk.t Tk.h) ?_); (refine Sb.s ?_; exact Sb.r))
  | some x =>
    have hil := (List.getElem?_eq_some_iff.1 hx).1
    have d1 : decide ((i : Int) < (la.length : Int)) = true := decide_eq_true (by omega)
    have hdx := drop_at hx
    rw [hdx] at hout hmore
    obtain ⟨ba, oa, rfl, hrx⟩ := hra (by omega)
    have r1 : Rd R ⟨ba, oa + i * 2, none⟩ (i64 x.1) := hrx _ _ (cellsV_get hx).1
    have r2 : Rd R ⟨ba, oa + i * 2 + 1, none⟩ (i64 x.2) := hrx _ _ (cellsV_get hx).2
    cases hy : lb[j]? with
    | none =>
      have hjl : j = lb.length := by have := List.getElem?_eq_none_iff.1 hy; omega
      have hdb : lb.drop j = [] := List.drop_eq_nil_iff.2 (by omega)
      rw [hdb, mrg_nil] at hout
      rw [hdb, mrgM_nil] at hmore
      have d3 : decide ((j : Int) = (lb.length : Int)) = true := decide_eq_true (by omega)
      (refine G.seq ?_; refine G.seq ?_; refine G.region ?_; refine GO.move rfl rfl ?_; refine GO.move rfl rfl ?_; refine GO.lenS rfl rfl ?_; refine GO.lti rfl rfl rfl ?_; refine GO.move rfl rfl ?_; refine GO.gF rfl rfl rfl (by assumption) ?_; refine GO.gF rfl rfl rfl (by assumption) ?_; refine GO.gF rfl rfl rfl (by assumption) ?_; refine GO.gF rfl rfl rfl (by assumption) ?_; refine GO.pickTa rfl rfl (by assumption) rfl ?_; refine GO.nil ?_; refine kthen_n ?_; refine G.condT rfl rfl ?_; refine G.skip ?_; refine kthen_n ?_; refine G.block ?_; refine G.seq ?_; refine G.seq ?_)
      refine G.draw 21 (by kernel_rfl) ?_
      ((apply GQ.step; focus (intro Z; refine GO.move rfl rfl ?_; exact KQ.z)); (apply GQ.step; focus (intro Z; refine GO.move rfl rfl ?_; exact KQ.z)); (apply GQ.step; focus (intro Z; refine GO.lenS rfl rfl ?_; exact KQ.z)); (apply GQ.step; focus (intro Z; refine GO.eqi rfl rfl rfl ?_; exact KQ.z)); (apply GQ.step; focus (intro Z; refine GO.move rfl rfl ?_; exact KQ.z)); (apply GQ.step; focus (intro Z; refine GO.gF rfl rfl rfl (by assumption) ?_; exact KQ.z)); (apply GQ.step; focus (intro Z; refine GO.gF rfl rfl rfl (by assumption) ?_; exact KQ.z)); (apply GQ.step; focus (intro Z; refine GO.gF rfl rfl rfl (by assumption) ?_; exact KQ.z)); (apply GQ.step; focus (intro Z; refine GO.gF rfl rfl rfl (by assumption) ?_; exact KQ.z)); (apply GQ.step; focus (intro Z; refine GO.gF rfl rfl rfl (by assumption) ?_; exact KQ.z)); (apply GQ.step; focus (intro Z; refine GO.gU rfl rfl rfl ?_; exact KQ.z)); (apply GQ.step; focus (intro Z; refine GO.gU rfl rfl rfl ?_; exact KQ.z)); (apply GQ.step; focus (intro Z; refine GO.gU rfl rfl rfl ?_; exact KQ.z)); (apply GQ.step; focus (intro Z; refine GO.gU rfl rfl rfl ?_; exact KQ.z)); (apply GQ.step; focus (intro Z; refine GO.gU rfl rfl rfl ?_; exact KQ.z)); (apply GQ.step; focus (intro Z; refine GO.gU rfl rfl rfl ?_; exact KQ.z)); (apply GQ.step; focus (intro Z; refine GO.gU rfl rfl rfl ?_; exact KQ.z)); (apply GQ.step; focus (intro Z; refine GO.gU rfl rfl rfl ?_; exact KQ.z)); (apply GQ.step; focus (intro Z; refine GO.gU rfl rfl rfl ?_; exact KQ.z)); (apply GQ.step; focus (intro Z; refine GO.gF rfl rfl rfl (by assumption) ?_; exact KQ.z)); (apply GQ.step; focus (intro Z; refine GO.pickTa rfl rfl (by assumption) rfl ?_; exact KQ.z)); refine GQ.nil ?_)
      (refine GO.nil ?_; refine kthen_n ?_; refine G.condT rfl rfl ?_; refine G.seq ?_; refine G.region ?_; refine GO.move rfl rfl ?_; refine GO.move rfl rfl ?_; refine GO.move rfl rfl ?_; refine GO.idxS rfl rfl rfl ⟨rfl, by omega⟩ ?_; refine GO.load2 rfl rfl rfl (Tk.t Tk.h) (by assumption) (by assumption) ?_)
      refine GO.buildSlice1 rfl rfl (by simp; rfl) rfl ⟨by omega, by omega⟩ fun bs => ?_
      refine GO.appendOwn (m := 1) (news := [i64 x.1, i64 x.2]) rfl rfl rfl (Tk.t Tk.h) Tk.h rfl (by simp [Value.oneCell']) ⟨by decide, rfl⟩ Nat.one_pos (by unfold maxLen; omega) (by omega) fun v4 => ?_
      rw [cellsV_snoc, show out.length + 1 = (out ++ [x]).length by rw [List.length_append]; rfl]
      (refine GO.assign rfl rfl ?_; refine GO.nil ?_; refine kthen_n ?_; refine G.seq ?_; refine G.region ?_; refine GO.move rfl rfl ?_; refine GO.addi rfl rfl rfl (by omega) ?_; refine GO.assign rfl rfl ?_; refine GO.nil ?_; refine kthen_n ?_; refine G.exit ?_; refine kthen_x ?_; refine kblock_x ?_; refine kthen_n ?_)
      refine ⟨(i + 1, j, v4, out ++ [x], more), ⟨by dsimp only; omega, by dsimp only; omega, by dsimp only; rw [hdb, mrg_nil, List.append_assoc]; exact hout, by dsimp only; rw [hdb, mrgM_nil]; exact hmore, by dsimp only; rw [List.length_append, List.length_singleton]; omega⟩, by dsimp only; omega, ?_, ?_⟩
      · (refine SubE.c rfl rfl ?_; refine SubE.c rfl rfl ?_; refine SubE.c rfl rfl ?_; refine SubE.c rfl rfl ?_; refine SubE.c rfl rfl ?_; refine SubE.c rfl rfl ?_; exact SubE.n)
      · ((refine Sb.c Tk.h ?_; refine Sb.c (Tk.t Tk.h) ?_); (refine Sb.s ?_; exact Sb.r))
    | some y =>
      have hjl := (List.getElem?_eq_some_iff.1 hy).1
      have hdy := drop_at hy
      rw [hdy] at hout hmore
      have d3 : decide ((j : Int) = (lb.length : Int)) = false := decide_eq_false (by omega)
      obtain ⟨bb, ob, rfl, hry⟩ := hrb (by omega)
      have r3 : Rd R ⟨bb, ob + j * 2, none⟩ (i64 y.1) := hry _ _ (cellsV_get hy).1
      have r4 : Rd R ⟨bb, ob + j * 2 + 1, none⟩ (i64 y.2) := hry _ _ (cellsV_get hy).2
      (refine G.seq ?_; refine G.seq ?_; refine G.region ?_; refine GO.move rfl rfl ?_; refine GO.move rfl rfl ?_; refine GO.lenS rfl rfl ?_; refine GO.lti rfl rfl rfl ?_; refine GO.move rfl rfl ?_; refine GO.gF rfl rfl rfl (by assumption) ?_; refine GO.gF rfl rfl rfl (by assumption) ?_; refine GO.gF rfl rfl rfl (by assumption) ?_; refine GO.gF rfl rfl rfl (by assumption) ?_; refine GO.pickTa rfl rfl (by assumption) rfl ?_; refine GO.nil ?_; refine kthen_n ?_; refine G.condT rfl rfl ?_; refine G.skip ?_; refine kthen_n ?_; refine G.block ?_; refine G.seq ?_; refine G.seq ?_)
      refine G.draw 21 (by kernel_rfl) ?_
      ((apply GQ.step; focus (intro Z; refine GO.move rfl rfl ?_; exact KQ.z)); (apply GQ.step; focus (intro Z; refine GO.move rfl rfl ?_; exact KQ.z)); (apply GQ.step; focus (intro Z; refine GO.lenS rfl rfl ?_; exact KQ.z)); (apply GQ.step; focus (intro Z; refine GO.eqi rfl rfl rfl ?_; exact KQ.z)); (apply GQ.step; focus (intro Z; refine GO.move rfl rfl ?_; exact KQ.z)); (apply GQ.step; focus (intro Z; refine GO.gT rfl rfl (by assumption) ?_; refine GO.move rfl rfl ?_; exact KQ.z)); (apply GQ.step; focus (intro Z; refine GO.gT rfl rfl (by assumption) ?_; refine GO.move rfl rfl ?_; exact KQ.z)); (apply GQ.step; focus (intro Z; refine GO.gT rfl rfl (by assumption) ?_; refine GO.lenS rfl rfl ?_; exact KQ.z)); (apply GQ.step; focus (intro Z; refine GO.gT rfl rfl (by assumption) ?_; refine GO.lti rfl rfl rfl ?_; exact KQ.z)); (apply GQ.step; focus (intro Z; refine GO.gT rfl rfl (by assumption) ?_; refine GO.move rfl rfl ?_; exact KQ.z)); (apply GQ.step; focus (intro Z; refine GO.gT rfl rfl (by assumption) ?_; refine GO.move rfl rfl ?_; exact KQ.z)); (apply GQ.step; focus (intro Z; refine GO.gT rfl rfl (by assumption) ?_; refine GO.move rfl rfl ?_; exact KQ.z)); (apply GQ.step; focus (intro Z; refine GO.gT rfl rfl (by assumption) ?_; refine GO.idxS rfl rfl rfl ⟨rfl, by omega⟩ ?_; exact KQ.z)); (apply GQ.step; focus (intro Z; refine GO.gT rfl rfl (by assumption) ?_; refine GO.load2 rfl rfl rfl (Tk.t Tk.h) (by assumption) (by assumption) ?_; exact KQ.z)); (apply GQ.step; focus (intro Z; refine GO.gT rfl rfl (by assumption) ?_; refine GO.move rfl rfl ?_; exact KQ.z)); (apply GQ.step; focus (intro Z; refine GO.gT rfl rfl (by assumption) ?_; refine GO.move rfl rfl ?_; exact KQ.z)); (apply GQ.step; focus (intro Z; refine GO.gT rfl rfl (by assumption) ?_; refine GO.idxS rfl rfl rfl ⟨rfl, by omega⟩ ?_; exact KQ.z)); (apply GQ.step; focus (intro Z; refine GO.gT rfl rfl (by assumption) ?_; refine GO.load2 rfl rfl rfl (Tk.t Tk.h) (by assumption) (by assumption) ?_; exact KQ.z)))
      apply GQ.step; focus (intro Z; refine GO.gT rfl rfl (by assumption) ?_; refine GO.call2 rfl rfl rfl (before_spec x y) Tks.n ?_; rintro _ _ ⟨rfl, rfl⟩; exact KQ.z)
      cases hl : ltC x y with
      | true =>
        rw [mrg_lt hl] at hout
        rw [mrgM_lt hl] at hmore
        ((apply GQ.step; focus (intro Z; refine GO.gT rfl rfl (by assumption) ?_; refine GO.pickTa rfl rfl (by assumption) rfl ?_; exact KQ.z)); (apply GQ.step; focus (intro Z; refine GO.pickFa rfl rfl (by assumption) rfl ?_; exact KQ.z)); refine GQ.nil ?_)
        (refine GO.nil ?_; refine kthen_n ?_; refine G.condT rfl rfl ?_; refine G.seq ?_; refine G.region ?_; refine GO.move rfl rfl ?_; refine GO.move rfl rfl ?_; refine GO.move rfl rfl ?_; refine GO.idxS rfl rfl rfl ⟨rfl, by omega⟩ ?_; refine GO.load2 rfl rfl rfl (Tk.t Tk.h) (by assumption) (by assumption) ?_)
        refine GO.buildSlice1 rfl rfl (by simp; rfl) rfl ⟨by omega, by omega⟩ fun bs => ?_
        refine GO.appendOwn (m := 1) (news := [i64 x.1, i64 x.2]) rfl rfl rfl (Tk.t Tk.h) Tk.h rfl (by simp [Value.oneCell']) ⟨by decide, rfl⟩ Nat.one_pos (by unfold maxLen; omega) (by omega) fun v4 => ?_
        rw [cellsV_snoc, show out.length + 1 = (out ++ [x]).length by rw [List.length_append]; rfl]
        (refine GO.assign rfl rfl ?_; refine GO.nil ?_; refine kthen_n ?_; refine G.seq ?_; refine G.region ?_; refine GO.move rfl rfl ?_; refine GO.addi rfl rfl rfl (by omega) ?_; refine GO.assign rfl rfl ?_; refine GO.nil ?_; refine kthen_n ?_; refine G.exit ?_; refine kthen_x ?_; refine kblock_x ?_; refine kthen_n ?_)
        refine ⟨(i + 1, j, v4, out ++ [x], more), ⟨by dsimp only; omega, by dsimp only; omega, by dsimp only; rw [hdy, List.append_assoc]; exact hout, by dsimp only; rw [hdy]; exact hmore, by dsimp only; rw [List.length_append, List.length_singleton]; omega⟩, by dsimp only; omega, ?_, ?_⟩
        · (refine SubE.c rfl rfl ?_; refine SubE.c rfl rfl ?_; refine SubE.c rfl rfl ?_; refine SubE.c rfl rfl ?_; refine SubE.c rfl rfl ?_; refine SubE.c rfl rfl ?_; exact SubE.n)
        · ((refine Sb.c Tk.h ?_; refine Sb.c (Tk.t Tk.h) ?_); (refine Sb.s ?_; exact Sb.r))
      | false =>
        ((apply GQ.step; focus (intro Z; refine GO.gT rfl rfl (by assumption) ?_; refine GO.pickTa rfl rfl (by assumption) rfl ?_; exact KQ.z)); (apply GQ.step; focus (intro Z; refine GO.pickFa rfl rfl (by assumption) rfl ?_; exact KQ.z)); refine GQ.nil ?_)
        (refine GO.nil ?_; refine kthen_n ?_; refine G.condF rfl rfl ?_; refine G.skip ?_; refine kthen_n ?_; refine G.seq ?_; refine G.seq ?_)
        refine G.draw 15 (by kernel_rfl) ?_
        ((apply GQ.step; focus (intro Z; refine GO.move rfl rfl ?_; exact KQ.z)); (apply GQ.step; focus (intro Z; refine GO.move rfl rfl ?_; exact KQ.z)); (apply GQ.step; focus (intro Z; refine GO.lenS rfl rfl ?_; exact KQ.z)); (apply GQ.step; focus (intro Z; refine GO.lti rfl rfl rfl ?_; exact KQ.z)); (apply GQ.step; focus (intro Z; refine GO.move rfl rfl ?_; exact KQ.z)); (apply GQ.step; focus (intro Z; refine GO.gT rfl rfl (by assumption) ?_; refine GO.move rfl rfl ?_; exact KQ.z)); (apply GQ.step; focus (intro Z; refine GO.gT rfl rfl (by assumption) ?_; refine GO.move rfl rfl ?_; exact KQ.z)); (apply GQ.step; focus (intro Z; refine GO.gT rfl rfl (by assumption) ?_; refine GO.idxS rfl rfl rfl ⟨rfl, by omega⟩ ?_; exact KQ.z)); (apply GQ.step; focus (intro Z; refine GO.gT rfl rfl (by assumption) ?_; refine GO.load2 rfl rfl rfl (Tk.t Tk.h) (by assumption) (by assumption) ?_; exact KQ.z)); (apply GQ.step; focus (intro Z; refine GO.gT rfl rfl (by assumption) ?_; refine GO.move rfl rfl ?_; exact KQ.z)); (apply GQ.step; focus (intro Z; refine GO.gT rfl rfl (by assumption) ?_; refine GO.move rfl rfl ?_; exact KQ.z)); (apply GQ.step; focus (intro Z; refine GO.gT rfl rfl (by assumption) ?_; refine GO.idxS rfl rfl rfl ⟨rfl, by omega⟩ ?_; exact KQ.z)); (apply GQ.step; focus (intro Z; refine GO.gT rfl rfl (by assumption) ?_; refine GO.load2 rfl rfl rfl (Tk.t Tk.h) (by assumption) (by assumption) ?_; exact KQ.z)))
        apply GQ.step; focus (intro Z; refine GO.gT rfl rfl (by assumption) ?_; refine GO.eqlA (EqR.celC x y) rfl rfl rfl ?_; exact KQ.z)
        by_cases he : x = y
        · rw [decide_eq_true he]
          rw [mrg_eq hl he] at hout
          rw [mrgM_eq hl he] at hmore
          ((apply GQ.step; focus (intro Z; refine GO.pickTa rfl rfl (by assumption) rfl ?_; exact KQ.z)); refine GQ.nil ?_)
          (refine GO.nil ?_; refine kthen_n ?_; refine G.condT rfl rfl ?_; refine G.region ?_; refine GO.move rfl rfl ?_; refine GO.addi rfl rfl rfl (by omega) ?_; refine GO.assign rfl rfl ?_; refine GO.nil ?_; refine kthen_n ?_; refine G.seq ?_; refine G.region ?_; refine GO.move rfl rfl ?_; refine GO.move rfl rfl ?_; refine GO.move rfl rfl ?_; refine GO.idxS rfl rfl rfl ⟨rfl, by omega⟩ ?_; refine GO.load2 rfl rfl rfl (Tk.t Tk.h) (by assumption) (by assumption) ?_)
          refine GO.buildSlice1 rfl rfl (by simp; rfl) rfl ⟨by omega, by omega⟩ fun bs => ?_
          refine GO.appendOwn (m := 1) (news := [i64 y.1, i64 y.2]) rfl rfl rfl (Tk.t Tk.h) Tk.h rfl (by simp [Value.oneCell']) ⟨by decide, rfl⟩ Nat.one_pos (by unfold maxLen; omega) (by omega) fun v4 => ?_
          rw [cellsV_snoc, show out.length + 1 = (out ++ [y]).length by rw [List.length_append]; rfl]
          (refine GO.assign rfl rfl ?_; refine GO.nil ?_; refine kthen_n ?_; refine G.region ?_; refine GO.move rfl rfl ?_; refine GO.addi rfl rfl rfl (by omega) ?_; refine GO.assign rfl rfl ?_; refine GO.nil ?_; refine kblock_n ?_; refine kthen_n ?_)
          refine ⟨(i + 1, j + 1, v4, out ++ [y], more), ⟨by dsimp only; omega, by dsimp only; omega, by dsimp only; rw [List.append_assoc]; exact hout, by dsimp only; exact hmore, by dsimp only; rw [List.length_append, List.length_singleton]; omega⟩, by dsimp only; omega, ?_, ?_⟩
          · (refine SubE.c rfl rfl ?_; refine SubE.c rfl rfl ?_; refine SubE.c rfl rfl ?_; refine SubE.c rfl rfl ?_; refine SubE.c rfl rfl ?_; refine SubE.c rfl rfl ?_; exact SubE.n)
          · ((refine Sb.c Tk.h ?_; refine Sb.c (Tk.t Tk.h) ?_); (refine Sb.s ?_; exact Sb.r))
        · rw [decide_eq_false he]
          rw [mrg_gt hl he] at hout
          rw [mrgM_gt hl he, Bool.or_true] at hmore
          ((apply GQ.step; focus (intro Z; refine GO.pickTa rfl rfl (by assumption) rfl ?_; exact KQ.z)); refine GQ.nil ?_)
          (refine GO.nil ?_; refine kthen_n ?_; refine G.condF rfl rfl ?_; refine G.region ?_; refine GO.assign rfl rfl ?_; refine GO.nil ?_; refine kthen_n ?_; refine G.seq ?_; refine G.region ?_; refine GO.move rfl rfl ?_; refine GO.move rfl rfl ?_; refine GO.move rfl rfl ?_; refine GO.idxS rfl rfl rfl ⟨rfl, by omega⟩ ?_; refine GO.load2 rfl rfl rfl (Tk.t Tk.h) (by assumption) (by assumption) ?_)
          refine GO.buildSlice1 rfl rfl (by simp; rfl) rfl ⟨by omega, by omega⟩ fun bs => ?_
          refine GO.appendOwn (m := 1) (news := [i64 y.1, i64 y.2]) rfl rfl rfl (Tk.t Tk.h) Tk.h rfl (by simp [Value.oneCell']) ⟨by decide, rfl⟩ Nat.one_pos (by unfold maxLen; omega) (by omega) fun v4 => ?_
          rw [cellsV_snoc, show out.length + 1 = (out ++ [y]).length by rw [List.length_append]; rfl]
          (refine GO.assign rfl rfl ?_; refine GO.nil ?_; refine kthen_n ?_; refine G.region ?_; refine GO.move rfl rfl ?_; refine GO.addi rfl rfl rfl (by omega) ?_; refine GO.assign rfl rfl ?_; refine GO.nil ?_; refine kblock_n ?_; refine kthen_n ?_)
          refine ⟨(i, j + 1, v4, out ++ [y], true), ⟨by dsimp only; omega, by dsimp only; omega, by dsimp only; rw [hdx, List.append_assoc]; exact hout, by dsimp only; rw [Bool.true_or]; exact hmore, by dsimp only; rw [List.length_append, List.length_singleton]; omega⟩, by dsimp only; omega, ?_, ?_⟩
          · (refine SubE.c rfl rfl ?_; refine SubE.c rfl rfl ?_; refine SubE.c rfl rfl ?_; refine SubE.c rfl rfl ?_; refine SubE.c rfl rfl ?_; refine SubE.c rfl rfl ?_; exact SubE.n)
          · ((refine Sb.c Tk.h ?_; refine Sb.c (Tk.t Tk.h) ?_); (refine Sb.s ?_; exact Sb.r))
end Go.Proofs.YtfoahdfflchidaaDoor
namespace Go.Proofs.YtfoahdfflchidaaDoor
open Go
def srt (l : List Cl) : List Cl := if l.length < 2 then l else mrg (srt (l.take (l.length / 2))) (srt (l.drop (l.length / 2)))
termination_by l.length
decreasing_by
  · rw [List.length_take]; omega
  · rw [List.length_drop]; omega
theorem srt_small {l : List Cl} (h : l.length < 2) : srt l = l := by rw [srt, if_pos h]
theorem srt_big {l : List Cl} (h : ¬ l.length < 2) : srt l = mrg (srt (l.take (l.length / 2))) (srt (l.drop (l.length / 2))) := by rw [srt, if_neg h]
theorem mrg_len : ∀ (n : Nat) (xs ys : List Cl), xs.length + ys.length ≤ n → (mrg xs ys).length ≤ xs.length + ys.length
  | _, [], ys, _ => by rw [mrg_nil']; simp
  | _, x :: xs, [], _ => by rw [mrg_nil]; simp
  | 0, x :: xs, y :: ys, h => by simp at h
  | n + 1, x :: xs, y :: ys, h => by
    simp only [List.length_cons] at h ⊢
    cases hl : ltC x y with
    | true =>
      rw [mrg_lt hl, List.length_cons]
      have := mrg_len n xs (y :: ys) (by simp only [List.length_cons]; omega)
      simp only [List.length_cons] at this
      omega
    | false =>
      by_cases e : x = y
      · rw [mrg_eq hl e, List.length_cons]
        have := mrg_len n xs ys (by omega)
        omega
      · rw [mrg_gt hl e, List.length_cons]
        have := mrg_len n (x :: xs) ys (by simp only [List.length_cons]; omega)
        simp only [List.length_cons] at this
        omega
theorem srt_len : ∀ (n : Nat) (l : List Cl), l.length ≤ n → (srt l).length ≤ l.length
  | 0, l, h => by rw [srt_small (by omega)]; exact Nat.le_refl _
  | n + 1, l, h => by
    by_cases h2 : l.length < 2
    · rw [srt_small h2]; exact Nat.le_refl _
    · rw [srt_big h2]
      have h3 := mrg_len _ (srt (l.take (l.length / 2))) (srt (l.drop (l.length / 2))) (Nat.le_refl _)
      have h4 := srt_len n (l.take (l.length / 2)) (by rw [List.length_take]; omega)
      have h5 := srt_len n (l.drop (l.length / 2)) (by rw [List.length_drop]; omega)
      rw [List.length_take] at h4
      rw [List.length_drop] at h5
      omega
/-- A slice of cells that can be read, its room at least its length. -/
def SlC (q : HP) (v : Value) (l : List Cl) : Prop := ∃ a cap, v = .slice a l.length cap ∧ l.length ≤ cap ∧ (0 < l.length → ∃ b o, a = some ⟨b, o, none⟩ ∧ ∀ j u, (cellsV l)[j]? = some u → Rd q ⟨b, o + j, none⟩ u)
theorem SlC.slR {q : HP} {v : Value} {l : List Cl} (h : SlC q v l) : SlR q v l.length 2 (cellsV l) := let ⟨a, cap, h1, _, h3⟩ := h; ⟨a, cap, h1, cellsV_len l, h3⟩
theorem cellsV_take {l : List Cl} {h j : Nat} {u : Value} (hu : (cellsV (l.take h))[j]? = some u) : (cellsV l)[j]? = some u := by
  have e : cellsV l = cellsV (l.take h) ++ cellsV (l.drop h) := by rw [← cellsV_app, List.take_append_drop]
  rw [e, List.getElem?_append_left (List.getElem?_eq_some_iff.1 hu).1]
  exact hu
theorem cellsV_drop {l : List Cl} {h j : Nat} {u : Value} (hh : h ≤ l.length) (hu : (cellsV (l.drop h))[j]? = some u) : (cellsV l)[h * 2 + j]? = some u := by
  have e : cellsV l = cellsV (l.take h) ++ cellsV (l.drop h) := by rw [← cellsV_app, List.take_append_drop]
  have hl : (cellsV (l.take h)).length = h * 2 := by rw [cellsV_len, List.length_take]; omega
  rw [e, List.getElem?_append_right (by omega), hl, show h * 2 + j - h * 2 = j by omega]
  exact hu
theorem Sl.slR {q : HP} {v : Value} {l : List Cl} (h : Sl q v l.length 2 (cellsV l)) : SlR q v l.length 2 (cellsV l) := h
theorem cellsV_ones (l : List Cl) : ∀ u ∈ cellsV l, u.oneCell' = true := by
  intro u hu
  obtain ⟨p, _, hp⟩ := List.mem_flatMap.1 hu
  simp at hp
  rcases hp with rfl | rfl <;> rfl
attribute [local irreducible] G GO GR GT GQ Fn FnV pt init exs pur sat own ImpS cellsV
set_option maxHeartbeats 8000000 in
theorem sorted_spec : ∀ (n : Nat) (l : List Cl), l.length ≤ n → ∀ (R : HP) (v : Value), SlC R v l → l.length * 16 ≤ 140737488355328 →
    Fn Tryd.prog 51 #[v] [R] (fun r Q => Q = [own 34 2 (srt l).length r (cellsV (srt l)), R]) := by
  intro n
  induction n with
  | zero =>
    intro l hl R v hv hb
    obtain rfl : l = [] := List.eq_nil_of_length_eq_zero (by omega)
    have hv2 := hv.slR
    obtain ⟨a, cap, rfl, hc, hr⟩ := hv
    refine Fn.mk2 Tryd.func51 rfl rfl fun w0 F => ?_
    rw [srt_small (by simp)]
    (refine G.seq ?_; refine G.region ?_; refine GO.assign rfl rfl ?_; refine GO.nil ?_; refine kthen_n ?_; refine G.seq ?_; refine G.seq ?_; refine G.region ?_; refine GO.move rfl rfl ?_; refine GO.lenS rfl rfl ?_; refine GO.lti rfl rfl rfl ?_; refine GO.nil ?_; refine kthen_n ?_; refine G.condT rfl rfl ?_; refine G.seq ?_; refine G.region ?_)
    refine GO.buildSlice0 rfl fun v16 => ?_
    (refine GO.move rfl rfl ?_)
    refine GO.appendFrom (m := ([] : List Cl).length) (q := R) rfl rfl rfl Tk.h Tk.h hv2 (cellsV_ones _) ⟨by decide, rfl⟩ (by decide) (by decide) fun v12 => ?_
    rw [List.nil_append, Nat.zero_add]
    (refine GO.assign rfl rfl ?_; refine GO.nil ?_; refine kthen_n ?_; refine G.ret ?_; refine kthen_r ?_)
    refine KF2.r1 rfl (RV.t rfl) rfl (ImpS.sb ?_)
    ((refine Sb.c Tk.h ?_; refine Sb.c Tk.h ?_); (exact Sb.r))
  | succ n ih =>
    intro l hl R v hv hb
    have hv2 := hv.slR
    obtain ⟨a, cap, rfl, hc, hr⟩ := hv
    refine Fn.mk2 Tryd.func51 rfl rfl fun w0 F => ?_
    (refine G.seq ?_; refine G.region ?_; refine GO.assign rfl rfl ?_; refine GO.nil ?_; refine kthen_n ?_; refine G.seq ?_; refine G.seq ?_; refine G.region ?_; refine GO.move rfl rfl ?_; refine GO.lenS rfl rfl ?_; refine GO.lti rfl rfl rfl ?_; refine GO.nil ?_; refine kthen_n ?_)
    refine G.condD rfl (fun hlt => ?_) (fun hge => ?_)
    · rw [srt_small (by omega)]
      (refine G.seq ?_; refine G.region ?_)
      refine GO.buildSlice0 rfl fun v16 => ?_
      (refine GO.move rfl rfl ?_)
      refine GO.appendFrom (m := l.length) (q := R) rfl rfl rfl Tk.h Tk.h hv2 (cellsV_ones _) ⟨by decide, rfl⟩ (by unfold maxLen; omega) (by omega) fun v12 => ?_
      rw [List.nil_append, Nat.zero_add]
      (refine GO.assign rfl rfl ?_; refine GO.nil ?_; refine kthen_n ?_; refine G.ret ?_; refine kthen_r ?_)
      refine KF2.r1 rfl (RV.t rfl) rfl (ImpS.sb ?_)
      ((refine Sb.c Tk.h ?_; refine Sb.c Tk.h ?_); (exact Sb.r))
    · obtain ⟨bo, oo, rfl, hrd⟩ := hr (by omega)
      rw [srt_big (by omega)]
      have hA := srt_len _ (l.take (l.length / 2)) (Nat.le_refl _)
      have hB := srt_len _ (l.drop (l.length / 2)) (Nat.le_refl _)
      have hlt : (l.take (l.length / 2)).length = l.length / 2 := by rw [List.length_take]; omega
      have hld : (l.drop (l.length / 2)).length = l.length - l.length / 2 := List.length_drop
      have s1 : SlC R (.slice (some ⟨bo, oo, none⟩) (l.length / 2) cap) (l.take (l.length / 2)) := ⟨_, _, by rw [hlt], by omega, fun _ => ⟨bo, oo, rfl, fun j u hj => hrd _ _ (cellsV_take hj)⟩⟩
      have s2 : SlC R (.slice (some ⟨bo, oo + l.length / 2 * 2, none⟩) (l.length - l.length / 2) (cap - l.length / 2)) (l.drop (l.length / 2)) := ⟨_, _, by rw [hld], by omega, fun _ => ⟨bo, _, rfl, fun j u hj => by rw [Nat.add_assoc]; exact hrd _ _ (cellsV_drop (by omega) hj)⟩⟩
      have i1 := ih (l.take (l.length / 2)) (by omega) R _ s1 (by omega)
      have i2 := ih (l.drop (l.length / 2)) (by omega) R _ s2 (by omega)
      generalize srt (l.take (l.length / 2)) = A at hA i1 ⊢
      generalize srt (l.drop (l.length / 2)) = B at hB i2 ⊢
      (refine G.skip ?_; refine kthen_n ?_; refine G.seq ?_)
      refine G.drawT 14 14368 [] (R :: F) (by kernel_rfl) (keys_of rfl) (ImpS.sb Sb.r) ?_
      ((apply GR.step rfl; focus (intro Z; refine GO.move rfl rfl ?_; exact KQ.z)); (apply GR.step rfl; focus (intro Z; refine GO.move rfl rfl ?_; exact KQ.z)); (apply GR.step rfl; focus (intro Z; refine GO.lenS rfl rfl ?_; exact KQ.z)); (apply GR.step rfl; focus (intro Z; refine GO.quoi rfl rfl rfl (by omega) ?_; exact KQ.z)))
      apply GR.step rfl; focus (intro Z; refine GO.sliceHi (l := l.length / 2) rfl rfl rfl ⟨by omega, by omega⟩ ?_; exact KQ.z)
      (refine GR.skip rfl ?_; (apply GR.step rfl; focus (intro Z; refine GO.move rfl rfl ?_; exact KQ.z)); (apply GR.step rfl; focus (intro Z; refine GO.move rfl rfl ?_; exact KQ.z)); (apply GR.step rfl; focus (intro Z; refine GO.lenS rfl rfl ?_; exact KQ.z)); (apply GR.step rfl; focus (intro Z; refine GO.quoi rfl rfl rfl (by omega) ?_; exact KQ.z)))
      apply GR.step rfl; focus (intro Z; refine GO.sliceLo (l := l.length / 2) rfl rfl rfl ⟨by omega, by omega, by omega⟩ ?_; exact KQ.z)
      (refine GR.skip rfl ?_; refine GR.skip rfl ?_; refine GR.skip rfl ?_; refine GR.nil ?_)
      (repeat refine GT.skip rfl ?_)
      refine GT.step rfl ?_
      refine GO.call1 rfl rfl (i1) (Tks.c Tk.h Tks.n) ?_
      rintro v3 _ rfl
      refine GO.nil ⟨rfl, _, own 34 2 A.length v3 (cellsV A) :: R :: F, rfl, ImpS.sb (by ((refine Sb.c Tk.h ?_; refine Sb.c Tk.h ?_); (exact Sb.r))), ?_⟩
      (repeat refine GT.skip rfl ?_)
      refine GT.step rfl ?_
      refine GO.call1 rfl rfl (i2) (Tks.c (Tk.t Tk.h) Tks.n) ?_
      rintro v4 _ rfl
      refine GO.nil ⟨rfl, _, own 34 2 B.length v4 (cellsV B) :: own 34 2 A.length v3 (cellsV A) :: R :: F, rfl, ImpS.sb (by ((refine Sb.c Tk.h ?_; refine Sb.c (Tk.t Tk.h) ?_; refine Sb.c Tk.h ?_); (exact Sb.r))), ?_⟩
      refine GT.step rfl ?_
      refine GO.assign rfl rfl ?_
      refine GO.nil ⟨rfl, _, _, rfl, ImpS.refl, ?_⟩
      refine GT.step rfl ?_
      refine GO.assign rfl rfl ?_
      refine GO.nil ⟨rfl, _, _, rfl, ImpS.refl, ?_⟩
      refine GT.nil ?_
      refine GO.ownSl Tk.h fun sl4 => ?_
      refine GO.ownSl (Tk.t Tk.h) fun sl3 => ?_
      (refine GO.nil ?_; refine kthen_n ?_; refine G.seq ?_; refine G.region ?_; refine GO.move rfl rfl ?_; refine GO.move rfl rfl ?_)
      refine GO.merge (x := own 34 2 A.length v3 (cellsV A)) (y := own 34 2 B.length v4 (cellsV B)) (Tks.c (Tk.t Tk.h) (Tks.c Tk.h Tks.n)) ?_
      refine GO.call2 rfl rfl rfl (merge_spec (star [own 34 2 A.length v3 (cellsV A), own 34 2 B.length v4 (cellsV B)]) v3 v4 A B (Sl.sup (Sup.left _ _) sl3) (Sl.sup (Sup.right _ _) sl4) (by omega)) (Tks.c Tk.h Tks.n) ?_
      rintro _ _ ⟨v, rfl, rfl⟩
      (refine GO.move rfl rfl ?_; refine GO.extract rfl rfl rfl ?_; refine GO.extract rfl rfl rfl ?_; refine GO.assign rfl rfl ?_; refine GO.assign rfl rfl ?_; refine GO.nil ?_; refine kthen_n ?_; refine G.seq ?_; refine G.region ?_; refine GO.move rfl rfl ?_; refine GO.assign rfl rfl ?_; refine GO.nil ?_; refine kthen_n ?_; refine G.ret ?_)
      refine KF2.r1 rfl (RV.t rfl) rfl (ImpS.sb ?_)
      ((refine Sb.c Tk.h ?_; refine Sb.c (Tk.t Tk.h) ?_); (refine Sb.s ?_; exact Sb.r))
end Go.Proofs.YtfoahdfflchidaaDoor
