/-
  Sparse matrices, second part.
-/
import Derived.Test.YtpfcgfgkmgnaaaaDoorM1
import Derived.Test.YtpfcgfgkmgnaaaaDoorLay
namespace Go.Proofs.YtpfcgfgkmgnaaaaDoor
open Go
/-- A row of the parts. -/
theorem GO.loadPart {P : Program} {c : Cx} {A : Array Oper} {rest : List Oper} {K : Kont} {L : Env} {H F : List HP} {d : Nat} {t : TypeId} {p : String} {e : Array Edge} {np bp cap q o : Nat} {PP : Nat → Nat → Nat} {ty : TypeId} {ds : TypeDesc} {x : Operand} [hu : UL P ty ds] [hs : SZ P ty 4] (hd : ds.isRow = true) (hN : Nat.blt d c.N = true) (hx : evl L x = some (.pointer (some ⟨bp, o, none⟩))) (ho : o = 0 + q * 4) (hq : q < np)
    (tk : Tk (parP np (.slice (some ⟨bp, 0, none⟩) np cap) PP) H F) (k : GO P c A rest K ((d, .agg (partR PP q).toArray) :: L) H) : GO P c A (⟨some d, .load ty x, t, p, e, none⟩ :: rest) K L H :=
  GO.loadM (vs := partR PP q) hd hN hx tk (partR_len _ _) (fun j u hj => by
    have hj4 : j < 4 := by have := (List.getElem?_eq_some_iff.1 hj).1; rw [partR_len] at this; exact this
    refine Rd.own ?_
    rw [ho, Nat.zero_add, partsV, grid_get (fun i => partR_len _ _) hj4 hq]
    exact hj) k
theorem GO.callV4 {P : Program} {c : Cx} {A : Array Oper} {rest : List Oper} {K : Kont} {L : Env} {H F : List HP} {d : Nat} {t : TypeId} {p : String} {e : Array Edge} {x x1 x2 x3 x4 : Operand} {v0 v1 v2 v3 v4 : Value} {ats : Array TypeId} {Pre : List HP} {R : Value → List HP → Prop} (hN : Nat.blt d c.N = true) (hx : evl L x = some v0) (h1 : evl L x1 = some v1) (h2 : evl L x2 = some v2) (h3 : evl L x3 = some v3) (h4 : evl L x4 = some v4) (spec : FnV P v0 [v1, v2, v3, v4] Pre R) (tk : Tks Pre H F)
    (k : ∀ v Q, R v Q → GO P c A rest K ((d, v) :: L) (Q ++ F)) : GO P c A (⟨some d, .call ⟨.value x, #[x1, x2, x3, x4], ats⟩, t, p, e, none⟩ :: rest) K L H :=
  GO.callVG (dst := some d) (xs := [x1, x2, x3, x4]) (vs := [v1, v2, v3, v4]) hN hx ⟨h1, h2, h3, h4, trivial⟩ spec tk k
attribute [local irreducible] G GO GR GT Fn FnV pt init exs pur sat own ImpS mat
set_option maxHeartbeats 2000000 in
theorem cmp_spec (B : Nat → Blk) (x y : Nat × Nat × Nat) (W : World) : Fn Tryd.prog 90 #[.agg (encP B x).toArray, .agg (encP B y).toArray] [init W] (fun r Q => r = i64 (cmpP x y) ∧ Q = [init W]) := by
  refine Fn.mk Tryd.func90 rfl rfl fun w0 F => ?_
  unfold cmpP
  have hx1 : x.1 % 16 < 16 := Nat.mod_lt _ (by decide)
  have hx2 : x.2.1 % 16 < 16 := Nat.mod_lt _ (by decide)
  have hy1 : y.1 % 16 < 16 := Nat.mod_lt _ (by decide)
  have hy2 : y.2.1 % 16 < 16 := Nat.mod_lt _ (by decide)
  (refine G.seq ?_; refine G.region ?_; refine GO.box rfl rfl rfl fun b2 => ?_; refine GO.box rfl rfl rfl fun b3 => ?_; refine GO.assign rfl rfl ?_; refine GO.nil ?_; refine kthen_n ?_; refine G.seq ?_; refine G.seq ?_; refine G.region ?_; refine GO.fieldAddr rfl rfl ?_; refine GO.fieldAddr rfl rfl ?_; refine GO.load1 rfl rfl rfl (Tk.t Tk.h) rfl ?_; refine GO.fieldAddr rfl rfl ?_; refine GO.fieldAddr rfl rfl ?_; refine GO.load1 rfl rfl rfl Tk.h rfl ?_; refine GO.nei rfl rfl rfl ?_; refine GO.nil ?_; refine kthen_n ?_)
  refine G.condD rfl (fun h1 => ?_) (fun h1 => ?_)
  · rw [if_neg (by omega)]
    (refine G.seq ?_; refine G.region ?_; refine GO.fieldAddr rfl rfl ?_; refine GO.fieldAddr rfl rfl ?_; refine GO.load1 rfl rfl rfl (Tk.t Tk.h) rfl ?_; refine GO.fieldAddr rfl rfl ?_; refine GO.fieldAddr rfl rfl ?_; refine GO.load1 rfl rfl rfl Tk.h rfl ?_; refine GO.subi rfl rfl rfl (by omega) ?_; refine GO.assign rfl rfl ?_; refine GO.nil ?_; refine kthen_n ?_; refine G.ret ?_; refine kthen_r ?_)
    refine KF.r1 rfl (RV.t rfl) ⟨rfl, rfl⟩ ?_
    ((refine Sb.c (Tk.t (Tk.t Tk.h)) ?_); (refine Sb.s ?_; refine Sb.s ?_; exact Sb.r))
  · rw [if_pos (by omega)]
    (refine G.skip ?_; refine kthen_n ?_; refine G.seq ?_; refine G.region ?_; refine GO.fieldAddr rfl rfl ?_; refine GO.fieldAddr rfl rfl ?_; refine GO.load1 rfl rfl rfl (Tk.t Tk.h) rfl ?_; refine GO.fieldAddr rfl rfl ?_; refine GO.fieldAddr rfl rfl ?_; refine GO.load1 rfl rfl rfl Tk.h rfl ?_; refine GO.subi rfl rfl rfl (by omega) ?_; refine GO.assign rfl rfl ?_; refine GO.nil ?_; refine kthen_n ?_; refine G.ret ?_)
    refine KF.r1 rfl (RV.t rfl) ⟨rfl, rfl⟩ ?_
    ((refine Sb.c (Tk.t (Tk.t Tk.h)) ?_); (refine Sb.s ?_; refine Sb.s ?_; exact Sb.r))
/-! ## down -/
def rawP (B : Nat → Blk) (p : Nat × Nat × Nat) : List Value := [i64 p.1, i64 p.2.1] ++ cells (B p.2.2)
theorem rawP_len (B : Nat → Blk) (p : Nat × Nat × Nat) : (rawP B p).length = 66 := by simp [rawP, cells_len]
theorem rawP_one (B : Nat → Blk) (p : Nat × Nat × Nat) : ∀ u ∈ rawP B p, u.oneCell' = true := by
  intro u hu
  simp only [rawP, List.mem_append, List.mem_cons, List.not_mem_nil, or_false] at hu
  rcases hu with (rfl | rfl) | hu
  · rfl
  · rfl
  · exact cells_one _ u hu
abbrev dnV (bm bo bd : Nat) : Value := .func (.func 88) #[] #[.pointer (some ⟨bm, 0, none⟩), .pointer (some ⟨bo, 0, none⟩), .pointer (some ⟨bd, 0, none⟩)]
abbrev dnH (bm bo bd b : Nat) (side : Int) (D : Nat) (cnt : Int) (vp vl : Value) (np nl : Nat) (P : Nat → Nat → Nat) (B : Nat → Blk) (m : Nat) (v : Value) (xs : List Value) : List HP :=
  [own 106 66 m v xs, pt bo (row [v] 101), pt bm (row [.pointer (some ⟨b, 0, none⟩)] 35), pt bd (row [dnV bm bo bd] 149), matP b side D cnt vp vl, parP np vp P, leaP nl vl B]
def DownOK (D np nl : Nat) (P : Nat → Nat → Nat) (B : Nat → Blk) (side cnt : Int) (b : Nat) (vp vl : Value) (bm bo bd : Nat) (l n i j : Nat) : Prop := ∀ (xs : List Value) (m : Nat) (v : Value), m + 4 ^ (l + 1) ≤ 100000000 →
    Fn Tryd.prog 88 #[i64 n, i64 l, i64 i, i64 j, .pointer (some ⟨bm, 0, none⟩), .pointer (some ⟨bo, 0, none⟩), .pointer (some ⟨bd, 0, none⟩)]
      (dnH bm bo bd b side D cnt vp vl np nl P B m v xs)
      (fun r Q => r = .tuple #[] ∧ ∃ v', Q = dnH bm bo bd b side D cnt vp vl np nl P B (m + (dl P (l + 1) n i j).length) v' (xs ++ (dl P (l + 1) n i j).flatMap (rawP B)))
set_option maxHeartbeats 8000000 in
set_option maxRecDepth 20000 in
theorem down_step {D np nl : Nat} {P : Nat → Nat → Nat} {ow : Nat → Nat × Nat × Nat} {low : Nat → Nat × Nat} (T : Tree D np nl P ow low) (B : Nat → Blk) (side cnt : Int) (b : Nat) (vp vl : Value) (bm bo bd : Nat) (hnp : np ≤ 1048576) (hnl : nl ≤ 1048576)
    (l n i j : Nat) (hn : n < np) (ho : ow n = (l, i, j)) (hl : ¬ 1048576 ≤ l) (hi : ¬ 1048576 ≤ i) (hj : ¬ 1048576 ≤ j) (ih : ∀ l' k, l = l' + 1 → k < 4 → P n k ≠ 0 → DownOK D np nl P B side cnt b vp vl bm bo bd l' (P n k - 1) (2 * i + k / 2) (2 * j + k % 2)) : DownOK D np nl P B side cnt b vp vl bm bo bd l n i j := by
  intro xs m v hm
  have hm2 : ¬ 100000000 < m + 4 ^ (l + 1) := by omega
  clear hm
  refine Fn.mk Tryd.func88 rfl rfl fun w0 F => ?_
  refine G.ownForm (by omega) (Tk.t (Tk.t (Tk.t (Tk.t (Tk.t Tk.h))))) fun bp cap e1 hc1 hc2 hc3 => ?_
  subst e1
  (refine G.seq ?_; refine G.region ?_; refine GO.load1 rfl rfl rfl (Tk.t (Tk.t Tk.h)) rfl ?_; refine GO.nilCheck rfl rfl ?_; refine GO.fieldAddr rfl rfl ?_; refine GO.load1 rfl rfl rfl (Tk.t (Tk.t (Tk.t (Tk.t Tk.h)))) rfl ?_; refine GO.move rfl rfl ?_; refine GO.idxS rfl rfl rfl ⟨rfl, by omega⟩ ?_)
  refine GO.loadPart rfl rfl rfl rfl hn (Tk.t (Tk.t (Tk.t (Tk.t (Tk.t Tk.h))))) ?_
  (refine GO.move rfl rfl ?_; refine GO.nil ?_; refine kthen_n ?_; refine G.block ?_)
  refine G.loop2 (fun (k : Nat) (_ : Value) => [(0, i64 n), (1, i64 l), (2, i64 i), (3, i64 j), (4, .pointer (some ⟨bm, 0, none⟩)), (5, .pointer (some ⟨bo, 0, none⟩)), (6, .pointer (some ⟨bd, 0, none⟩)), (21, .agg (partR P n).toArray), (22, i64 k)])
    (fun k v' => own 106 66 (m + (dlk P l n i j k).length) v' (xs ++ (dlk P l n i j k).flatMap (rawP B)) :: pt bo (row [v'] 101) :: pt bm (row [.pointer (some ⟨b, 0, none⟩)] 35) :: pt bd (row [dnV bm bo bd] 149) :: matP b side D cnt (.slice (some ⟨bp, 0, none⟩) np cap) vl :: parP np (.slice (some ⟨bp, 0, none⟩) np cap) P :: leaP nl vl B :: F)
    (fun k _ => k ≤ 4) (fun k _ => 4 - k) 0 v (by omega) ?_ ?_ ?_
  · (refine SubE.c rfl rfl ?_; refine SubE.c rfl rfl ?_; refine SubE.c rfl rfl ?_; refine SubE.c rfl rfl ?_; refine SubE.c rfl rfl ?_; refine SubE.c rfl rfl ?_; refine SubE.c rfl rfl ?_; refine SubE.c rfl rfl ?_; refine SubE.c rfl rfl ?_; exact SubE.n)
  · rw [dlk_zero, List.flatMap_nil, List.append_nil, List.length_nil, Nat.add_zero]
    ((refine Sb.c Tk.h ?_; refine Sb.c Tk.h ?_; refine Sb.c Tk.h ?_; refine Sb.c Tk.h ?_; refine Sb.c Tk.h ?_; refine Sb.c Tk.h ?_; refine Sb.c Tk.h ?_); (exact Sb.r))
  rintro k v' hk
  (refine G.seq ?_; refine G.region ?_; refine GO.lti rfl rfl rfl ?_; refine GO.nil ?_; refine kthen_n ?_; refine G.seq ?_)
  refine G.condD rfl (fun h1 => ?_) (fun h1 => ?_)
  · have hk4 : k < 4 := by omega
    (refine G.skip ?_; refine kthen_n ?_; refine G.seq ?_; refine G.block ?_; refine G.seq ?_; refine G.region ?_; refine GO.move rfl rfl ?_)
    refine GO.idxV (j := k) rfl rfl rfl rfl ⟨rfl, hk4⟩ (partR_get P n hk4) ?_
    (refine GO.assign rfl rfl ?_; refine GO.assign rfl rfl ?_; refine GO.nil ?_; refine kthen_n ?_; refine G.seq ?_; refine G.region ?_; refine GO.move rfl rfl ?_)
    refine GO.shliK 1 rfl rfl rfl rfl ⟨by omega, by omega, by omega⟩ ?_
    refine GO.chg (i64 ((2 * i : Nat) : Int)) (by congr 1; omega) ?_
    (refine GO.move rfl rfl ?_)
    refine GO.shri (j := 1) rfl rfl rfl (by omega) ?_
    refine GO.chg (i64 ((k / 2 : Nat) : Int)) (by congr 1) ?_
    (refine GO.ori rfl rfl rfl (by omega) ?_; refine GO.move rfl rfl ?_)
    rw [or_low _ _ (by omega)]
    refine GO.shliK 1 rfl rfl rfl rfl ⟨by omega, by omega, by omega⟩ ?_
    refine GO.chg (i64 ((2 * j : Nat) : Int)) (by congr 1; omega) ?_
    (refine GO.move rfl rfl ?_)
    refine GO.andi (m := k) (n := 1) rfl rfl rfl ⟨by omega, by omega⟩ ?_
    rw [Nat.and_one_is_mod]
    refine GO.ori (m := 2 * j) (n := k % 2) rfl rfl rfl ⟨by omega, by omega⟩ ?_
    rw [or_low _ _ (by omega)]
    (refine GO.assign rfl rfl ?_; refine GO.assign rfl rfl ?_; refine GO.nil ?_; refine kthen_n ?_; refine G.block ?_; refine G.seq ?_; refine G.region ?_; refine GO.move rfl rfl ?_; refine GO.eqi rfl rfl rfl ?_; refine GO.assign rfl rfl ?_; refine GO.nil ?_; refine kthen_n ?_)
    refine G.condD rfl (fun h2 => ?_) (fun h2 => ?_)
    · have h3 : P n k = 0 := by omega
      (refine G.skip ?_; refine kblock_n ?_; refine kblock_n ?_; refine kthen_n ?_; refine G.region ?_; refine GO.addi rfl rfl rfl (by omega) ?_; refine GO.move rfl rfl ?_; refine GO.nil ?_; refine kthen_n ?_)
      refine ⟨k + 1, v', by omega, by omega, ?_, ?_⟩
      · (refine SubE.c rfl rfl ?_; refine SubE.c rfl rfl ?_; refine SubE.c rfl rfl ?_; refine SubE.c rfl rfl ?_; refine SubE.c rfl rfl ?_; refine SubE.c rfl rfl ?_; refine SubE.c rfl rfl ?_; refine SubE.c rfl rfl ?_; refine SubE.c rfl rfl ?_; exact SubE.n)
      · rw [dlk_none h3]
        ((refine Sb.c Tk.h ?_; refine Sb.c Tk.h ?_; refine Sb.c Tk.h ?_; refine Sb.c Tk.h ?_; refine Sb.c Tk.h ?_; refine Sb.c Tk.h ?_; refine Sb.c Tk.h ?_); (exact Sb.r))
    · have h3 : P n k ≠ 0 := by omega
      have hb4 : (dlk P l n i j k).length ≤ k * 4 ^ l := dlk_len l n i j k
      have hs4 := dlk_some (l := l) (i := i) (j := j) h3
      have hp4 : 1 ≤ 4 ^ l := Nat.pos_of_ne_zero (by exact Nat.ne_of_gt (Nat.pow_pos (by decide)))
      (refine G.seq ?_; refine G.region ?_; refine GO.move rfl rfl ?_; refine GO.eqi rfl rfl rfl ?_; refine GO.assign rfl rfl ?_; refine GO.nil ?_; refine kthen_n ?_)
      refine G.condD rfl (fun h5 => ?_) (fun h5 => ?_)
      · obtain rfl : l = 0 := by omega
        obtain ⟨g1, g2⟩ := T.leaf n k hn hk4 h3 (by rw [ho])
        refine G.ownForm (by omega) (Tk.t (Tk.t (Tk.t (Tk.t (Tk.t (Tk.t Tk.h)))))) fun bl capl e2 hd1 hd2 hd3 => ?_
        subst e2
        refine G.drawT 15 24576 [pt bo (row [v'] 101), pt bm (row [.pointer (some ⟨b, 0, none⟩)] 35), matP b side D cnt (.slice (some ⟨bp, 0, none⟩) np cap) (.slice (some ⟨bl, 0, none⟩) nl capl), leaP nl (.slice (some ⟨bl, 0, none⟩) nl capl) B] (own 106 66 (m + (dlk P 0 n i j k).length) v' (xs ++ (dlk P 0 n i j k).flatMap (rawP B)) :: pt bd (row [dnV bm bo bd] 149) :: parP np (.slice (some ⟨bp, 0, none⟩) np cap) P :: F) (by kernel_rfl) (keys_of rfl) (ImpS.sb (by ((refine Sb.c (Tk.t Tk.h) ?_; refine Sb.c (Tk.t Tk.h) ?_; refine Sb.c (Tk.t (Tk.t Tk.h)) ?_; refine Sb.c (Tk.t (Tk.t (Tk.t Tk.h))) ?_; refine Sb.c Tk.h ?_; refine Sb.c Tk.h ?_; refine Sb.c Tk.h ?_); (exact Sb.r)))) ?_
        ((apply GR.step rfl; focus (intro Z; refine GO.load1 rfl rfl rfl Tk.h rfl ?_; exact KQ.z)); (apply GR.step rfl; focus (intro Z; refine GO.move rfl rfl ?_; exact KQ.z)); (apply GR.step rfl; focus (intro Z; refine GO.move rfl rfl ?_; exact KQ.z)); (apply GR.step rfl; focus (intro Z; refine GO.build2 rfl rfl rfl rfl ?_; exact KQ.z)); (apply GR.step rfl; focus (intro Z; refine GO.load1 rfl rfl rfl (Tk.t Tk.h) rfl ?_; exact KQ.z)); (apply GR.step rfl; focus (intro Z; refine GO.nilCheck rfl rfl ?_; exact KQ.z)); (apply GR.step rfl; focus (intro Z; refine GO.fieldAddr rfl rfl ?_; exact KQ.z)); (apply GR.step rfl; focus (intro Z; refine GO.load1 rfl rfl rfl (Tk.t (Tk.t Tk.h)) rfl ?_; exact KQ.z)); (apply GR.step rfl; focus (intro Z; refine GO.move rfl rfl ?_; exact KQ.z)); (apply GR.step rfl; focus (intro Z; refine GO.subi rfl rfl rfl (by omega) ?_; exact KQ.z)))
        apply GR.step rfl; focus (intro Z; refine GO.idxS (j := P n k - 1) rfl rfl rfl ⟨by omega, g1⟩ ?_; exact KQ.z)
        ((apply GR.step rfl; focus (intro Z; refine GO.loadLeaf rfl rfl rfl rfl (by assumption) (Tk.t (Tk.t (Tk.t Tk.h))) ?_; exact KQ.z)))
        apply GR.step rfl; focus (intro Z; refine GO.build2 rfl rfl rfl (by simp [blk, Value.cells, cells_len, putParts]) ?_; exact KQ.zv (v := .agg (rawP B (2 * i + k / 2, 2 * j + k % 2, P n k - 1)).toArray) (by simp [putParts, rawP, blk, Value.cells]))
        (refine GR.skip rfl ?_; refine GR.skip rfl ?_; refine GR.nil ?_)
        (repeat refine GT.skip rfl ?_)
        refine GT.step rfl ?_
        refine GO.buildSlice1 rfl rfl (fun u hu => by rw [List.mem_singleton.1 hu]; simp [Value.cells, rawP_len]) rfl ⟨by omega, by omega⟩ fun b40 => ?_
        rw [show putParts [Value.agg (rawP B (2 * i + k / 2, 2 * j + k % 2, P n k - 1)).toArray] = rawP B (2 * i + k / 2, 2 * j + k % 2, P n k - 1) by simp [putParts, Value.cells]]
        generalize hy : rawP B (2 * i + k / 2, 2 * j + k % 2, P n k - 1) = y
        have hyl : y.length = 1 * 66 := by rw [← hy, rawP_len]
        have hyo : ∀ u ∈ y, u.oneCell' = true := by rw [← hy]; exact rawP_one _ _
        refine GO.nil ⟨rfl, _, pt b40 (row y 106) :: own 106 66 (m + (dlk P 0 n i j k).length) v' (xs ++ (dlk P 0 n i j k).flatMap (rawP B)) :: pt bd (row [dnV bm bo bd] 149) :: parP np (.slice (some ⟨bp, 0, none⟩) np cap) P :: F, rfl, ImpS.sb (by ((refine Sb.c (Tk.t Tk.h) ?_; refine Sb.c (Tk.t Tk.h) ?_; refine Sb.c (Tk.t Tk.h) ?_; refine Sb.c (Tk.t Tk.h) ?_; refine Sb.c Tk.h ?_; refine Sb.c Tk.h ?_; refine Sb.c Tk.h ?_; refine Sb.c Tk.h ?_); (exact Sb.r))), ?_⟩
        refine GT.step rfl ?_
        refine GO.appendOwn (m := 1) (news := y) rfl rfl rfl (Tk.t (Tk.t (Tk.t (Tk.t (Tk.t Tk.h))))) (Tk.t (Tk.t (Tk.t (Tk.t Tk.h)))) hyl hyo ⟨by decide, rfl⟩ Nat.one_pos (by unfold maxLen; omega) (by omega) fun v2 => ?_
        refine GO.ownOne Tk.h fun hone2 => ?_
        refine GO.nil ⟨rfl, _, own 106 66 (m + (dlk P 0 n i j k).length + 1) v2 (xs ++ (dlk P 0 n i j k).flatMap (rawP B) ++ y) :: pt bd (row [dnV bm bo bd] 149) :: parP np (.slice (some ⟨bp, 0, none⟩) np cap) P :: F, rfl, ImpS.sb (by ((refine Sb.c (Tk.t Tk.h) ?_; refine Sb.c (Tk.t Tk.h) ?_; refine Sb.c (Tk.t Tk.h) ?_; refine Sb.c (Tk.t Tk.h) ?_; refine Sb.c Tk.h ?_; refine Sb.c (Tk.t Tk.h) ?_; refine Sb.c (Tk.t Tk.h) ?_); (refine Sb.s ?_; exact Sb.r))), ?_⟩
        (repeat refine GT.skip rfl ?_)
        refine GT.nil ?_
        refine GO.store1 rfl rfl hone2 Tk.h (by simp) ?_
        (refine GO.nil ?_; refine kblock_n ?_; refine kblock_n ?_; refine kthen_n ?_; refine G.region ?_; refine GO.addi rfl rfl rfl (by omega) ?_; refine GO.move rfl rfl ?_; refine GO.nil ?_; refine kthen_n ?_)
        refine ⟨k + 1, v2, by omega, by omega, ?_, ?_⟩
        · (refine SubE.c rfl rfl ?_; refine SubE.c rfl rfl ?_; refine SubE.c rfl rfl ?_; refine SubE.c rfl rfl ?_; refine SubE.c rfl rfl ?_; refine SubE.c rfl rfl ?_; refine SubE.c rfl rfl ?_; refine SubE.c rfl rfl ?_; refine SubE.c rfl rfl ?_; exact SubE.n)
        · rw [hs4, List.flatMap_append, ← List.append_assoc, List.length_append, ← Nat.add_assoc]
          rw [show (dl P 0 (P n k - 1) (2 * i + k / 2) (2 * j + k % 2)).flatMap (rawP B) = y by rw [← hy]; simp [dl], show (dl P 0 (P n k - 1) (2 * i + k / 2) (2 * j + k % 2)).length = 1 from rfl]
          ((refine Sb.c (Tk.t (Tk.t (Tk.t (Tk.t Tk.h)))) ?_; refine Sb.c Tk.h ?_; refine Sb.c Tk.h ?_; refine Sb.c (Tk.t (Tk.t Tk.h)) ?_; refine Sb.c Tk.h ?_; refine Sb.c (Tk.t Tk.h) ?_; refine Sb.c Tk.h ?_); (exact Sb.r))
      · obtain ⟨l', rfl⟩ : ∃ l', l = l' + 1 := ⟨l - 1, by omega⟩
        obtain ⟨g1, _⟩ := T.kid n k hn hk4 h3 (by rw [ho]; exact Nat.succ_pos _)
        have hpb : ¬ 1048577 < P n k := by omega
        have hk3 : k * 4 ^ (l' + 1) ≤ 3 * 4 ^ (l' + 1) := Nat.mul_le_mul_right _ (by omega)
        have hq : (4 : Nat) ^ (l' + 1 + 1) = 4 * 4 ^ (l' + 1) := by rw [Nat.pow_succ]; omega
        (refine G.region ?_; refine GO.load1 rfl rfl rfl (Tk.t (Tk.t (Tk.t Tk.h))) rfl ?_; refine GO.move rfl rfl ?_; refine GO.subi rfl rfl rfl (by omega) ?_; refine GO.move rfl rfl ?_; refine GO.subi rfl rfl rfl (by omega) ?_; refine GO.move rfl rfl ?_; refine GO.move rfl rfl ?_)
        rw [show ((l' + 1 : Nat) : Int) - 1 = (l' : Int) by omega]
        rw [show ((P n k : Nat) : Int) - 1 = ((P n k - 1 : Nat) : Int) by omega]
        refine GO.callV4 rfl rfl rfl rfl rfl rfl (FnV.of (args := [i64 ((P n k - 1 : Nat) : Int), i64 (l' : Int), i64 ((2 * i + k / 2 : Nat) : Int), i64 ((2 * j + k % 2 : Nat) : Int)]) (caps := [.pointer (some ⟨bm, 0, none⟩), .pointer (some ⟨bo, 0, none⟩), .pointer (some ⟨bd, 0, none⟩)]) (ih l' k rfl hk4 h3 (xs ++ (dlk P (l' + 1) n i j k).flatMap (rawP B)) (m + (dlk P (l' + 1) n i j k).length) v' (by omega))) (Tks.c Tk.h (Tks.c Tk.h (Tks.c Tk.h (Tks.c Tk.h (Tks.c Tk.h (Tks.c Tk.h (Tks.c Tk.h Tks.n))))))) ?_
        rintro _ _ ⟨rfl, v2, rfl⟩
        (refine GO.nil ?_; refine kblock_n ?_; refine kblock_n ?_; refine kthen_n ?_; refine G.region ?_; refine GO.addi rfl rfl rfl (by omega) ?_; refine GO.move rfl rfl ?_; refine GO.nil ?_; refine kthen_n ?_)
        refine ⟨k + 1, v2, by omega, by omega, ?_, ?_⟩
        · (refine SubE.c rfl rfl ?_; refine SubE.c rfl rfl ?_; refine SubE.c rfl rfl ?_; refine SubE.c rfl rfl ?_; refine SubE.c rfl rfl ?_; refine SubE.c rfl rfl ?_; refine SubE.c rfl rfl ?_; refine SubE.c rfl rfl ?_; refine SubE.c rfl rfl ?_; exact SubE.n)
        · rw [hs4, List.flatMap_append, ← List.append_assoc, List.length_append, ← Nat.add_assoc]
          ((refine Sb.c Tk.h ?_; refine Sb.c Tk.h ?_; refine Sb.c Tk.h ?_; refine Sb.c Tk.h ?_; refine Sb.c Tk.h ?_; refine Sb.c Tk.h ?_; refine Sb.c Tk.h ?_); (exact Sb.r))
  · obtain rfl : k = 4 := by omega
    (refine G.exit ?_; refine kthen_x ?_; refine kthen_x ?_; refine kblock_x ?_)
    refine KF.n0 (Q := dnH bm bo bd b side D cnt (.slice (some ⟨bp, 0, none⟩) np cap) vl np nl P B (m + (dl P (l + 1) n i j).length) v' (xs ++ (dl P (l + 1) n i j).flatMap (rawP B))) rfl ⟨rfl, v', rfl⟩ ?_
    ((refine Sb.c Tk.h ?_; refine Sb.c Tk.h ?_; refine Sb.c Tk.h ?_; refine Sb.c Tk.h ?_; refine Sb.c Tk.h ?_; refine Sb.c Tk.h ?_; refine Sb.c Tk.h ?_); (exact Sb.r))
theorem down_spec {D np nl : Nat} {P : Nat → Nat → Nat} {ow : Nat → Nat × Nat × Nat} {low : Nat → Nat × Nat} (T : Tree D np nl P ow low) (B : Nat → Blk) (side cnt : Int) (b : Nat) (vp vl : Value) (bm bo bd : Nat) (hnp : np ≤ 1048576) (hnl : nl ≤ 1048576) :
    ∀ (l n i j : Nat), n < np → ow n = (l, i, j) → l ≤ 19 → i < 2 ^ (19 - l) → j < 2 ^ (19 - l) → DownOK D np nl P B side cnt b vp vl bm bo bd l n i j := by
  have hpw : ∀ l, 2 ^ (19 - l) ≤ 2 ^ 19 := fun l => Nat.pow_le_pow_right (by decide) (by omega)
  intro l
  induction l with
  | zero =>
    intro n i j hn ho hl hi hj
    have := hpw 0
    exact down_step T B side cnt b vp vl bm bo bd hnp hnl 0 n i j hn ho (by omega) (by omega) (by omega) fun l' k h => by omega
  | succ l ih =>
    intro n i j hn ho hl hi hj
    have h1 := hpw (l + 1)
    refine down_step T B side cnt b vp vl bm bo bd hnp hnl (l + 1) n i j hn ho (by omega) (by omega) (by omega) fun l' k hl' hk hne => ?_
    obtain rfl : l = l' := by omega
    obtain ⟨g1, g2⟩ := T.kid n k hn hk hne (by rw [ho]; exact Nat.succ_pos _)
    rw [ho] at g2
    have e : 2 ^ (19 - l) = 2 * 2 ^ (19 - (l + 1)) := by rw [show 19 - l = 19 - (l + 1) + 1 by omega, Nat.pow_succ]; omega
    exact ih _ _ _ g1 g2 (by omega) (by omega) (by omega)
end Go.Proofs.YtpfcgfgkmgnaaaaDoor
namespace Go.Proofs.YtpfcgfgkmgnaaaaDoor
open Go Go.Shelf
attribute [local irreducible] pt init exs pur sat own ImpS mat
theorem encP_one (B : Nat → Blk) (p : Nat × Nat × Nat) : ∀ u ∈ encP B p, u.oneCell' = true := by
  intro u hu
  simp only [encP, List.mem_append, List.mem_cons, List.not_mem_nil, or_false] at hu
  rcases hu with (rfl | rfl) | hu
  · rfl
  · rfl
  · exact cells_one _ u hu
theorem sortP_row (B : Nat → Blk) (xs : List (Nat × Nat × Nat)) (b n cap : Nat) (hn : n = xs.length) (hsz : n < 4611686018427387904) (rest : List Value) :
    Fn Tryd.prog 89 #[.slice (some ⟨b, 0, none⟩) n cap, .func (.func 90) #[] #[]] [pt b (row (xs.flatMap (encP B) ++ rest) 106)]
      (fun r Q => r = .tuple #[] ∧ ∃ ys : List (Nat × Nat × Nat), ys.Perm xs ∧ ys.Pairwise (fun x y => Go.Proofs.ltOf cmpP y x = false) ∧ Q = [pt b (row (ys.flatMap (encP B) ++ rest) 106)]) :=
  sort_fn sortP 66 (fun w => run_isAgg_UL (P := Tryd.prog) (t := 106) w) (fun w => run_sizeOf_SZ (P := Tryd.prog) (t := 106) w) (encP B) (encP_len B) (encP_one B) cmpP swoP 90 #[] (Cal.out (P := Tryd.prog)) (fun x y W => cmp_spec B x y W) 106 xs b n cap hn hsz rest
theorem sortP_own (B : Nat → Blk) (xs : List (Nat × Nat × Nat)) (v : Value) (n : Nat) (hn : n = xs.length) (hsz : n < 4611686018427387904) :
    Fn Tryd.prog 89 #[v, .func (.func 90) #[] #[]] [own 106 66 n v (xs.flatMap (encP B))]
      (fun r Q => r = .tuple #[] ∧ ∃ ys : List (Nat × Nat × Nat), ys.Perm xs ∧ ys.Pairwise (fun x y => Go.Proofs.ltOf cmpP y x = false) ∧ Q = [own 106 66 n v (ys.flatMap (encP B))]) := by
  intro F w s
  rcases own_shape s with ⟨rfl, rfl, hx, s'⟩ | ⟨b, cap, rest, rfl, hx, h1, h2, h3, s'⟩
  · obtain rfl : xs = [] := List.eq_nil_of_length_eq_zero hn.symm
    refine callsIn_wide.2 ((Go.Proofs.AnyF.slices_SortFunc_none sortP none 0 _ w).mono ?_)
    rintro e w' ⟨rfl, rfl⟩
    exact ⟨_, _, rfl, Same.refl _, ⟨rfl, [], List.Perm.refl _, List.Pairwise.nil, rfl⟩, s⟩
  · refine (sortP_row B xs b n cap hn hsz rest F w s').mono ?_
    rintro e w' ⟨_, _, rfl, sm, ⟨rfl, ys, hp, hs, rfl⟩, q⟩
    have hl : (ys.flatMap (encP B)).length = n * 66 := by rw [flat_len (encP_len B), hp.length_eq, hn]
    exact ⟨_, _, rfl, sm, ⟨rfl, ys, hp, hs, rfl⟩, own_in rfl hl h1 h2 (by rw [List.length_append, hl, ← h3, List.length_append, hx]) q⟩
end Go.Proofs.YtpfcgfgkmgnaaaaDoor
namespace Go.Proofs.YtpfcgfgkmgnaaaaDoor
open Go
attribute [local irreducible] G GO GR GT Fn FnV pt init exs pur sat own ImpS mat
theorem dl_small {D : Nat} {P : Nat → Nat → Nat} (hD : 2 ^ D ≤ 16) (B : Nat → Blk) : (dl P D 0 0 0).flatMap (rawP B) = (dl P D 0 0 0).flatMap (encP B) := by
  have : ∀ l : List (Nat × Nat × Nat), (∀ p ∈ l, p ∈ dl P D 0 0 0) → l.flatMap (rawP B) = l.flatMap (encP B) := by
    intro l
    induction l with
    | nil => intro _; rfl
    | cons p l ih =>
      intro h
      rw [List.flatMap_cons, List.flatMap_cons, ih fun q hq => h q (List.mem_cons_of_mem _ hq)]
      obtain ⟨h1, h2⟩ := dl_pos (h p (by simp))
      have hz : ∀ y, y / 2 ^ D = 0 → y < 16 := fun y hy => by
        rcases Nat.div_eq_zero_iff.1 hy with h0 | h0
        · exact absurd h0 (Nat.pos_iff_ne_zero.1 (Nat.two_pow_pos _))
        · omega
      unfold rawP encP
      rw [Nat.mod_eq_of_lt (hz _ h1), Nat.mod_eq_of_lt (hz _ h2)]
  exact this _ fun _ h => h
set_option maxHeartbeats 4000000 in
theorem all_mat (side b : Nat) (X : Nat → Nat → Bool) : Fn Tryd.prog 58 #[.pointer (some ⟨b, 0, none⟩)] [mat side X b] (fun r Q => Q = [own 106 66 (posL X).length r (allV X (posL X)), mat side X b]) := by
  refine Fn.mk2 Tryd.func58 rfl rfl fun w0 F => ?_
  (refine G.seq ?_; refine G.region ?_; refine GO.box rfl rfl rfl fun b1 => ?_; refine GO.assign rfl rfl ?_; refine GO.nil ?_; refine kthen_n ?_; refine G.seq ?_; refine G.region ?_; refine GO.alloc rfl fun b3 => ?_; refine GO.nil ?_; refine kthen_n ?_; refine G.seq ?_; refine G.seq ?_; refine G.region ?_; refine GO.load1 rfl rfl rfl (Tk.t Tk.h) rfl ?_)
  refine GO.call1 rfl rfl (is_mat side b X) (Tks.c (Tk.t (Tk.t Tk.h)) Tks.n) ?_
  rintro _ _ ⟨rfl, rfl⟩
  (refine GO.not rfl rfl ?_; refine GO.nil ?_; refine kthen_n ?_; refine G.condF rfl rfl ?_; refine G.skip ?_; refine kthen_n ?_; refine G.seq ?_; refine G.region ?_; refine GO.alloc rfl fun b4 => ?_; refine GO.nil ?_; refine kthen_n ?_; refine G.seq ?_; refine G.region ?_; refine GO.makeFunc3 rfl rfl rfl rfl ?_; refine GO.store1 rfl rfl rfl Tk.h (by decide) ?_; refine GO.nil ?_; refine kthen_n ?_; refine G.seq ?_)
  refine G.matOpen (Tk.t Tk.h) fun g hg => ?_
  have hpw := (show MatOK side X g.D g.np g.nl g.P g.B g.cnt from hg).pow
  have hdp := (show MatOK side X g.D g.np g.nl g.P g.B g.cnt from hg).dp
  obtain ⟨ow, low, T⟩ := (show MatOK side X g.D g.np g.nl g.P g.B g.cnt from hg).tree
  obtain ⟨D, np, nl, P, B, cn, vp, vl⟩ := g
  dsimp only [MG.pcs] at hpw hdp T ⊢
  refine G.ownNil (T := 106) (sz := 66) ?_
  skip
  refine G.draw 6 (by kernel_rfl) ?_
  ((apply GQ.step; focus (intro Z; refine GO.load1 rfl rfl rfl (Tk.t (Tk.t (Tk.t (Tk.t Tk.h)))) rfl ?_; exact KQ.z)); (apply GQ.step; focus (intro Z; refine GO.load1 rfl rfl rfl (Tk.t (Tk.t (Tk.t (Tk.t (Tk.t (Tk.t Tk.h)))))) rfl ?_; exact KQ.z)); (apply GQ.step; focus (intro Z; refine GO.nilCheck rfl rfl ?_; exact KQ.z)); (apply GQ.step; focus (intro Z; refine GO.fieldAddr rfl rfl ?_; exact KQ.z)); (apply GQ.step; focus (intro Z; refine GO.load1 rfl rfl rfl (Tk.t Tk.h) rfl ?_; exact KQ.z)); (apply GQ.step; focus (intro Z; refine GO.subi rfl rfl rfl (by omega) ?_; exact KQ.z)); refine GQ.nil ?_)
  have hD1 : D - 1 + 1 = D := by omega
  have h4 : 0 + 4 ^ (D - 1 + 1) ≤ 100000000 := by
    rw [hD1, Nat.zero_add]
    exact Nat.le_trans (Nat.pow_le_pow_right (by decide) hdp.2.1) (by decide)
  rw [show (D : Int) - 1 = ((D - 1 : Nat) : Int) by omega]
  refine GO.callV4 rfl rfl rfl rfl rfl rfl (FnV.of (args := [i64 ((0 : Nat) : Int), i64 ((D - 1 : Nat) : Int), i64 ((0 : Nat) : Int), i64 ((0 : Nat) : Int)]) (caps := [.pointer (some ⟨b1, 0, none⟩), .pointer (some ⟨b3, 0, none⟩), .pointer (some ⟨b4, 0, none⟩)]) (down_spec T B side cn b vp vl b1 b3 b4 (by omega) (by omega) (D - 1) 0 0 0 T.some T.root (by omega) (Nat.pow_pos (by decide)) (Nat.pow_pos (by decide)) [] 0 (.slice none 0 0) h4)) (Tks.c Tk.h (Tks.c (Tk.t (Tk.t (Tk.t (Tk.t Tk.h)))) (Tks.c (Tk.t (Tk.t (Tk.t (Tk.t Tk.h)))) (Tks.c (Tk.t (Tk.t (Tk.t Tk.h))) (Tks.c Tk.h (Tks.c Tk.h (Tks.c Tk.h Tks.n))))))) ?_
  rintro _ _ ⟨rfl, v2, rfl⟩
  rw [show D - 1 + 1 = D by omega, List.nil_append, Nat.zero_add (dl P D 0 0 0).length, dl_small hpw.1]
  (refine GO.nil ?_; refine kthen_n ?_; refine G.seq ?_; refine G.region ?_; refine GO.load1 rfl rfl rfl (Tk.t Tk.h) rfl ?_)
  have hlen : (dl P D 0 0 0).length < 4611686018427387904 := by have := dl_len (P := P) D 0 0 0; rw [hD1] at h4; omega
  refine GO.call2 rfl rfl rfl (sortP_own B (dl P D 0 0 0) v2 _ rfl hlen) (Tks.c Tk.h Tks.n) ?_
  rintro _ _ ⟨rfl, ys, hp, hs, rfl⟩
  have hys := (show MatOK side X D np nl P B cn from hg).all_sort hp hs
  rw [hys, (show MatOK side X D np nl P B cn from hg).all_enc, ← hp.length_eq, hys, List.length_map]
  refine GO.ownOne Tk.h fun hone => ?_
  (refine GO.nil ?_; refine kthen_n ?_; refine G.seq ?_; refine G.region ?_; refine GO.load1 rfl rfl rfl (Tk.t Tk.h) rfl ?_; refine GO.assign rfl rfl ?_; refine GO.nil ?_; refine kthen_n ?_; refine G.ret ?_)
  refine KF2.r1 rfl (RV.t rfl) rfl ?_
  exact ImpS.cons Tk.h (ImpS.mat ⟨D, np, nl, P, B, cn, vp, vl⟩ hg (ImpS.sb (by ((refine Sb.c (Tk.t (Tk.t (Tk.t Tk.h))) ?_; refine Sb.c (Tk.t (Tk.t (Tk.t Tk.h))) ?_; refine Sb.c (Tk.t (Tk.t (Tk.t Tk.h))) ?_); (refine Sb.s ?_; refine Sb.s ?_; refine Sb.s ?_; exact Sb.r)))))
theorem all_nil : Fn Tryd.prog 58 #[.pointer none] [] (fun r Q => r = .slice none 0 0 ∧ Q = []) := by
  refine Fn.mk Tryd.func58 rfl rfl fun w0 F => ?_
  (refine G.seq ?_; refine G.region ?_; refine GO.box rfl rfl rfl fun b1 => ?_; refine GO.assign rfl rfl ?_; refine GO.nil ?_; refine kthen_n ?_; refine G.seq ?_; refine G.region ?_; refine GO.alloc rfl fun b3 => ?_; refine GO.nil ?_; refine kthen_n ?_; refine G.seq ?_; refine G.seq ?_; refine G.region ?_; refine GO.load1 rfl rfl rfl (Tk.t Tk.h) rfl ?_)
  refine GO.call1 rfl rfl (is_nil) Tks.n ?_
  rintro _ _ ⟨rfl, rfl⟩
  (refine GO.not rfl rfl ?_; refine GO.nil ?_; refine kthen_n ?_; refine G.condT rfl rfl ?_; refine G.seq ?_; refine G.region ?_; refine GO.assign rfl rfl ?_; refine GO.nil ?_; refine kthen_n ?_; refine G.ret ?_; refine kthen_r ?_)
  refine KF.r1 rfl (RV.t rfl) ⟨rfl, rfl⟩ ?_
  (skip; (refine Sb.s ?_; refine Sb.s ?_; exact Sb.r))
end Go.Proofs.YtpfcgfgkmgnaaaaDoor
namespace Go.Proofs.YtpfcgfgkmgnaaaaDoor
open Go
attribute [local irreducible] G GO GR GT Fn FnV pt init exs pur sat own ImpS mat
/-- The cells of a list more. -/
def setL (X : Nat → Nat → Bool) (l : List (Int × Int)) : Nat → Nat → Bool := l.foldl (fun X p => addX X p.1.toNat p.2.toNat) X
theorem setL_succ {X : Nat → Nat → Bool} {l : List (Int × Int)} {k : Nat} {p : Int × Int} (h : l[k]? = some p) : setL X (l.take (k + 1)) = addX (setL X (l.take k)) p.1.toNat p.2.toNat := by
  unfold setL; rw [List.take_add_one, h, List.foldl_append]; rfl
def inL (side : Nat) (l : List (Int × Int)) : Bool := l.all fun p => inM side p.1 p.2
theorem inL_succ {side : Nat} {l : List (Int × Int)} {k : Nat} {p : Int × Int} (h : l[k]? = some p) (h1 : inL side (l.take k) = true) (h2 : inM side p.1 p.2 = true) : inL side (l.take (k + 1)) = true := by
  unfold inL at *; rw [List.take_add_one, h, List.all_append, h1]; simp [h2]
theorem inL_not {side : Nat} {l : List (Int × Int)} {k : Nat} {p : Int × Int} (h : l[k]? = some p) (h2 : inM side p.1 p.2 = false) : inL side l = false := by
  unfold inL; rw [List.all_eq_false]; exact ⟨p, List.mem_of_getElem? h, by simp [h2]⟩
theorem inM_nat {side m n : Nat} (hm : m < side) (hn : n < side) : inM side m n = true := by
  unfold inM; simp; omega
def mofR (side : Int) (l : List (Int × Int)) (q : HP) (r : Value) (Q : List HP) : Prop :=
  (∃ n b : Nat, side = n ∧ 1 ≤ n ∧ n ≤ 1024 ∧ inL n l = true ∧ r = .tuple #[.pointer (some ⟨b, 0, none⟩), i64 0] ∧ Q = [mat n (setL noX l) b, q]) ∨
  (¬ (1 ≤ side ∧ side ≤ 1024 ∧ inL side.toNat l = true) ∧ r = .tuple #[.pointer none, i64 2] ∧ Q = [q])
set_option maxHeartbeats 2000000 in
theorem mof_spec (side : Int) (q : HP) (v : Value) (l : List (Int × Int)) (hv : SlR q v l.length 2 (cellsV l)) (hl : l.length ≤ 9223372036854775807) : Fn Tryd.prog 39 #[i64 side, v] [q] (mofR side l q) := by
  obtain ⟨a, cap, rfl, _, hrd⟩ := hv
  refine Fn.mk Tryd.func39 rfl rfl fun w0 F => ?_
  (refine G.seq ?_; refine G.region ?_; refine GO.assign rfl rfl ?_; refine GO.assign rfl rfl ?_; refine GO.nil ?_; refine kthen_n ?_; refine G.seq ?_; refine G.region ?_; refine GO.move rfl rfl ?_)
  refine GO.call1 rfl rfl (new_spec side) Tks.n ?_
  rintro _ _ (⟨n, b, rfl, hn1, hn2, rfl, rfl⟩ | ⟨hno, rfl, rfl⟩)
  · (refine GO.move rfl rfl ?_; refine GO.extract rfl rfl rfl ?_; refine GO.extract rfl rfl rfl ?_; refine GO.assign rfl rfl ?_; refine GO.assign rfl rfl ?_; refine GO.nil ?_; refine kthen_n ?_; refine G.seq ?_; refine G.seq ?_; refine G.region ?_; refine GO.move rfl rfl ?_; refine GO.neF rfl rfl rfl rfl ?_; refine GO.nil ?_; refine kthen_n ?_; refine G.condF rfl rfl ?_; refine G.skip ?_; refine kthen_n ?_; refine G.seq ?_; refine G.seq ?_; refine G.region ?_; refine GO.move rfl rfl ?_; refine GO.lenS rfl rfl ?_; refine GO.move rfl rfl ?_; refine GO.nil ?_; refine kthen_n ?_; refine G.block ?_)
    refine G.loop (fun k : Nat => [(6, .pointer (some ⟨b, 0, none⟩)), (20, .slice a l.length cap), (21, i64 l.length), (22, i64 k)])
      (fun k => mat n (setL noX (l.take k)) b :: q :: F) (fun k => k ≤ l.length ∧ inL n (l.take k) = true) (fun k => l.length - k) 0 ⟨by omega, by simp [inL]⟩ ?_ ?_ ?_
    · (refine SubE.c rfl rfl ?_; refine SubE.c rfl rfl ?_; refine SubE.c rfl rfl ?_; refine SubE.c rfl rfl ?_; exact SubE.n)
    · ((refine Sb.c Tk.h ?_; refine Sb.c Tk.h ?_); (exact Sb.r))
    rintro k ⟨hk, hall⟩
    (refine G.seq ?_; refine G.region ?_; refine GO.lti rfl rfl rfl ?_; refine GO.nil ?_; refine kthen_n ?_; refine G.seq ?_)
    refine G.condD rfl (fun hlt => ?_) (fun hge => ?_)
    · have hlt' : k < l.length := by omega
      obtain ⟨b', o, rfl, hr⟩ := hrd (by omega)
      obtain ⟨p, hp⟩ : ∃ p, l[k]? = some p := ⟨l[k], by simp [hlt']⟩
      obtain ⟨h1, h2⟩ := cellsV_get hp
      have r1 : Rd q ⟨b', o + k * 2, none⟩ (i64 p.1) := hr _ _ h1
      have r2 : Rd q ⟨b', o + k * 2 + 1, none⟩ (i64 p.2) := hr _ _ h2
      (refine G.skip ?_; refine kthen_n ?_; refine G.seq ?_; refine G.block ?_; refine G.seq ?_; refine G.region ?_; refine GO.idxS rfl rfl rfl ⟨rfl, by omega⟩ ?_; refine GO.load2 rfl rfl rfl (Tk.t Tk.h) (by assumption) (by assumption) ?_; refine GO.alloc rfl fun b9 => ?_; refine GO.storeW rfl rfl Tk.h ⟨rfl, rfl⟩ (by simp [Value.oneCell']) ?_; refine GO.nil ?_; refine kthen_n ?_; refine G.seq ?_; refine G.region ?_; refine GO.move rfl rfl ?_; refine GO.fieldAddr rfl rfl ?_; refine GO.load1 rfl rfl rfl Tk.h rfl ?_; refine GO.fieldAddr rfl rfl ?_; refine GO.load1 rfl rfl rfl Tk.h rfl ?_)
      refine GO.call3 rfl rfl rfl rfl (set_mat n b (setL noX (l.take k)) p.1 p.2 hn2) (Tks.c (Tk.t Tk.h) Tks.n) ?_
      rintro _ _ (⟨m, m', e1, e2, g1, g2, rfl, rfl⟩ | ⟨hno, rfl, rfl⟩)
      · (refine GO.move rfl rfl ?_; refine GO.extract rfl rfl rfl ?_; refine GO.extract rfl rfl rfl ?_; refine GO.assign rfl rfl ?_; refine GO.assign rfl rfl ?_; refine GO.nil ?_; refine kthen_n ?_; refine G.seq ?_; refine G.region ?_; refine GO.move rfl rfl ?_; refine GO.neF rfl rfl rfl rfl ?_; refine GO.nil ?_; refine kthen_n ?_; refine G.condF rfl rfl ?_; refine G.skip ?_; refine kblock_n ?_; refine kthen_n ?_; refine G.region ?_; refine GO.addi rfl rfl rfl (by omega) ?_; refine GO.move rfl rfl ?_; refine GO.nil ?_; refine kthen_n ?_)
        refine ⟨k + 1, ⟨by omega, inL_succ hp hall (by rw [e1, e2]; exact inM_nat g1 g2)⟩, by omega, ?_, ?_⟩
        · (refine SubE.c rfl rfl ?_; refine SubE.c rfl rfl ?_; refine SubE.c rfl rfl ?_; refine SubE.c rfl rfl ?_; exact SubE.n)
        · rw [setL_succ hp, e1, e2]
          ((refine Sb.c Tk.h ?_; refine Sb.c (Tk.t Tk.h) ?_); (refine Sb.s ?_; exact Sb.r))
      · (refine GO.move rfl rfl ?_; refine GO.extract rfl rfl rfl ?_; refine GO.extract rfl rfl rfl ?_; refine GO.assign rfl rfl ?_; refine GO.assign rfl rfl ?_; refine GO.nil ?_; refine kthen_n ?_; refine G.seq ?_; refine G.region ?_; refine GO.move rfl rfl ?_; refine GO.nei rfl rfl rfl ?_; refine GO.nil ?_; refine kthen_n ?_; refine G.condT rfl rfl ?_; refine G.seq ?_; refine G.region ?_; refine GO.move rfl rfl ?_; refine GO.assign rfl rfl ?_; refine GO.assign rfl rfl ?_; refine GO.nil ?_; refine kthen_n ?_; refine G.ret ?_; refine kblock_r ?_; refine kthen_r ?_; refine kthen_r ?_; refine kblock_r ?_; refine kthen_r ?_)
        refine KF.r2 rfl (RV.t rfl) (RV.t rfl) (.inr ⟨fun h => ?_, rfl, rfl⟩) ?_
        · have := h.2.2
          rw [show ((n : Int)).toNat = n by omega, inL_not hp hno] at this
          cases this
        · ((refine Sb.c (Tk.t (Tk.t Tk.h)) ?_); (refine Sb.s ?_; refine Sb.s ?_; exact Sb.r))
    · obtain rfl : k = l.length := by omega
      rw [List.take_length] at hall ⊢
      (refine G.exit ?_; refine kthen_x ?_; refine kthen_x ?_; refine kblock_x ?_; refine kthen_n ?_; refine G.seq ?_; refine G.region ?_; refine GO.move rfl rfl ?_; refine GO.assign rfl rfl ?_; refine GO.assign rfl rfl ?_; refine GO.nil ?_; refine kthen_n ?_; refine G.ret ?_)
      refine KF.r2 rfl (RV.t rfl) (RV.t rfl) (.inl ⟨n, b, rfl, hn1, hn2, hall, rfl, rfl⟩) ?_
      ((refine Sb.c Tk.h ?_; refine Sb.c Tk.h ?_); (exact Sb.r))
  · (refine GO.move rfl rfl ?_; refine GO.extract rfl rfl rfl ?_; refine GO.extract rfl rfl rfl ?_; refine GO.assign rfl rfl ?_; refine GO.assign rfl rfl ?_; refine GO.nil ?_; refine kthen_n ?_; refine G.seq ?_; refine G.seq ?_; refine G.region ?_; refine GO.move rfl rfl ?_; refine GO.nei rfl rfl rfl ?_; refine GO.nil ?_; refine kthen_n ?_; refine G.condT rfl rfl ?_; refine G.seq ?_; refine G.region ?_; refine GO.move rfl rfl ?_; refine GO.assign rfl rfl ?_; refine GO.assign rfl rfl ?_; refine GO.nil ?_; refine kthen_n ?_; refine G.ret ?_; refine kthen_r ?_)
    refine KF.r2 rfl (RV.t rfl) (RV.t rfl) (.inr ⟨fun h => hno ⟨h.1, h.2.1⟩, rfl, rfl⟩) ?_
    ((refine Sb.c Tk.h ?_); (exact Sb.r))
end Go.Proofs.YtpfcgfgkmgnaaaaDoor
namespace Go.Proofs.YtpfcgfgkmgnaaaaDoor
open Go
attribute [local irreducible] G GO GR GT Fn FnV pt init exs pur sat own ImpS mat
section
variable {P : Program} {c : Cx} {A : Array Oper} {os : List Oper} {K : Kont} {L : Env} {H F : List HP}
theorem G.ownEither {el : TypeId} {sz n : Nat} {v : Value} {xs : List Value} {C : Code} (tk : Tk (own el sz n v xs) H F) (k0 : v = .slice none 0 0 → n = 0 → xs = [] → G P c C K L H) (k : ∀ b cap, v = .slice (some ⟨b, 0, none⟩) n cap → xs.length = n * sz → n ≤ maxLen → G P c C K L H) : G P c C K L H := by
  unfold G
  intro a w h
  obtain ⟨h1, h2, ds, h3, h4, h5⟩ := id h
  rcases own_shape (sat_perm (List.Perm.append_right _ tk) h5) with ⟨e1, e2, e3, _⟩ | ⟨b, cap, rest', e1, e2, e3, e4, _, _⟩
  · have := k0 e1 e2 e3; unfold G at this; exact this a w h
  · have := k b cap e1 e2 (by omega); unfold G at this; exact this a w h
end
theorem Sl.ofOwn {el : TypeId} {sz n b cap : Nat} {xs : List Value} (hx : xs.length = n * sz) : Sl (own el sz n (.slice (some ⟨b, 0, none⟩) n cap) xs) (.slice (some ⟨b, 0, none⟩) n cap) n sz xs :=
  ⟨_, _, rfl, hx, fun _ => ⟨b, 0, rfl, fun j u hj => by rw [Nat.zero_add]; exact Rd.own hj⟩⟩
set_option maxHeartbeats 2000000 in
theorem cloneP_spec (n : Nat) (v : Value) (xs : List Value) (h1 : ∀ u ∈ xs, u.oneCell' = true) (hn : ¬ 140737488355328 < n * 32) : Fn Tryd.prog 75 #[v] [own 128 4 n v xs] (fun r Q => Q = [own 128 4 n r xs, own 128 4 n v xs]) := by
  refine Fn.mk2 Tryd.func75 rfl rfl fun w0 F => ?_
  refine G.ownEither Tk.h (fun e1 e2 e3 => ?_) (fun b cap e1 e2 e3 => ?_)
  · subst e1 e2 e3
    refine G.ownNil (T := 128) (sz := 4) ?_
    (refine G.seq ?_; refine G.region ?_; refine GO.assign rfl rfl ?_; refine GO.nil ?_; refine kthen_n ?_; refine G.seq ?_; refine G.seq ?_; refine G.region ?_; refine GO.move rfl rfl ?_; refine GO.eqNilS rfl rfl ?_; refine GO.nil ?_; refine kthen_n ?_; refine G.condT rfl rfl ?_; refine G.seq ?_; refine G.region ?_; refine GO.assign rfl rfl ?_; refine GO.nil ?_; refine kthen_n ?_; refine G.ret ?_; refine kthen_r ?_)
    refine KF2.r1 rfl (RV.t rfl) rfl (ImpS.sb ?_)
    ((refine Sb.c Tk.h ?_; refine Sb.c Tk.h ?_); (exact Sb.r))
  · subst e1
    (refine G.seq ?_; refine G.region ?_; refine GO.assign rfl rfl ?_; refine GO.nil ?_; refine kthen_n ?_; refine G.seq ?_; refine G.seq ?_; refine G.region ?_; refine GO.move rfl rfl ?_; refine GO.eqNilS rfl rfl ?_; refine GO.nil ?_; refine kthen_n ?_; refine G.condF rfl rfl ?_; refine G.skip ?_; refine kthen_n ?_; refine G.seq ?_; refine G.region ?_)
    refine GO.buildSlice0 rfl fun v5 => ?_
    (refine GO.move rfl rfl ?_)
    refine GO.appendFrom (m := n) (q := own 128 4 n (.slice (some ⟨b, 0, none⟩) n cap) xs) rfl rfl rfl Tk.h Tk.h (Sl.ofOwn e2) h1 ⟨by decide, rfl⟩ (by rw [Nat.zero_add]; exact e3) (by omega) fun v7 => ?_
    rw [List.nil_append, Nat.zero_add n]
    (refine GO.assign rfl rfl ?_; refine GO.nil ?_; refine kthen_n ?_; refine G.ret ?_)
    refine KF2.r1 rfl (RV.t rfl) rfl (ImpS.sb ?_)
    ((refine Sb.c Tk.h ?_; refine Sb.c Tk.h ?_); (exact Sb.r))
set_option maxHeartbeats 2000000 in
theorem cloneL_spec (n : Nat) (v : Value) (xs : List Value) (h1 : ∀ u ∈ xs, u.oneCell' = true) (hn : ¬ 140737488355328 < n * 512) : Fn Tryd.prog 76 #[v] [own 104 64 n v xs] (fun r Q => Q = [own 104 64 n r xs, own 104 64 n v xs]) := by
  refine Fn.mk2 Tryd.func76 rfl rfl fun w0 F => ?_
  refine G.ownEither Tk.h (fun e1 e2 e3 => ?_) (fun b cap e1 e2 e3 => ?_)
  · subst e1 e2 e3
    refine G.ownNil (T := 104) (sz := 64) ?_
    (refine G.seq ?_; refine G.region ?_; refine GO.assign rfl rfl ?_; refine GO.nil ?_; refine kthen_n ?_; refine G.seq ?_; refine G.seq ?_; refine G.region ?_; refine GO.move rfl rfl ?_; refine GO.eqNilS rfl rfl ?_; refine GO.nil ?_; refine kthen_n ?_; refine G.condT rfl rfl ?_; refine G.seq ?_; refine G.region ?_; refine GO.assign rfl rfl ?_; refine GO.nil ?_; refine kthen_n ?_; refine G.ret ?_; refine kthen_r ?_)
    refine KF2.r1 rfl (RV.t rfl) rfl (ImpS.sb ?_)
    ((refine Sb.c Tk.h ?_; refine Sb.c Tk.h ?_); (exact Sb.r))
  · subst e1
    (refine G.seq ?_; refine G.region ?_; refine GO.assign rfl rfl ?_; refine GO.nil ?_; refine kthen_n ?_; refine G.seq ?_; refine G.seq ?_; refine G.region ?_; refine GO.move rfl rfl ?_; refine GO.eqNilS rfl rfl ?_; refine GO.nil ?_; refine kthen_n ?_; refine G.condF rfl rfl ?_; refine G.skip ?_; refine kthen_n ?_; refine G.seq ?_; refine G.region ?_)
    refine GO.buildSlice0 rfl fun v5 => ?_
    (refine GO.move rfl rfl ?_)
    refine GO.appendFrom (m := n) (q := own 104 64 n (.slice (some ⟨b, 0, none⟩) n cap) xs) rfl rfl rfl Tk.h Tk.h (Sl.ofOwn e2) h1 ⟨by decide, rfl⟩ (by rw [Nat.zero_add]; exact e3) (by omega) fun v7 => ?_
    rw [List.nil_append, Nat.zero_add n]
    (refine GO.assign rfl rfl ?_; refine GO.nil ?_; refine kthen_n ?_; refine G.ret ?_)
    refine KF2.r1 rfl (RV.t rfl) rfl (ImpS.sb ?_)
    ((refine Sb.c Tk.h ?_; refine Sb.c Tk.h ?_); (exact Sb.r))
theorem partsV_one (P : Nat → Nat → Nat) (np : Nat) : ∀ u ∈ partsV P np, u.oneCell' = true := by
  intro u hu
  unfold partsV grid at hu
  obtain ⟨n, _, hn⟩ := List.mem_flatMap.1 hu
  simp only [partR, List.mem_cons, List.not_mem_nil, or_false] at hn
  rcases hn with rfl | rfl | rfl | rfl <;> rfl
theorem leavesV_one (B : Nat → Blk) (nl : Nat) : ∀ u ∈ leavesV B nl, u.oneCell' = true := by
  intro u hu
  unfold leavesV grid at hu
  obtain ⟨n, _, hn⟩ := List.mem_flatMap.1 hu
  exact cells_one _ u hn
set_option maxHeartbeats 2000000 in
theorem copy_mat (side b : Nat) (X : Nat → Nat → Bool) : Fn Tryd.prog 44 #[.pointer (some ⟨b, 0, none⟩)] [mat side X b] (fun r Q => ∃ b', r = .pointer (some ⟨b', 0, none⟩) ∧ Q = [mat side X b', mat side X b]) := by
  refine Fn.mk2 Tryd.func44 rfl rfl fun w0 F => ?_
  (refine G.seq ?_; refine G.region ?_; refine GO.assign rfl rfl ?_; refine GO.nil ?_; refine kthen_n ?_; refine G.seq ?_; refine G.seq ?_; refine G.region ?_; refine GO.move rfl rfl ?_)
  refine GO.call1 rfl rfl (is_mat side b X) (Tks.c Tk.h Tks.n) ?_
  rintro _ _ ⟨rfl, rfl⟩
  (refine GO.not rfl rfl ?_; refine GO.nil ?_; refine kthen_n ?_; refine G.condF rfl rfl ?_; refine G.skip ?_; refine kthen_n ?_; refine G.seq ?_; refine G.region ?_; refine GO.move rfl rfl ?_; refine GO.nilCheck rfl rfl ?_)
  refine GO.matOpen Tk.h fun g hg => ?_
  have hpw := (show MatOK side X g.D g.np g.nl g.P g.B g.cnt from hg).pow
  obtain ⟨D, np, nl, P, B, cn, vp, vl⟩ := g
  dsimp only [MG.pcs] at hpw ⊢
  refine GO.ownOne (Tk.t Tk.h) fun honep => ?_
  refine GO.ownOne (Tk.t (Tk.t Tk.h)) fun honel => ?_
  have h5 : ∀ u ∈ [i64 side, i64 D, i64 cn, vp, vl], u.oneCell' = true := by
    intro u hu
    simp only [List.mem_cons, List.not_mem_nil, or_false] at hu
    rcases hu with rfl | rfl | rfl | rfl | rfl
    · rfl
    · rfl
    · rfl
    · exact honep
    · exact honel
  (refine GO.loadW rfl rfl rfl Tk.h rfl ?_; refine GO.alloc rfl fun b3 => ?_)
  refine GO.storeW rfl rfl Tk.h ⟨rfl, rfl⟩ h5 ?_
  (refine GO.nil ?_; refine kthen_n ?_; refine G.seq ?_; refine G.region ?_; refine GO.move rfl rfl ?_; refine GO.nilCheck rfl rfl ?_; refine GO.fieldAddr rfl rfl ?_; refine GO.load1 rfl rfl rfl (Tk.t Tk.h) rfl ?_)
  refine GO.call1 rfl rfl (cloneP_spec np vp (partsV P np) (partsV_one P np) (by omega)) (Tks.c (Tk.t (Tk.t Tk.h)) Tks.n) ?_
  rintro v1 _ rfl
  refine GO.ownOne Tk.h fun hone1 => ?_
  (refine GO.fieldAddr rfl rfl ?_; refine GO.store1 rfl rfl (by assumption) (Tk.t (Tk.t Tk.h)) (by simp) ?_; refine GO.nil ?_; refine kthen_n ?_; refine G.seq ?_; refine G.region ?_; refine GO.move rfl rfl ?_; refine GO.nilCheck rfl rfl ?_; refine GO.fieldAddr rfl rfl ?_; refine GO.load1 rfl rfl rfl (Tk.t (Tk.t (Tk.t Tk.h))) rfl ?_)
  refine GO.call1 rfl rfl (cloneL_spec nl vl (leavesV B nl) (leavesV_one B nl) (by omega)) (Tks.c (Tk.t (Tk.t (Tk.t (Tk.t Tk.h)))) Tks.n) ?_
  rintro v2 _ rfl
  refine GO.ownOne Tk.h fun hone2 => ?_
  (refine GO.fieldAddr rfl rfl ?_; refine GO.store1 rfl rfl (by assumption) (Tk.t (Tk.t Tk.h)) (by simp) ?_; refine GO.nil ?_; refine kthen_n ?_; refine G.seq ?_; refine G.region ?_; refine GO.assign rfl rfl ?_; refine GO.nil ?_; refine kthen_n ?_; refine G.ret ?_)
  refine KF2.r1 rfl (RV.t rfl) ⟨_, rfl, rfl⟩ ?_
  refine ImpS.mat ⟨D, np, nl, P, B, cn, v1, v2⟩ hg ?_
  refine ImpS.trans (ImpS.sb (M := matP b side D cn vp vl :: parP np vp P :: leaP nl vl B :: matP b3 side D cn v1 v2 :: parP np v1 P :: leaP nl v2 B :: F) ?_) (ImpS.trans (ImpS.mat ⟨D, np, nl, P, B, cn, vp, vl⟩ hg ImpS.refl) (ImpS.sb ?_))
  · ((refine Sb.c (Tk.t (Tk.t (Tk.t (Tk.t (Tk.t Tk.h))))) ?_; refine Sb.c (Tk.t (Tk.t (Tk.t (Tk.t Tk.h)))) ?_; refine Sb.c (Tk.t (Tk.t Tk.h)) ?_; refine Sb.c Tk.h ?_; refine Sb.c (Tk.t Tk.h) ?_; refine Sb.c Tk.h ?_); (exact Sb.r))
  · dsimp only [MG.pcs]
    ((refine Sb.c (Tk.t Tk.h) ?_; refine Sb.c (Tk.t Tk.h) ?_; refine Sb.c (Tk.t Tk.h) ?_; refine Sb.c Tk.h ?_); (exact Sb.r))
end Go.Proofs.YtpfcgfgkmgnaaaaDoor
namespace Go.Proofs.YtpfcgfgkmgnaaaaDoor
open Go
/-- A placed block's cells. -/
def qV (i j : Int) (C : Blk) : List Value := [i64 i, i64 j] ++ cells C
theorem qV_len (i j : Int) (C : Blk) : (qV i j C).length = 66 := by simp [qV, cells_len]
theorem zV_len : (List.replicate 2 (Value.int IntKind.i64 0) ++ List.replicate 64 (Value.int IntKind.u64 0)).length = 66 := by simp
theorem qV_one (i j : Int) (C : Blk) : ∀ u ∈ qV i j C, u.oneCell' = true := by
  intro u hu
  simp only [qV, List.mem_append, List.mem_cons, List.not_mem_nil, or_false] at hu
  rcases hu with (rfl | rfl) | hu
  · rfl
  · rfl
  · exact cells_one _ u hu
abbrev plV (X : Nat → Nat → Bool) (z : Nat) : List Value := qV ((z / 16 : Nat) : Int) ((z % 16 : Nat) : Int) (blkAt X (z / 16) (z % 16))
theorem allV_get {X : Nat → Nat → Bool} {l : List Nat} {k z j : Nat} (h : l[k]? = some z) (hj : j < 66) : (allV X l)[k * 66 + j]? = (plV X z)[j]? := by
  have := flat_get (enc := plV X) (k := 66) (fun z => qV_len _ _ _) hj l k
  rw [h] at this
  exact this
section
variable {P : Program} {c : Cx} {A : Array Oper} {rest os : List Oper} {K : Kont} {L : Env} {H F : List HP} {t : TypeId} {p : String} {e : Array Edge} {d : Nat}
/-- A placed block out of a list of them. -/
theorem GO.loadQV {el : TypeId} {n b cap o k z : Nat} {X : Nat → Nat → Bool} {l : List Nat} {ty : TypeId} {ds : TypeDesc} {x : Operand} [hu : UL P ty ds] [hs : SZ P ty 66] (hd : ds.isRow = true) (hN : Nat.blt d c.N = true) (hx : evl L x = some (.pointer (some ⟨b, o, none⟩))) (ho : o = 0 + k * 66) (hz : l[k]? = some z)
    (tk : Tk (own el 66 n (.slice (some ⟨b, 0, none⟩) n cap) (allV X l)) H F) (k : GO P c A rest K ((d, .agg (plV X z).toArray) :: L) H) : GO P c A (⟨some d, .load ty x, t, p, e, none⟩ :: rest) K L H :=
  GO.loadM (vs := plV X z) hd hN hx tk (qV_len _ _ _) (fun j u hj => by
    have hj66 : j < 66 := by have := (List.getElem?_eq_some_iff.1 hj).1; rw [qV_len] at this; exact this
    refine Rd.own ?_
    rw [ho, Nat.zero_add, allV_get hz hj66]
    exact hj) k
/-- A placed block's block. -/
theorem GO.loadB2 {b o : Nat} {i j : Int} {C : Blk} {T ty : TypeId} {ds : TypeDesc} {x : Operand} [hu : UL P ty ds] [hs : SZ P ty 64] (hd : ds.isRow = true) (hN : Nat.blt d c.N = true) (hx : evl L x = some (.pointer (some ⟨b, o, none⟩))) (ho : o = 2)
    (tk : Tk (pt b (row (qV i j C) T)) H F) (k : GO P c A rest K ((d, blk C) :: L) H) : GO P c A (⟨some d, .load ty x, t, p, e, none⟩ :: rest) K L H :=
  GO.loadM (vs := cells C) hd hN hx tk (cells_len _) (fun m u hm => by
    refine Rd.row ?_
    rw [ho, show 2 + m = m + 1 + 1 by omega]
    exact hm) k
/-- .. its place. -/
theorem GO.loadA2 {b o : Nat} {i j : Int} {C : Blk} {T ty : TypeId} {ds : TypeDesc} {x : Operand} [hu : UL P ty ds] [hs : SZ P ty 2] (hd : ds.isRow = true) (hN : Nat.blt d c.N = true) (hx : evl L x = some (.pointer (some ⟨b, o, none⟩))) (ho : o = 0)
    (tk : Tk (pt b (row (qV i j C) T)) H F) (k : GO P c A rest K ((d, .agg [i64 i, i64 j].toArray) :: L) H) : GO P c A (⟨some d, .load ty x, t, p, e, none⟩ :: rest) K L H :=
  GO.loadM (vs := [i64 i, i64 j]) hd hN hx tk rfl (fun m u hm => by
    refine Rd.row ?_
    subst ho
    match m, hm with
    | 0, hm => exact hm
    | 1, hm => exact hm) k
theorem G.matFact {side b : Nat} {X : Nat → Nat → Bool} {C : Code} (tk : Tk (mat side X b) H F) (k : (1 ≤ side ∧ side ≤ 1024) → (∀ r c, X r c = true → r < side ∧ c < side) → G P c C K L H) : G P c C K L H := by
  unfold G
  rintro a w h
  obtain ⟨h1, h2, ds, h3, h4, h5⟩ := id h
  obtain ⟨g, hg, _⟩ := sat_mat.1 (sat_perm (List.Perm.append_right _ tk) h5)
  have := k (show MatOK side X g.D g.np g.nl g.P g.B g.cnt from hg).sd (show MatOK side X g.D g.np g.nl g.P g.B g.cnt from hg).inn
  unfold G at this
  exact this a w h
end
theorem mat_side {side b : Nat} {X : Nat → Nat → Bool} : Rd (mat side X b) ⟨b, 0, none⟩ (i64 side) := fun l w s => by
  obtain ⟨g, _, s⟩ := sat_mat.1 s
  exact Rd.row rfl _ w s
attribute [local irreducible] G GO GR GT Fn FnV pt init exs pur sat own ImpS mat
/-- Blocks put into a matrix, one after the other. -/
def orL (fi fj : Nat → Nat) (fb : Nat → Blk) (Y : Nat → Nat → Bool) (l : List Nat) : Nat → Nat → Bool := l.foldl (fun Y z => orX Y (fi z) (fj z) (fb z)) Y
theorem orL_succ {fi fj : Nat → Nat} {fb : Nat → Blk} {Y : Nat → Nat → Bool} {l : List Nat} {k z : Nat} (h : l[k]? = some z) : orL fi fj fb Y (l.take (k + 1)) = orX (orL fi fj fb Y (l.take k)) (fi z) (fj z) (fb z) := by
  unfold orL; rw [List.take_add_one, h, List.foldl_append]; rfl
theorem orL_nil (fi fj : Nat → Nat) (fb : Nat → Blk) (Y : Nat → Nat → Bool) (l : List Nat) : orL fi fj fb Y (l.take 0) = Y := rfl
attribute [local irreducible] posL allV orL
set_option maxHeartbeats 2000000 in
theorem made_spec (side b : Nat) (X : Nat → Nat → Bool) (R : HP) (fv : Value) (fi fj : Nat → Nat) (fb : Nat → Blk) (hb : ∀ z ∈ posL X, ¬ 1073741824 ≤ fi z ∧ ¬ 1073741824 ≤ fj z ∧ FitB side (fi z) (fj z) (fb z))
    (hf : ∀ z ∈ posL X, FnV Tryd.prog fv [.agg (plV X z).toArray] [mat side X b, R] (fun r Q => r = .agg (qV (fi z) (fj z) (fb z)).toArray ∧ Q = [mat side X b, R])) :
    Fn Tryd.prog 84 #[.pointer (some ⟨b, 0, none⟩), fv] [mat side X b, R] (fun r Q => ∃ b', r = .pointer (some ⟨b', 0, none⟩) ∧ Q = [mat side (orL fi fj fb noX (posL X)) b', mat side X b, R]) := by
  refine Fn.mk Tryd.func84 rfl rfl fun w0 F => ?_
  refine G.matFact Tk.h fun hsd hin => ?_
  have hpl : ¬ 256 < (posL X).length := by have := posL_len X; omega
  have rs := mat_side (side := side) (b := b) (X := X)
  (refine G.seq ?_; refine G.region ?_; refine GO.assign rfl rfl ?_; refine GO.nil ?_; refine kthen_n ?_; refine G.seq ?_; refine G.region ?_; refine GO.move rfl rfl ?_; refine GO.nilCheck rfl rfl ?_; refine GO.fieldAddr rfl rfl ?_; refine GO.loadQ rfl rfl rfl Tk.h (by assumption) ?_)
  refine GO.call1 rfl rfl (new_spec (side : Int)) Tks.n ?_
  rintro _ _ (⟨n, b', hn, hn1, hn2, rfl, rfl⟩ | ⟨hno, rfl, rfl⟩)
  · obtain rfl : side = n := by omega
    clear hn
    (refine GO.move rfl rfl ?_; refine GO.extract rfl rfl rfl ?_; refine GO.extract rfl rfl rfl ?_; refine GO.assign rfl rfl ?_; refine GO.assign rfl rfl ?_; refine GO.nil ?_; refine kthen_n ?_; refine G.seq ?_; refine G.seq ?_; refine G.region ?_; refine GO.move rfl rfl ?_)
    refine GO.call1 rfl rfl (all_mat side b X) (Tks.c (Tk.t Tk.h) Tks.n) ?_
    rintro v19 _ rfl
    (refine GO.lenOwn rfl rfl Tk.h ?_; refine GO.move rfl rfl ?_; refine GO.nil ?_; refine kthen_n ?_; refine G.block ?_)
    refine G.loop (fun k : Nat => [(1, fv), (5, .pointer (some ⟨b', 0, none⟩)), (19, v19), (20, i64 (posL X).length), (21, i64 k)])
      (fun k => own 106 66 (posL X).length v19 (allV X (posL X)) :: mat side X b :: mat side (orL fi fj fb noX ((posL X).take k)) b' :: R :: F) (fun k => k ≤ (posL X).length) (fun k => (posL X).length - k) 0 (by omega) ?_ ?_ ?_
    · (refine SubE.c rfl rfl ?_; refine SubE.c rfl rfl ?_; refine SubE.c rfl rfl ?_; refine SubE.c rfl rfl ?_; refine SubE.c rfl rfl ?_; exact SubE.n)
    · rw [orL_nil]
      ((refine Sb.c Tk.h ?_; refine Sb.c Tk.h ?_; refine Sb.c Tk.h ?_; refine Sb.c Tk.h ?_); (exact Sb.r))
    rintro k hk
    (refine G.seq ?_; refine G.region ?_; refine GO.lti rfl rfl rfl ?_; refine GO.nil ?_; refine kthen_n ?_; refine G.seq ?_)
    refine G.condD rfl (fun hlt => ?_) (fun hge => ?_)
    · have hlt' : k < (posL X).length := by omega
      obtain ⟨z, hz⟩ : ∃ z, (posL X)[k]? = some z := ⟨(posL X)[k], by simp [hlt']⟩
      refine G.ownForm (by omega) Tk.h fun bl capl e2 hd1 hd2 hd3 => ?_
      subst e2
      have hzm := List.mem_of_getElem? hz
      obtain ⟨hb1, hb2, hb3⟩ := hb z hzm
      clear hlt'
      (refine G.skip ?_; refine kthen_n ?_; refine G.seq ?_; refine G.block ?_; refine G.seq ?_; refine G.region ?_)
      refine GO.idxS (j := k) rfl rfl rfl ⟨rfl, by omega⟩ ?_
      refine GO.loadQV rfl rfl rfl rfl hz Tk.h ?_
      (refine GO.alloc rfl fun b8 => ?_; refine GO.storeW rfl rfl Tk.h ⟨qV_len _ _ _, zV_len⟩ (qV_one _ _ _) ?_; refine GO.nil ?_; refine kthen_n ?_; refine G.seq ?_; refine G.region ?_; refine GO.move rfl rfl ?_; refine GO.loadW rfl rfl rfl Tk.h (qV_len _ _ _) ?_)
      refine GO.callV1 rfl rfl rfl (hf z hzm) (Tks.c (Tk.t (Tk.t Tk.h)) (Tks.c (Tk.t (Tk.t (Tk.t Tk.h))) Tks.n)) ?_
      rintro _ _ ⟨rfl, rfl⟩
      (refine GO.alloc rfl fun b9 => ?_; refine GO.storeW rfl rfl Tk.h ⟨qV_len _ _ _, zV_len⟩ (qV_one _ _ _) ?_; refine GO.nil ?_; refine kthen_n ?_; refine G.region ?_; refine GO.move rfl rfl ?_; refine GO.fieldAddr rfl rfl ?_; refine GO.fieldAddr rfl rfl ?_; refine GO.load1 rfl rfl rfl Tk.h rfl ?_; refine GO.fieldAddr rfl rfl ?_; refine GO.fieldAddr rfl rfl ?_; refine GO.load1 rfl rfl rfl Tk.h rfl ?_; refine GO.fieldAddr rfl rfl ?_; refine GO.loadB2 rfl rfl rfl rfl Tk.h ?_)
      refine GO.call4 rfl rfl rfl rfl rfl (or_mat side b' (fi z) (fj z) (orL fi fj fb noX ((posL X).take k)) (fb z) (by omega) (by omega) hb3) (Tks.c (Tk.t (Tk.t (Tk.t (Tk.t (Tk.t Tk.h))))) Tks.n) ?_
      rintro _ _ ⟨rfl, rfl⟩
      (refine GO.nil ?_; refine kblock_n ?_; refine kthen_n ?_; refine G.region ?_; refine GO.addi rfl rfl rfl (by omega) ?_; refine GO.move rfl rfl ?_; refine GO.nil ?_; refine kthen_n ?_)
      refine ⟨k + 1, by omega, by omega, ?_, ?_⟩
      · (refine SubE.c rfl rfl ?_; refine SubE.c rfl rfl ?_; refine SubE.c rfl rfl ?_; refine SubE.c rfl rfl ?_; refine SubE.c rfl rfl ?_; exact SubE.n)
      · rw [orL_succ hz]
        ((refine Sb.c (Tk.t (Tk.t (Tk.t (Tk.t (Tk.t Tk.h))))) ?_; refine Sb.c (Tk.t (Tk.t Tk.h)) ?_; refine Sb.c Tk.h ?_; refine Sb.c (Tk.t Tk.h) ?_); (refine Sb.s ?_; refine Sb.s ?_; exact Sb.r))
    · obtain rfl : k = (posL X).length := by omega
      rw [List.take_length]
      (refine G.exit ?_; refine kthen_x ?_; refine kthen_x ?_; refine kblock_x ?_; refine kthen_n ?_; refine G.seq ?_; refine G.region ?_; refine GO.move rfl rfl ?_; refine GO.assign rfl rfl ?_; refine GO.nil ?_; refine kthen_n ?_; refine G.ret ?_)
      refine KF.r1 rfl (RV.t rfl) ⟨b', rfl, rfl⟩ ?_
      ((refine Sb.c (Tk.t (Tk.t Tk.h)) ?_; refine Sb.c (Tk.t Tk.h) ?_; refine Sb.c (Tk.t Tk.h) ?_); (refine Sb.s ?_; exact Sb.r))
  · exact absurd (by omega) hno
end Go.Proofs.YtpfcgfgkmgnaaaaDoor
namespace Go.Proofs.YtpfcgfgkmgnaaaaDoor
open Go
/-! ## What is put together -/
theorem orL_at (fi fj : Nat → Nat) (fb : Nat → Blk) (r c : Nat) : ∀ (l : List Nat) (Y : Nat → Nat → Bool), orL fi fj fb Y l r c = (Y r c || l.any fun z => decide (r / 64 = fi z) && (decide (c / 64 = fj z) && (fb z (r % 64)).getLsbD (c % 64)))
  | [], Y => by simp [orL]
  | z :: l, Y => by
    show orL fi fj fb (orX Y (fi z) (fj z) (fb z)) l r c = _
    rw [orL_at fi fj fb r c l, List.any_cons, ← Bool.or_assoc]
    rfl
theorem orL_eq {fi fj : Nat → Nat} {fb : Nat → Blk} {X Z : Nat → Nat → Bool} (h1 : ∀ z, z ∈ posL X → ∀ r c, r / 64 = fi z → c / 64 = fj z → (fb z (r % 64)).getLsbD (c % 64) = true → Z r c = true)
    (h2 : ∀ r c, Z r c = true → ∃ z, z ∈ posL X ∧ r / 64 = fi z ∧ c / 64 = fj z ∧ (fb z (r % 64)).getLsbD (c % 64) = true) : orL fi fj fb noX (posL X) = Z := by
  funext r c
  rw [orL_at]
  show (false || _) = _
  rw [Bool.false_or, Bool.eq_iff_iff, List.any_eq_true]
  constructor
  · rintro ⟨z, hz, h⟩
    simp only [Bool.and_eq_true, decide_eq_true_eq] at h
    exact h1 z hz r c h.1 h.2.1 h.2.2
  · intro h
    obtain ⟨z, hz, e1, e2, e3⟩ := h2 r c h
    exact ⟨z, hz, by simp only [Bool.and_eq_true, decide_eq_true_eq]; exact ⟨e1, e2, e3⟩⟩
theorem posL_of {side : Nat} {X : Nat → Nat → Bool} (hs : side ≤ 1024) (hin : ∀ r c, X r c = true → r < side ∧ c < side) {r c : Nat} (h : X r c = true) : 16 * (r / 64) + c / 64 ∈ posL X ∧ (16 * (r / 64) + c / 64) / 16 = r / 64 ∧ (16 * (r / 64) + c / 64) % 16 = c / 64 := by
  have := hin r c h
  have e1 : (16 * (r / 64) + c / 64) / 16 = r / 64 := by omega
  have e2 : (16 * (r / 64) + c / 64) % 16 = c / 64 := by omega
  refine ⟨posL_mem.2 ⟨by omega, ?_⟩, e1, e2⟩
  rw [e1, e2, hasB_iff]
  exact ⟨r % 64, c % 64, Nat.mod_lt _ (by decide), Nat.mod_lt _ (by decide), by rw [blk_part, blk_part]; exact h⟩
/-- Turned over. -/
def flipX (X : Nat → Nat → Bool) : Nat → Nat → Bool := fun r c => X c r
/-- .. without another one's cells. -/
def diffX (X Y : Nat → Nat → Bool) : Nat → Nat → Bool := fun r c => X r c && !Y r c
theorem turn_fold {side : Nat} {X : Nat → Nat → Bool} (hs : side ≤ 1024) (hin : ∀ r c, X r c = true → r < side ∧ c < side) : orL (fun z => z % 16) (fun z => z / 16) (fun z => turnB (blkAt X (z / 16) (z % 16))) noX (posL X) = flipX X := by
  refine orL_eq (fun z hz r c h1 h2 h3 => ?_) (fun r c h => ?_)
  · rw [turnB_bit _ _ _ (Nat.mod_lt _ (by decide)), blkAt_bit _ _ _ _ _ (Nat.mod_lt _ (by decide)), ← h1, ← h2, blk_part, blk_part] at h3
    exact h3
  · obtain ⟨h1, h2, h3⟩ := posL_of hs hin (show X c r = true from h)
    refine ⟨_, h1, h3.symm, h2.symm, ?_⟩
    rw [turnB_bit _ _ _ (Nat.mod_lt _ (by decide)), h2, h3, blkAt_bit _ _ _ _ _ (Nat.mod_lt _ (by decide)), blk_part, blk_part]
    exact h
theorem less_fold {side : Nat} {X : Nat → Nat → Bool} (Y : Nat → Nat → Bool) (hs : side ≤ 1024) (hin : ∀ r c, X r c = true → r < side ∧ c < side) : orL (fun z => z / 16) (fun z => z % 16) (fun z => lessB (blkAt X (z / 16) (z % 16)) (blkAt Y (z / 16) (z % 16))) noX (posL X) = diffX X Y := by
  have e : ∀ (i j r c : Nat), c < 64 → (lessB (blkAt X i j) (blkAt Y i j) r).getLsbD c = (X (64 * i + r) (64 * j + c) && !Y (64 * i + r) (64 * j + c)) := fun i j r c hc => by
    unfold lessB
    rw [BitVec.getLsbD_and, BitVec.getLsbD_not, blkAt_bit _ _ _ _ _ hc, blkAt_bit _ _ _ _ _ hc]
    simp [hc]
  refine orL_eq (fun z hz r c h1 h2 h3 => ?_) (fun r c h => ?_)
  · rw [e _ _ _ _ (Nat.mod_lt _ (by decide)), ← h1, ← h2, blk_part, blk_part] at h3
    exact h3
  · have hX : X r c = true := by unfold diffX at h; simp only [Bool.and_eq_true] at h; exact h.1
    obtain ⟨h1, h2, h3⟩ := posL_of hs hin hX
    refine ⟨_, h1, h2.symm, h3.symm, ?_⟩
    rw [e _ _ _ _ (Nat.mod_lt _ (by decide)), h2, h3, blk_part, blk_part]
    exact h
attribute [local irreducible] G GO GR GT Fn FnV pt init exs pur sat own ImpS mat posL allV orL
theorem flip_fit {side z : Nat} {X : Nat → Nat → Bool} (hin : ∀ r c, X r c = true → r < side ∧ c < side) : FitB side (z % 16) (z / 16) (turnB (blkAt X (z / 16) (z % 16))) := fun r c hr hc hb => by
  rw [turnB_bit _ _ _ hc, blkAt_bit _ _ _ _ _ hr] at hb
  have := hin _ _ hb
  omega
end Go.Proofs.YtpfcgfgkmgnaaaaDoor
namespace Go.Proofs.YtpfcgfgkmgnaaaaDoor
open Go
theorem hasM_nat {side i j : Nat} (hi : 64 * i < side) (hj : 64 * j < side) : hasM side i j = true := by
  unfold hasM
  simp only [Bool.and_eq_true, decide_eq_true_eq]
  omega
theorem G.impS {P : Program} {c : Cx} {K : Kont} {L : Env} {H H' : List HP} {C : Code} (h : ImpS H H') (k : G P c C K L H') : G P c C K L H := G.imp h k
theorem GO.impS {P : Program} {c : Cx} {A : Array Oper} {os : List Oper} {K : Kont} {L : Env} {H H' : List HP} (h : ImpS H H') (k : GO P c A os K L H') : GO P c A os K L H := GO.imp h k
theorem ImpS.unflat {l M : List HP} : ImpS (star l :: M) (l ++ M) := fun _ _ s => by
  rw [List.append_assoc]
  exact sat_flat.1 s
attribute [local irreducible] G GO GR GT Fn FnV pt init exs pur sat own ImpS mat posL allV orL
set_option maxHeartbeats 2000000 in
theorem less1_spec (i j : Nat) (C : Blk) (side b bo bb : Nat) (X Y : Nat → Nat → Bool) (hi : 64 * i < side) (hj : 64 * j < side) :
    Fn Tryd.prog 85 #[.agg (qV i j C).toArray, .pointer (some ⟨bb, 0, none⟩)] [mat side X b, star [pt bb (row [.pointer (some ⟨bo, 0, none⟩)] 35), mat side Y bo]]
      (fun r Q => r = .agg (qV i j (lessB C (blkAt Y i j))).toArray ∧ Q = [mat side X b, star [pt bb (row [.pointer (some ⟨bo, 0, none⟩)] 35), mat side Y bo]]) := by
  have hh := hasM_nat hi hj
  clear hi hj
  refine Fn.mk2 Tryd.func85 rfl rfl fun w0 F => ?_
  refine G.take (Tk.t Tk.h) (G.flat ?_)
  (refine G.seq ?_; refine G.region ?_; refine GO.box rfl rfl rfl fun b2 => ?_; refine GO.alloc rfl fun b3 => ?_; refine GO.nil ?_; refine kthen_n ?_; refine G.seq ?_; refine G.region ?_; refine GO.load1 rfl rfl rfl (Tk.t (Tk.t Tk.h)) rfl ?_; refine GO.fieldAddr rfl rfl ?_; refine GO.fieldAddr rfl rfl ?_; refine GO.load1 rfl rfl rfl (Tk.t Tk.h) rfl ?_; refine GO.fieldAddr rfl rfl ?_; refine GO.fieldAddr rfl rfl ?_; refine GO.load1 rfl rfl rfl (Tk.t Tk.h) rfl ?_)
  refine GO.call3 rfl rfl rfl rfl (block_mat side bo Y i j) (Tks.c (Tk.t (Tk.t (Tk.t Tk.h))) Tks.n) ?_
  rintro _ _ ⟨rfl, rfl⟩
  rw [blockM_t hh]
  (refine GO.move rfl rfl ?_; refine GO.extract rfl rfl rfl ?_; refine GO.extract rfl rfl rfl ?_; refine GO.alloc rfl fun b4 => ?_)
  rw [cells_zero]
  (refine GO.storeW rfl rfl Tk.h ⟨cells_len _, cells_len _⟩ (cells_one _) ?_; refine GO.assign rfl rfl ?_; refine GO.nil ?_; refine kthen_n ?_; refine G.seq ?_)
  refine G.draw 7 (by kernel_rfl) ?_
  ((apply GQ.step; focus (intro Z; refine GO.fieldAddr rfl rfl ?_; exact KQ.z)); (apply GQ.step; focus (intro Z; refine GO.loadA2 rfl rfl rfl rfl (Tk.t (Tk.t (Tk.t Tk.h))) ?_; exact KQ.z)); (apply GQ.step; focus (intro Z; refine GO.fieldAddr rfl rfl ?_; exact KQ.z)); (apply GQ.step; focus (intro Z; refine GO.loadB2 rfl rfl rfl rfl (Tk.t (Tk.t (Tk.t Tk.h))) ?_; exact KQ.z)); (apply GQ.step; focus (intro Z; refine GO.loadW rfl rfl rfl Tk.h (cells_len _) ?_; exact KQ.z)))
  apply GQ.step; focus (intro Z; refine GO.call2 rfl rfl rfl (less_spec C (blkAt Y i j)) Tks.n ?_; rintro _ _ ⟨rfl, rfl⟩; exact KQ.z)
  apply GQ.step; focus (intro Z; refine GO.build2 rfl rfl rfl (by simp [blk, Value.cells, cells_len, putParts]) ?_; exact KQ.zv (v := .agg (qV i j (lessB C (blkAt Y i j))).toArray) (by simp [putParts, qV, blk, Value.cells]))
  refine GQ.nil ?_
  refine GO.storeW rfl rfl (Tk.t (Tk.t Tk.h)) ⟨qV_len _ _ _, by simp [cells_len]⟩ (qV_one _ _ _) ?_
  (refine GO.nil ?_; refine kthen_n ?_; refine G.ret ?_)
  refine KF2.r1 rfl (RV.cW rfl rfl (by (exact Tk.h)) (qV_len _ _ _)) ⟨rfl, rfl⟩ ?_
  refine ImpS.trans (ImpS.sb (M := pt bb (row [.pointer (some ⟨bo, 0, none⟩)] 35) :: mat side Y bo :: mat side X b :: F) ?_) ?_
  · ((refine Sb.c (Tk.t (Tk.t (Tk.t (Tk.t Tk.h)))) ?_; refine Sb.c (Tk.t (Tk.t Tk.h)) ?_; refine Sb.c (Tk.t (Tk.t (Tk.t Tk.h))) ?_); (refine Sb.s ?_; refine Sb.s ?_; refine Sb.s ?_; exact Sb.r))
  · exact ImpS.trans (ImpS.flat (k := [pt bb (row [.pointer (some ⟨bo, 0, none⟩)] 35), mat side Y bo]) (M := mat side X b :: F) ImpS.refl) (ImpS.sb (by ((refine Sb.c (Tk.t Tk.h) ?_; refine Sb.c Tk.h ?_); (exact Sb.r))))
theorem less_fit {side z : Nat} {X : Nat → Nat → Bool} {D : Blk} (hin : ∀ r c, X r c = true → r < side ∧ c < side) : FitB side (z / 16) (z % 16) (lessB (blkAt X (z / 16) (z % 16)) D) := fun r c hr hc hb => by
  unfold lessB at hb
  rw [BitVec.getLsbD_and, blkAt_bit _ _ _ _ _ hc] at hb
  simp only [Bool.and_eq_true] at hb
  have := hin _ _ hb.1
  omega
theorem posL_at {side z : Nat} {X : Nat → Nat → Bool} (hin : ∀ r c, X r c = true → r < side ∧ c < side) (hz : z ∈ posL X) : 64 * (z / 16) < side ∧ 64 * (z % 16) < side := by
  obtain ⟨r, c, hr, hc, hx⟩ := hasB_iff.1 (posL_mem.1 hz).2
  have := hin _ _ hx
  omega
def lessR (s s2 : Nat) (X Y : Nat → Nat → Bool) (b bo : Nat) (r : Value) (Q : List HP) : Prop :=
  (s = s2 ∧ ∃ b', r = .tuple #[.pointer (some ⟨b', 0, none⟩), i64 0] ∧ Q = [mat s (diffX X Y) b', mat s X b, mat s2 Y bo]) ∨ (s ≠ s2 ∧ r = .tuple #[.pointer none, i64 5] ∧ Q = [mat s X b, mat s2 Y bo])
set_option maxHeartbeats 2000000 in
theorem less_mat (s s2 b bo : Nat) (X Y : Nat → Nat → Bool) : Fn Tryd.prog 55 #[.pointer (some ⟨b, 0, none⟩), .pointer (some ⟨bo, 0, none⟩)] [mat s X b, mat s2 Y bo] (lessR s s2 X Y b bo) := by
  refine Fn.mk2 Tryd.func55 rfl rfl fun w0 F => ?_
  refine G.matFact Tk.h fun hsd hin => ?_
  have hfold := less_fold Y hsd.2 hin
  have rs := mat_side (side := s) (b := b) (X := X)
  have rs2 := mat_side (side := s2) (b := bo) (X := Y)
  (refine G.seq ?_; refine G.region ?_; refine GO.box rfl rfl rfl fun b3 => ?_; refine GO.assign rfl rfl ?_; refine GO.assign rfl rfl ?_; refine GO.nil ?_; refine kthen_n ?_; refine G.seq ?_; refine G.block ?_; refine G.seq ?_; refine G.region ?_; refine GO.move rfl rfl ?_)
  refine GO.call1 rfl rfl (is_mat s b X) (Tks.c (Tk.t Tk.h) Tks.n) ?_
  rintro _ _ ⟨rfl, rfl⟩
  (refine GO.not rfl rfl ?_; refine GO.move rfl rfl ?_; refine GO.gT rfl rfl rfl ?_; refine GO.load1 rfl rfl rfl (Tk.t Tk.h) rfl ?_; refine GO.gT rfl rfl rfl ?_)
  refine GO.call1 rfl rfl (is_mat s2 bo Y) (Tks.c (Tk.t (Tk.t Tk.h)) Tks.n) ?_
  rintro _ _ ⟨rfl, rfl⟩
  (refine GO.gT rfl rfl rfl ?_; refine GO.not rfl rfl ?_; refine GO.pickF rfl rfl rfl ?_; refine GO.assign rfl rfl ?_; refine GO.nil ?_; refine kthen_n ?_; refine G.condF rfl rfl ?_; refine G.seq ?_)
  refine G.draw 10 (by kernel_rfl) ?_
  ((apply GQ.step; focus (intro Z; refine GO.move rfl rfl ?_; exact KQ.z)); (apply GQ.step; focus (intro Z; refine GO.nilCheck rfl rfl ?_; exact KQ.z)); (apply GQ.step; focus (intro Z; refine GO.fieldAddr rfl rfl ?_; exact KQ.z)); (apply GQ.step; focus (intro Z; refine GO.loadQ rfl rfl rfl (Tk.t Tk.h) (by assumption) ?_; exact KQ.z)); (apply GQ.step; focus (intro Z; refine GO.load1 rfl rfl rfl (Tk.t (Tk.t Tk.h)) rfl ?_; exact KQ.z)); (apply GQ.step; focus (intro Z; refine GO.nilCheck rfl rfl ?_; exact KQ.z)); (apply GQ.step; focus (intro Z; refine GO.fieldAddr rfl rfl ?_; exact KQ.z)); (apply GQ.step; focus (intro Z; refine GO.loadQ rfl rfl rfl Tk.h (by assumption) ?_; exact KQ.z)); (apply GQ.step; focus (intro Z; refine GO.nei rfl rfl rfl ?_; exact KQ.z)); (apply GQ.step; focus (intro Z; refine GO.assign rfl rfl ?_; exact KQ.z)); refine GQ.nil ?_)
  (refine GO.nil ?_; refine kthen_n ?_)
  refine G.condD rfl (fun h1 => ?_) (fun h1 => ?_)
  · (refine G.seq ?_; refine G.region ?_; refine GO.assign rfl rfl ?_; refine GO.assign rfl rfl ?_; refine GO.nil ?_; refine kthen_n ?_; refine G.ret ?_; refine kblock_r ?_; refine kthen_r ?_)
    refine KF2.r2 rfl (RV.t rfl) (RV.t rfl) (.inr ⟨by omega, rfl, rfl⟩) (ImpS.sb ?_)
    ((refine Sb.c (Tk.t Tk.h) ?_; refine Sb.c Tk.h ?_); (refine Sb.s ?_; exact Sb.r))
  · obtain rfl : s = s2 := by omega
    (refine G.skip ?_; refine kblock_n ?_; refine kthen_n ?_; refine G.seq ?_; refine G.region ?_; refine GO.move rfl rfl ?_; refine GO.makeFunc1 rfl rfl ?_)
    refine GO.impS (H' := star [pt b3 (row [.pointer (some ⟨bo, 0, none⟩)] 35), mat s Y bo] :: mat s X b :: F) (ImpS.trans (ImpS.sb (M := pt b3 (row [.pointer (some ⟨bo, 0, none⟩)] 35) :: mat s Y bo :: mat s X b :: F) (by ((refine Sb.c (Tk.t (Tk.t Tk.h)) ?_; refine Sb.c Tk.h ?_; refine Sb.c Tk.h ?_); (exact Sb.r)))) (ImpS.flat (k := [pt b3 (row [.pointer (some ⟨bo, 0, none⟩)] 35), mat s Y bo]) (M := mat s X b :: F) ImpS.refl)) ?_
    refine GO.call2 rfl rfl rfl (made_spec s b X (star [pt b3 (row [.pointer (some ⟨bo, 0, none⟩)] 35), mat s Y bo]) (.func (.func 85) #[] #[.pointer (some ⟨b3, 0, none⟩)]) (fun z => z / 16) (fun z => z % 16) (fun z => lessB (blkAt X (z / 16) (z % 16)) (blkAt Y (z / 16) (z % 16))) (fun z hz => ⟨by have := (posL_mem.1 hz).1; omega, by have := (posL_mem.1 hz).1; omega, less_fit hin⟩) (fun z hz => FnV.of (args := [.agg (plV X z).toArray]) (caps := [.pointer (some ⟨b3, 0, none⟩)]) (less1_spec _ _ _ _ _ _ _ _ _ (posL_at hin hz).1 (posL_at hin hz).2))) (Tks.c (Tk.t Tk.h) (Tks.c Tk.h Tks.n)) ?_
    rintro _ _ ⟨b', rfl, rfl⟩
    rw [hfold]
    (refine GO.assign rfl rfl ?_; refine GO.assign rfl rfl ?_; refine GO.nil ?_; refine kthen_n ?_; refine G.ret ?_)
    refine KF2.r2 rfl (RV.t rfl) (RV.t rfl) (.inl ⟨rfl, b', rfl, rfl⟩) ?_
    refine ImpS.cons Tk.h (ImpS.cons Tk.h ?_)
    refine ImpS.trans ImpS.unflat (ImpS.sb ?_)
    ((refine Sb.c (Tk.t Tk.h) ?_); (refine Sb.s ?_; exact Sb.r))
end Go.Proofs.YtpfcgfgkmgnaaaaDoor
namespace Go.Proofs.YtpfcgfgkmgnaaaaDoor
open Go
theorem EqFs.pl {d : Nat} {f1 f2 : Field} {i j i' j' : Int} {C C' : Blk} (n1 : f1.name ≠ "_") (n2 : f2.name ≠ "_") (t1 : f1.type = 63) (t2 : f2.type = 104) (o1 : f1.offset = 0) (o2 : f2.offset = 2) :
    EqFs Tryd.prog (d + 2) (qV i j C) (qV i' j' C') [f1, f2] ((decide (i = i') && decide (j = j')) && eqBlk C C') := by
  have ht : ∀ D : Blk, (cells D).take 64 = cells D := fun D => List.take_of_length_le (by rw [cells_len]; exact Nat.le_refl _)
  refine ⟨.agg [i64 i, i64 j].toArray, .agg [i64 i', i64 j'].toArray, decide (i = i') && decide (j = j'), eqBlk C C', n1, ?_, ?_, ?_, ⟨.agg (cells C).toArray, .agg (cells C').toArray, eqBlk C C', true, n2, ?_, ?_, ?_, rfl, by simp⟩, rfl⟩
  · rw [t1, o1]; exact PartR.many (n := 2) rfl rfl
  · rw [t1, o1]; exact PartR.many (n := 2) rfl rfl
  · rw [t1]; exact EqR.cell
  · rw [t2, o2]; exact PartR.many (n := 64) rfl (ht C)
  · rw [t2, o2]; exact PartR.many (n := 64) rfl (ht C')
  · rw [t2]; exact EqR.blk
theorem EqR.pl {d : Nat} {i j i' j' : Int} {C C' : Blk} : EqR Tryd.prog (d + 3) 106 (.agg (qV i j C).toArray) (.agg (qV i' j' C').toArray) ((decide (i = i') && decide (j = j')) && eqBlk C C') :=
  EqR.struct (P := Tryd.prog) (d := d + 2) (t := 106) (l := qV i j C) (l' := qV i' j' C') (EqFs.pl (by decide) (by decide) rfl rfl rfl rfl)
theorem qV_inj {i j i' j' : Int} {C C' : Blk} : (((decide (i = i') && decide (j = j')) && eqBlk C C') = true) ↔ qV i j C = qV i' j' C' := by
  constructor
  · intro h
    simp only [Bool.and_eq_true, decide_eq_true_eq] at h
    obtain ⟨⟨rfl, rfl⟩, h⟩ := h
    unfold qV
    rw [cells_congr (eqBlk_e h)]
  · intro h
    unfold qV at h
    simp only [List.cons_append, List.nil_append, List.cons.injEq] at h
    obtain ⟨h1, h2, h3⟩ := h
    injection h1 with _ h1
    injection h2 with _ h2
    rw [eqBlk_t fun r hr => cells_inj h3 hr]
    simp [h1, h2]
theorem same_sub {X Y : Nat → Nat → Bool} {side : Nat} (hs : side ≤ 1024) (hin : ∀ r c, X r c = true → r < side ∧ c < side) (h : ∀ u, u ∈ (posL X).map (plV X) → u ∈ (posL Y).map (plV Y)) {r c : Nat} (hx : X r c = true) : Y r c = true := by
  obtain ⟨h1, h2, h3⟩ := posL_of hs hin hx
  obtain ⟨y, hy, e⟩ := List.mem_map.1 (h _ (List.mem_map_of_mem h1))
  have e' := (qV_inj (C := blkAt Y (y / 16) (y % 16))).2 e
  simp only [Bool.and_eq_true, decide_eq_true_eq] at e'
  obtain ⟨⟨e1, e2⟩, e3⟩ := e'
  have e1' : y / 16 = r / 64 := by omega
  have e2' : y % 16 = c / 64 := by omega
  have := eqBlk_e e3 (r % 64) (Nat.mod_lt _ (by decide))
  rw [h2, h3, e1', e2'] at this
  have hb := congrArg (fun x => x.getLsbD (c % 64)) this
  simp only [blkAt_bit _ _ _ _ _ (Nat.mod_lt c (show 0 < 64 by decide)), blk_part] at hb
  rw [hb]; exact hx
theorem same_iff {X Y : Nat → Nat → Bool} {side : Nat} (hs : side ≤ 1024) (hin : ∀ r c, X r c = true → r < side ∧ c < side) (hin2 : ∀ r c, Y r c = true → r < side ∧ c < side) : (posL X).map (plV X) = (posL Y).map (plV Y) ↔ X = Y := by
  constructor
  · intro h
    funext r c
    rw [Bool.eq_iff_iff]
    exact ⟨same_sub hs hin fun u hu => h ▸ hu, same_sub hs hin2 fun u hu => h ▸ hu⟩
  · rintro rfl; rfl
attribute [local irreducible] G GO GR GT Fn FnV pt init exs pur sat own ImpS mat posL allV orL
set_option maxHeartbeats 2000000 in
theorem equal_spec (X Y : Nat → Nat → Bool) (l m : List Nat) (v u : Value) (hl : ¬ 256 < l.length) (hm : ¬ 256 < m.length) : Fn Tryd.prog 57 #[v, u] [own 106 66 l.length v (allV X l), own 106 66 m.length u (allV Y m)]
    (fun r Q => ∃ bb, r = .bool bb ∧ (bb = true ↔ l.map (plV X) = m.map (plV Y)) ∧ Q = [own 106 66 l.length v (allV X l), own 106 66 m.length u (allV Y m)]) := by
  refine Fn.mk Tryd.func57 rfl rfl fun w0 F => ?_
  (refine G.seq ?_; refine G.region ?_; refine GO.assign rfl rfl ?_; refine GO.nil ?_; refine kthen_n ?_; refine G.seq ?_; refine G.seq ?_; refine G.region ?_; refine GO.move rfl rfl ?_; refine GO.lenOwn rfl rfl Tk.h ?_; refine GO.move rfl rfl ?_; refine GO.lenOwn rfl rfl (Tk.t Tk.h) ?_; refine GO.nei rfl rfl rfl ?_; refine GO.nil ?_; refine kthen_n ?_)
  refine G.condD rfl (fun h1 => ?_) (fun h1 => ?_)
  · (refine G.seq ?_; refine G.region ?_; refine GO.assign rfl rfl ?_; refine GO.nil ?_; refine kthen_n ?_; refine G.ret ?_; refine kthen_r ?_)
    refine KF.r1 rfl (RV.t rfl) ⟨false, rfl, ⟨fun h => Bool.noConfusion h, fun h => absurd (congrArg List.length h) (by rw [List.length_map, List.length_map]; omega)⟩, rfl⟩ ?_
    ((refine Sb.c Tk.h ?_; refine Sb.c Tk.h ?_); (exact Sb.r))
  · have hlm : l.length = m.length := by omega
    (refine G.skip ?_; refine kthen_n ?_; refine G.seq ?_; refine G.seq ?_; refine G.region ?_; refine GO.move rfl rfl ?_; refine GO.lenOwn rfl rfl Tk.h ?_; refine GO.move rfl rfl ?_; refine GO.nil ?_; refine kthen_n ?_; refine G.block ?_)
    refine G.loop (fun k : Nat => [(0, v), (1, u), (12, i64 l.length), (13, i64 k)])
      (fun _ => own 106 66 l.length v (allV X l) :: own 106 66 m.length u (allV Y m) :: F) (fun k => k ≤ l.length ∧ ∀ i, i < k → (l.map (plV X))[i]? = (m.map (plV Y))[i]?) (fun k => l.length - k) 0 ⟨by omega, fun i hi => by omega⟩ ?_ ?_ ?_
    · (refine SubE.c rfl rfl ?_; refine SubE.c rfl rfl ?_; refine SubE.c rfl rfl ?_; refine SubE.c rfl rfl ?_; exact SubE.n)
    · ((refine Sb.c Tk.h ?_; refine Sb.c Tk.h ?_); (exact Sb.r))
    rintro k ⟨hk, hsm⟩
    (refine G.seq ?_; refine G.region ?_; refine GO.lti rfl rfl rfl ?_; refine GO.nil ?_; refine kthen_n ?_; refine G.seq ?_)
    refine G.condD rfl (fun hlt => ?_) (fun hge => ?_)
    · refine G.ownForm (by omega) Tk.h fun b1 c1 e1 _ _ _ => ?_
      refine G.ownForm (by omega) (Tk.t Tk.h) fun b2 c2 e2 _ _ _ => ?_
      subst e1 e2
      obtain ⟨z, hz⟩ : ∃ z, l[k]? = some z := ⟨l[k]'(by omega), by rw [List.getElem?_eq_getElem]⟩
      obtain ⟨y, hy⟩ : ∃ y, m[k]? = some y := ⟨m[k]'(by omega), by rw [List.getElem?_eq_getElem]⟩
      (refine G.skip ?_; refine kthen_n ?_; refine G.seq ?_; refine G.block ?_; refine G.seq ?_; refine G.region ?_; refine GO.move rfl rfl ?_; refine GO.assign rfl rfl ?_; refine GO.nil ?_; refine kthen_n ?_; refine G.seq ?_)
      refine G.draw 9 (by kernel_rfl) ?_
      ((apply GQ.step; focus (intro Z; refine GO.move rfl rfl ?_; exact KQ.z)); (apply GQ.step; focus (intro Z; refine GO.move rfl rfl ?_; exact KQ.z)); (apply GQ.step; focus (intro Z; refine GO.idxS rfl rfl rfl ⟨rfl, by omega⟩ ?_; exact KQ.z)); (apply GQ.step; focus (intro Z; refine GO.loadQV rfl rfl rfl rfl (by assumption) Tk.h ?_; exact KQ.z)); (apply GQ.step; focus (intro Z; refine GO.move rfl rfl ?_; exact KQ.z)); (apply GQ.step; focus (intro Z; refine GO.move rfl rfl ?_; exact KQ.z)); (apply GQ.step; focus (intro Z; refine GO.idxS rfl rfl rfl ⟨rfl, by omega⟩ ?_; exact KQ.z)); (apply GQ.step; focus (intro Z; refine GO.loadQV rfl rfl rfl rfl (by assumption) (Tk.t Tk.h) ?_; exact KQ.z)))
      apply GQ.step; focus (intro Z; refine GO.neqA EqR.pl rfl rfl rfl ?_; exact KQ.z)
      refine GQ.nil ?_
      have hq := qV_inj (i := ((z / 16 : Nat) : Int)) (j := ((z % 16 : Nat) : Int)) (i' := ((y / 16 : Nat) : Int)) (j' := ((y % 16 : Nat) : Int)) (C := blkAt X (z / 16) (z % 16)) (C' := blkAt Y (y / 16) (y % 16))
      generalize ((decide (((z / 16 : Nat) : Int) = ((y / 16 : Nat) : Int)) && decide (((z % 16 : Nat) : Int) = ((y % 16 : Nat) : Int))) && eqBlk (blkAt X (z / 16) (z % 16)) (blkAt Y (y / 16) (y % 16))) = bb at hq ⊢
      cases bb with
      | true =>
        have hzy : plV X z = plV Y y := hq.1 rfl
        clear hq
        (refine GO.nil ?_; refine kthen_n ?_; refine G.condF rfl rfl ?_; refine G.skip ?_; refine kblock_n ?_; refine kthen_n ?_; refine G.region ?_; refine GO.addi rfl rfl rfl (by omega) ?_; refine GO.move rfl rfl ?_; refine GO.nil ?_; refine kthen_n ?_)
        refine ⟨k + 1, ⟨by omega, fun i hi => ?_⟩, by omega, ?_, ?_⟩
        · rcases Nat.lt_succ_iff_lt_or_eq.1 hi with h | h
          · exact hsm i h
          · rw [h, List.getElem?_map, List.getElem?_map, hz, hy]; exact congrArg some hzy
        · (refine SubE.c rfl rfl ?_; refine SubE.c rfl rfl ?_; refine SubE.c rfl rfl ?_; refine SubE.c rfl rfl ?_; exact SubE.n)
        · ((refine Sb.c Tk.h ?_; refine Sb.c Tk.h ?_); (exact Sb.r))
      | false =>
        have hne : l.map (plV X) ≠ m.map (plV Y) := fun h => by
          have h2 := congrArg (fun x => x[k]?) h
          simp only [List.getElem?_map, hz, hy, Option.map_some] at h2
          have := hq.2 (Option.some.inj h2)
          cases this
        clear hq
        (refine GO.nil ?_; refine kthen_n ?_; refine G.condT rfl rfl ?_; refine G.seq ?_; refine G.region ?_; refine GO.assign rfl rfl ?_; refine GO.nil ?_; refine kthen_n ?_; refine G.ret ?_; refine kblock_r ?_; refine kthen_r ?_; refine kthen_r ?_; refine kblock_r ?_; refine kthen_r ?_)
        refine KF.r1 rfl (RV.t rfl) ⟨false, rfl, ⟨fun h => Bool.noConfusion h, fun h => absurd h hne⟩, rfl⟩ ?_
        ((refine Sb.c Tk.h ?_; refine Sb.c Tk.h ?_); (exact Sb.r))
    · (refine G.exit ?_; refine kthen_x ?_; refine kthen_x ?_; refine kblock_x ?_; refine kthen_n ?_; refine G.seq ?_; refine G.region ?_; refine GO.assign rfl rfl ?_; refine GO.nil ?_; refine kthen_n ?_; refine G.ret ?_)
      refine KF.r1 rfl (RV.t rfl) ⟨true, rfl, ⟨fun _ => ?_, fun _ => rfl⟩, rfl⟩ ?_
      · apply List.ext_getElem?
        intro i
        by_cases hi : i < k
        · exact hsm i hi
        · rw [List.getElem?_eq_none (by rw [List.length_map]; omega), List.getElem?_eq_none (by rw [List.length_map]; omega)]
      · ((refine Sb.c Tk.h ?_; refine Sb.c Tk.h ?_); (exact Sb.r))
/-! ## Same -/
set_option maxHeartbeats 2000000 in
theorem same_mat (s s2 b bo : Nat) (X Y : Nat → Nat → Bool) : Fn Tryd.prog 21 #[.pointer (some ⟨b, 0, none⟩), .pointer (some ⟨bo, 0, none⟩)] [mat s X b, mat s2 Y bo] (fun r Q => ∃ bb, r = .bool bb ∧ (bb = true ↔ s = s2 ∧ X = Y) ∧ Q = [mat s X b, mat s2 Y bo]) := by
  refine Fn.mk Tryd.func21 rfl rfl fun w0 F => ?_
  refine G.matFact Tk.h fun hsd hin => ?_
  refine G.matFact (Tk.t Tk.h) fun hsd2 hin2 => ?_
  have hp1 : ¬ 256 < (posL X).length := by have := posL_len X; omega
  have hp2 : ¬ 256 < (posL Y).length := by have := posL_len Y; omega
  have rs := mat_side (side := s) (b := b) (X := X)
  have rs2 := mat_side (side := s2) (b := bo) (X := Y)
  (refine G.seq ?_; refine G.region ?_; refine GO.assign rfl rfl ?_; refine GO.nil ?_; refine kthen_n ?_; refine G.seq ?_; refine G.seq ?_; refine G.region ?_; refine GO.move rfl rfl ?_)
  refine GO.call1 rfl rfl (is_mat s b X) (Tks.c Tk.h Tks.n) ?_
  rintro _ _ ⟨rfl, rfl⟩
  (refine GO.not rfl rfl ?_; refine GO.move rfl rfl ?_; refine GO.gT rfl rfl rfl ?_; refine GO.move rfl rfl ?_; refine GO.gT rfl rfl rfl ?_)
  refine GO.call1 rfl rfl (is_mat s2 bo Y) (Tks.c (Tk.t Tk.h) Tks.n) ?_
  rintro _ _ ⟨rfl, rfl⟩
  (refine GO.gT rfl rfl rfl ?_; refine GO.not rfl rfl ?_; refine GO.pickF rfl rfl rfl ?_; refine GO.nil ?_; refine kthen_n ?_; refine G.condF rfl rfl ?_; refine G.skip ?_; refine kthen_n ?_; refine G.seq ?_)
  refine G.drawT 15 26624 [mat s X b, mat s2 Y bo] F (by kernel_rfl) (keys_of rfl) (ImpS.sb (by ((refine Sb.c (Tk.t Tk.h) ?_; refine Sb.c Tk.h ?_); (exact Sb.r)))) ?_
  cases h1 : decide ((s : Int) = (s2 : Int)) with
  | true =>
    have hss : s = s2 := by have := of_decide_eq_true h1; omega
    ((apply GR.step rfl; focus (intro Z; refine GO.move rfl rfl ?_; exact KQ.z)); (apply GR.step rfl; focus (intro Z; refine GO.nilCheck rfl rfl ?_; exact KQ.z)); (apply GR.step rfl; focus (intro Z; refine GO.fieldAddr rfl rfl ?_; exact KQ.z)); (apply GR.step rfl; focus (intro Z; refine GO.loadQ rfl rfl rfl Tk.h (by assumption) ?_; exact KQ.z)); (apply GR.step rfl; focus (intro Z; refine GO.move rfl rfl ?_; exact KQ.z)); (apply GR.step rfl; focus (intro Z; refine GO.nilCheck rfl rfl ?_; exact KQ.z)); (apply GR.step rfl; focus (intro Z; refine GO.fieldAddr rfl rfl ?_; exact KQ.z)); (apply GR.step rfl; focus (intro Z; refine GO.loadQ rfl rfl rfl (Tk.t Tk.h) (by assumption) ?_; exact KQ.z)); (apply GR.step rfl; focus (intro Z; refine GO.eqi rfl rfl rfl ?_; exact KQ.z)); (apply GR.step rfl; focus (intro Z; refine GO.move rfl rfl ?_; exact KQ.z)); (apply GR.step rfl; focus (intro Z; refine GO.gT rfl rfl (by assumption) ?_; refine GO.move rfl rfl ?_; exact KQ.z)); refine GR.skip rfl ?_; (apply GR.step rfl; focus (intro Z; refine GO.gT rfl rfl (by assumption) ?_; refine GO.move rfl rfl ?_; exact KQ.z)); refine GR.skip rfl ?_; refine GR.skip rfl ?_; refine GR.nil ?_)
    (repeat refine GT.skip rfl ?_)
    refine GT.step rfl ?_
    refine GO.gT rfl rfl h1 ?_
    refine GO.call1 rfl rfl (all_mat s b X) (Tks.c Tk.h Tks.n) ?_
    rintro v32 _ rfl
    refine GO.nil ⟨rfl, _, own 106 66 (posL X).length v32 (allV X (posL X)) :: F, rfl, ImpS.sb (by ((refine Sb.c (Tk.t Tk.h) ?_; refine Sb.c (Tk.t Tk.h) ?_; refine Sb.c Tk.h ?_); (exact Sb.r))), ?_⟩
    (repeat refine GT.skip rfl ?_)
    refine GT.step rfl ?_
    refine GO.gT rfl rfl h1 ?_
    refine GO.call1 rfl rfl (all_mat s2 bo Y) (Tks.c (Tk.t Tk.h) Tks.n) ?_
    rintro v34 _ rfl
    refine GO.nil ⟨rfl, _, own 106 66 (posL Y).length v34 (allV Y (posL Y)) :: own 106 66 (posL X).length v32 (allV X (posL X)) :: F, rfl, ImpS.sb (by ((refine Sb.c (Tk.t (Tk.t Tk.h)) ?_; refine Sb.c (Tk.t Tk.h) ?_; refine Sb.c Tk.h ?_; refine Sb.c Tk.h ?_); (exact Sb.r))), ?_⟩
    (repeat refine GT.skip rfl ?_)
    refine GT.step rfl ?_
    refine GO.gT rfl rfl h1 ?_
    refine GO.call2 rfl rfl rfl (equal_spec X Y (posL X) (posL Y) v32 v34 hp1 hp2) (Tks.c (Tk.t (Tk.t (Tk.t Tk.h))) (Tks.c (Tk.t (Tk.t Tk.h)) Tks.n)) ?_
    rintro _ _ ⟨bb, rfl, hbb, rfl⟩
    refine GO.nil ⟨rfl, _, own 106 66 (posL Y).length v34 (allV Y (posL Y)) :: own 106 66 (posL X).length v32 (allV X (posL X)) :: F, rfl, ImpS.sb (by ((refine Sb.c (Tk.t (Tk.t Tk.h)) ?_; refine Sb.c (Tk.t (Tk.t Tk.h)) ?_; refine Sb.c (Tk.t Tk.h) ?_; refine Sb.c Tk.h ?_); (exact Sb.r))), ?_⟩
    refine GT.nil ?_
    (refine GO.pickTa rfl rfl (by assumption) rfl ?_; refine GO.assign rfl rfl ?_; refine GO.nil ?_; refine kthen_n ?_; refine G.ret ?_)
    refine KF.r1 rfl (RV.t rfl) ⟨bb, rfl, ?_, rfl⟩ ?_
    · rw [hbb, same_iff hsd.2 hin (hss ▸ hin2)]
      exact ⟨fun h => ⟨hss, h⟩, fun h => h.2⟩
    · ((refine Sb.c Tk.h ?_; refine Sb.c Tk.h ?_); (refine Sb.s ?_; refine Sb.s ?_; exact Sb.r))
  | false =>
    have hss : ¬ s = s2 := by have := of_decide_eq_false h1; omega
    ((apply GR.step rfl; focus (intro Z; refine GO.move rfl rfl ?_; exact KQ.z)); (apply GR.step rfl; focus (intro Z; refine GO.nilCheck rfl rfl ?_; exact KQ.z)); (apply GR.step rfl; focus (intro Z; refine GO.fieldAddr rfl rfl ?_; exact KQ.z)); (apply GR.step rfl; focus (intro Z; refine GO.loadQ rfl rfl rfl Tk.h (by assumption) ?_; exact KQ.z)); (apply GR.step rfl; focus (intro Z; refine GO.move rfl rfl ?_; exact KQ.z)); (apply GR.step rfl; focus (intro Z; refine GO.nilCheck rfl rfl ?_; exact KQ.z)); (apply GR.step rfl; focus (intro Z; refine GO.fieldAddr rfl rfl ?_; exact KQ.z)); (apply GR.step rfl; focus (intro Z; refine GO.loadQ rfl rfl rfl (Tk.t Tk.h) (by assumption) ?_; exact KQ.z)); (apply GR.step rfl; focus (intro Z; refine GO.eqi rfl rfl rfl ?_; exact KQ.z)); (apply GR.step rfl; focus (intro Z; refine GO.move rfl rfl ?_; exact KQ.z)); (apply GR.step rfl; focus (intro Z; refine GO.gF rfl rfl rfl (by assumption) ?_; exact KQ.z)); refine GR.skip rfl ?_; (apply GR.step rfl; focus (intro Z; refine GO.gF rfl rfl rfl (by assumption) ?_; exact KQ.z)); refine GR.skip rfl ?_; refine GR.skip rfl ?_; refine GR.nil ?_)
    (repeat refine GT.skip rfl ?_)
    refine GT.step rfl ?_
    refine GO.gF rfl rfl rfl h1 ?_
    refine GO.nil ⟨rfl, _, F, rfl, ImpS.sb (by ((refine Sb.c Tk.h ?_; refine Sb.c Tk.h ?_); (exact Sb.r))), ?_⟩
    (repeat refine GT.skip rfl ?_)
    refine GT.step rfl ?_
    refine GO.gF rfl rfl rfl h1 ?_
    refine GO.nil ⟨rfl, _, F, rfl, ImpS.sb (by ((refine Sb.c Tk.h ?_; refine Sb.c Tk.h ?_); (exact Sb.r))), ?_⟩
    (repeat refine GT.skip rfl ?_)
    refine GT.step rfl ?_
    refine GO.gF rfl rfl rfl h1 ?_
    refine GO.nil ⟨rfl, _, F, rfl, ImpS.sb (by ((refine Sb.c Tk.h ?_; refine Sb.c Tk.h ?_); (exact Sb.r))), ?_⟩
    refine GT.nil ?_
    (refine GO.pickFa rfl rfl (by assumption) rfl ?_; refine GO.assign rfl rfl ?_; refine GO.nil ?_; refine kthen_n ?_; refine G.ret ?_)
    refine KF.r1 rfl (RV.t rfl) ⟨false, rfl, ⟨fun h => Bool.noConfusion h, fun h => absurd h.1 hss⟩, rfl⟩ ?_
    ((refine Sb.c Tk.h ?_; refine Sb.c Tk.h ?_); (exact Sb.r))
end Go.Proofs.YtpfcgfgkmgnaaaaDoor
namespace Go.Proofs.YtpfcgfgkmgnaaaaDoor
open Go
theorem cnt_one {x : BitVec 64} {c : Nat} (h : ∀ i, i < 64 → x.getLsbD i = decide (i = c)) : ∀ n, n ≤ 64 → cnt x n = if c < n then 1 else 0
  | 0, _ => by simp [cnt]
  | n + 1, hn => by
    simp only [cnt]
    rw [cnt_one h n (by omega), h n (by omega)]
    by_cases e : n = c
    · subst e; simp
    · rw [decide_eq_false e]
      by_cases e2 : c < n
      · have e3 : c < n + 1 := by omega
        simp [e2, e3]
      · have e3 : ¬ c < n + 1 := by omega
        simp [e2, e3]
theorem lenB_single {A : Blk} {r c : Nat} (hc : c < 64) (h : ∀ r' c', c' < 64 → (A r').getLsbD c' = (decide (r' = r) && decide (c' = c))) : ∀ n, lenB A n = if r < n then 1 else 0
  | 0 => rfl
  | n + 1 => by
    simp only [lenB]
    rw [lenB_single hc h n, ones_cnt]
    by_cases e : n = r
    · subst e
      rw [cnt_one (c := c) (fun i hi => by rw [h n i hi]; simp) 64 (Nat.le_refl _), if_pos hc]; simp
    · rw [cnt_none fun i hi => by rw [h n i hi, decide_eq_false e]; rfl]
      by_cases e2 : r < n
      · rw [if_pos e2, if_pos (by omega)]
      · rw [if_neg e2, if_neg (by omega)]
theorem cntX_add {X : Nat → Nat → Bool} {i j : Nat} (hi : i < 1024) (hj : j < 1024) (h : X i j = false) : cntX (addX X i j) = cntX X + 1 := by
  rw [← addX_or, cntX_or X (by omega) (by omega), lenB_single (r := i % 64) (c := j % 64) (Nat.mod_lt _ (by decide)), if_pos (Nat.mod_lt _ (by decide))]
  intro r c hc
  have hb : (bitB zeroB (i % 64) (j % 64) r).getLsbD c = (decide (r = i % 64) && decide (c = j % 64)) := by
    unfold bitB updB
    by_cases e : r = i % 64
    · rw [if_pos e, decide_eq_true e, Bool.true_and, BitVec.getLsbD_or, getLsbD_bit _ _ hc]
      simp [zeroB]
    · rw [if_neg e, decide_eq_false e]; simp [zeroB]
  unfold lessB
  rw [BitVec.getLsbD_and, hb, BitVec.getLsbD_not, blkAt_bit _ _ _ _ _ hc]
  by_cases e : r = i % 64 ∧ c = j % 64
  · obtain ⟨rfl, rfl⟩ := e
    rw [blk_part, blk_part, h]; simp [hc]
  · by_cases e1 : r = i % 64
    · have e2 : ¬ c = j % 64 := fun h => e ⟨e1, h⟩
      simp [e2]
    · simp [e1]
theorem cntX_le (X : Nat → Nat → Bool) : cntX X ≤ 16 * (16 * (64 * 127)) := sumTo_le (fun i => sumTo_le (fun j => lenB_le _ 64) 16) 16
/-- The cells as put takes them. -/
def takeL (side : Nat) (l : List (Int × Int)) : List (Int × Int) := l.map fun p => ((p.1 % 1024) % side, (p.2 % 1024) % side)
def putX (side : Nat) (l : List (Int × Int)) : Nat → Nat → Bool := setL noX (takeL side l)
theorem putX_succ {side : Nat} {l : List (Int × Int)} {k : Nat} {p : Int × Int} (h : l[k]? = some p) : putX side (l.take (k + 1)) = addX (putX side (l.take k)) ((p.1 % 1024) % side).toNat ((p.2 % 1024) % side).toNat := by
  unfold putX takeL
  rw [List.map_take, List.map_take, setL_succ (by rw [List.getElem?_map, h]; rfl)]
def sizeN (n : Int) : Nat := (n % 1024 + 1).toNat
theorem sizeN_at (n : Int) : ((sizeN n : Nat) : Int) = n % 1024 + 1 ∧ 1 ≤ sizeN n ∧ sizeN n ≤ 1024 := by unfold sizeN; omega
attribute [local irreducible] G GO GR GT Fn FnV pt init exs pur sat own ImpS mat posL allV orL
theorem getM_t {X : Nat → Nat → Bool} {side i j : Nat} (hi : i < side) (hj : j < side) : getM X side i j = .tuple #[.bool (X i j), i64 0] := by
  unfold getM; rw [inM_nat hi hj]; rfl
end Go.Proofs.YtpfcgfgkmgnaaaaDoor
namespace Go.Proofs.YtpfcgfgkmgnaaaaDoor
open Go
def exM : List (Int × Int) := [(0, 99), (70, 3)]
def exX : Nat → Nat → Bool := setL noX exM
theorem exX_at : exX 0 99 = true := by decide
theorem exX_len : cntX exX = 2 := by
  show cntX (addX (addX noX 0 99) 70 3) = 2
  rw [cntX_add (by decide) (by decide) (by decide), cntX_add (by decide) (by decide) (by decide), cntX_no]
theorem exM_in : inL 100 exM = true := by decide
theorem exX_def : setL noX exM = exX := rfl
theorem exG1 : getM exX 100 0 99 = .tuple #[.bool true, i64 0] := by
  unfold getM
  rw [if_pos (by decide), show exX (0 : Int).toNat (99 : Int).toNat = true from exX_at]
theorem exG2 : getM exX 100 0 100 = .tuple #[.bool false, i64 2] := by
  unfold getM
  rw [if_neg (by decide)]
attribute [local irreducible] G GO GR GT Fn FnV pt init exs pur sat own ImpS mat posL allV orL exX
end Go.Proofs.YtpfcgfgkmgnaaaaDoor
namespace Go.Proofs.YtpfcgfgkmgnaaaaDoor
open Go
theorem perm_j4 {a o b q : HP} {J F : List HP} : (a :: o :: b :: q :: (J ++ F)).Perm ((J ++ [q]) ++ (a :: o :: b :: F)) := by
  rw [List.append_assoc]
  refine List.Perm.trans (List.perm_append_comm_assoc [a, o, b, q] J F) (List.Perm.append_left J ?_)
  exact List.perm_middle (a := q) (l₁ := [a, o, b]) (l₂ := F)
theorem perm_j4a {a o b q : HP} {J F : List HP} : ((J ++ [q]) ++ (a :: o :: b :: F)).Perm ((o :: b :: q :: (J ++ F)) ++ [a]) := perm_j4.symm.trans (List.perm_append_singleton a _).symm
theorem end3 {o b q : HP} {J F : List HP} : ImpS (o :: b :: q :: (J ++ F)) ((J ++ ([q] ++ [star [o, b]])) ++ F) :=
  ImpS.trans (ImpS.flat (k := [o, b]) (M := q :: (J ++ F)) ImpS.refl) (ImpS.sb ⟨[], by rw [List.append_nil]; exact (List.Perm.swap _ _ _).trans perm_jq2⟩)
theorem end4 {a o b q : HP} {J F : List HP} : ImpS ((J ++ [q]) ++ (a :: o :: b :: F)) ((J ++ ([q] ++ [star [o, b]])) ++ F) := ImpS.trans (ImpS.sb ⟨[a], perm_j4a⟩) end3
abbrev bkM (X : Nat → Nat → Bool) (b3 : Nat) (v : Value) : HP := star [pt b3 (row [v] 101), own 106 66 (posL X).length v (allV X (posL X))]
abbrev bkA (X : Nat → Nat → Bool) (z : Nat) : List Value := [.agg #[i64 ((z / 16 : Nat) : Int), i64 ((z % 16 : Nat) : Int)], blk (blkAt X (z / 16) (z % 16))]
attribute [local irreducible] G GO GR GT Fn FnV pt init exs pur sat own ImpS mat posL allV orL
theorem blocks_mat (side b : Nat) (X : Nat → Nat → Bool) : Fn Tryd.prog 81 #[.pointer (some ⟨b, 0, none⟩)] [mat side X b] (fun r Q => ∃ b3 v, r = .func (.func 104) #[] #[.pointer (some ⟨b3, 0, none⟩)] ∧ Q = [bkM X b3 v, mat side X b]) := by
  refine Fn.mk2 Tryd.func81 rfl rfl fun w0 F => ?_
  (refine G.seq ?_; refine G.region ?_; refine GO.assign rfl rfl ?_; refine GO.nil ?_; refine kthen_n ?_; refine G.seq ?_; refine G.region ?_; refine GO.move rfl rfl ?_)
  refine GO.call1 rfl rfl (all_mat side b X) (Tks.c Tk.h Tks.n) ?_
  rintro v5 _ rfl
  refine GO.ownOne Tk.h fun hone => ?_
  (refine GO.alloc rfl fun b3 => ?_; refine GO.store1 rfl rfl (by assumption) Tk.h (by decide) ?_; refine GO.nil ?_; refine kthen_n ?_; refine G.seq ?_; refine G.region ?_; refine GO.makeFunc1 rfl rfl ?_; refine GO.assign rfl rfl ?_; refine GO.nil ?_; refine kthen_n ?_; refine G.ret ?_)
  refine KF2.r1 rfl (RV.t rfl) ⟨_, v5, rfl, rfl⟩ ?_
  refine ImpS.trans (ImpS.sb (M := pt b3 (row [v5] 101) :: own 106 66 (posL X).length v5 (allV X (posL X)) :: mat side X b :: F) ?_) ?_
  · ((refine Sb.c Tk.h ?_; refine Sb.c Tk.h ?_; refine Sb.c Tk.h ?_); (exact Sb.r))
  · exact ImpS.flat (k := [pt b3 (row [v5] 101), own 106 66 (posL X).length v5 (allV X (posL X))]) (M := mat side X b :: F) ImpS.refl
set_option maxHeartbeats 2000000 in
theorem blocks1_spec (q : HP) (X : Nat → Nat → Bool) (bx : Nat) (v y : Value) (J S : Nat → List HP)
    (hy : ∀ i u, ((posL X).map (bkA X))[i]? = some u → FnV Tryd.prog y u (J i ++ [q]) (fun v Q => (v = .bool true ∧ Q = J (i + 1) ++ [q]) ∨ (v = .bool false ∧ Q = S i ++ [q]))) :
    Fn Tryd.prog 104 #[y, .pointer (some ⟨bx, 0, none⟩)] (J 0 ++ ([q] ++ [bkM X bx v])) (fun _ Q => Q = J (posL X).length ++ ([q] ++ [bkM X bx v]) ∨ ∃ i, i < (posL X).length ∧ Q = S i ++ ([q] ++ [bkM X bx v])) := by
  have hpl : ¬ 256 < (posL X).length := by have := posL_len X; omega
  refine Fn.mk2 Tryd.func104 rfl rfl fun w0 F => ?_
  refine G.mem (H' := q :: bkM X bx v :: (J 0 ++ F)) ⟨[], by simpa using perm_jq2.symm⟩ ?_
  refine G.take (Tk.t Tk.h) (G.flat ?_)
  (refine G.seq ?_; refine G.region ?_; refine GO.load1 rfl rfl rfl Tk.h rfl ?_; refine GO.lenOwn rfl rfl (Tk.t Tk.h) ?_; refine GO.move rfl rfl ?_; refine GO.nil ?_; refine kthen_n ?_; refine G.block ?_)
  refine G.loop (fun k : Nat => [(0, y), (5, v), (6, i64 (posL X).length), (7, i64 k)])
    (fun k => pt bx (row [v] 101) :: own 106 66 (posL X).length v (allV X (posL X)) :: q :: (J k ++ F)) (fun k => k ≤ (posL X).length) (fun k => (posL X).length - k) 0 (by omega) ?_ ?_ ?_
  · (refine SubE.c rfl rfl ?_; refine SubE.c rfl rfl ?_; refine SubE.c rfl rfl ?_; refine SubE.c rfl rfl ?_; exact SubE.n)
  · exact Sb.r
  rintro k hk
  (refine G.seq ?_; refine G.region ?_; refine GO.lti rfl rfl rfl ?_; refine GO.nil ?_; refine kthen_n ?_; refine G.seq ?_)
  refine G.condD rfl (fun hlt => ?_) (fun hge => ?_)
  · have hlt' : k < (posL X).length := by omega
    obtain ⟨z, hz⟩ : ∃ z, (posL X)[k]? = some z := ⟨(posL X)[k], by simp [hlt']⟩
    refine G.ownForm (by omega) (Tk.t Tk.h) fun bl capl e2 hd1 hd2 hd3 => ?_
    subst e2
    have hyk := hy k (bkA X z) (by rw [List.getElem?_map, hz]; rfl)
    (refine G.skip ?_; refine kthen_n ?_; refine G.seq ?_; refine G.block ?_; refine G.seq ?_; refine G.region ?_)
    refine GO.idxS (j := k) rfl rfl rfl ⟨rfl, by omega⟩ ?_
    refine GO.loadQV rfl rfl rfl rfl hz (Tk.t Tk.h) ?_
    (refine GO.alloc rfl fun b4 => ?_; refine GO.storeW rfl rfl Tk.h ⟨qV_len _ _ _, zV_len⟩ (qV_one _ _ _) ?_; refine GO.nil ?_; refine kthen_n ?_; refine G.seq ?_; refine G.region ?_; refine GO.move rfl rfl ?_; refine GO.fieldAddr rfl rfl ?_; refine GO.loadA2 rfl rfl rfl rfl Tk.h ?_; refine GO.fieldAddr rfl rfl ?_; refine GO.loadB2 rfl rfl rfl rfl Tk.h ?_)
    refine GO.callV2 rfl rfl rfl rfl hyk (F := pt b4 (row (plV X z) 106) :: pt bx (row [.slice (some ⟨bl, 0, none⟩) (posL X).length capl] 101) :: own 106 66 (posL X).length (.slice (some ⟨bl, 0, none⟩) (posL X).length capl) (allV X (posL X)) :: F) perm_j4 ?_
    rintro _ _ (⟨rfl, rfl⟩ | ⟨rfl, rfl⟩)
    · (refine GO.not rfl rfl ?_; refine GO.nil ?_; refine kthen_n ?_; refine G.condF rfl rfl ?_; refine G.skip ?_; refine kblock_n ?_; refine kthen_n ?_; refine G.region ?_; refine GO.addi rfl rfl rfl (by omega) ?_; refine GO.move rfl rfl ?_; refine GO.nil ?_; refine kthen_n ?_)
      refine ⟨k + 1, by omega, by omega, ?_, ?_⟩
      · (refine SubE.c rfl rfl ?_; refine SubE.c rfl rfl ?_; refine SubE.c rfl rfl ?_; refine SubE.c rfl rfl ?_; exact SubE.n)
      · exact ⟨_, perm_j4a⟩
    · (refine GO.not rfl rfl ?_; refine GO.nil ?_; refine kthen_n ?_; refine G.condT rfl rfl ?_; refine G.ret ?_; refine kblock_r ?_; refine kthen_r ?_; refine kthen_r ?_; refine kblock_r ?_)
      exact KF2.r0 rfl (.inr ⟨k, by omega, rfl⟩) end4
  · obtain rfl : k = (posL X).length := by omega
    (refine G.exit ?_; refine kthen_x ?_; refine kthen_x ?_; refine kblock_x ?_)
    exact KF2.n0 rfl (.inl rfl) end3
theorem blocks_seq (q : HP) (X : Nat → Nat → Bool) (bx : Nat) (v : Value) : SeqOK Tryd.prog (.func (.func 104) #[] #[.pointer (some ⟨bx, 0, none⟩)]) ((posL X).map (bkA X)) [q] [bkM X bx v] :=
  ⟨_, _, rfl, inferInstance, fun y J S hy => by rw [List.length_map]; exact blocks1_spec q X bx v y J S hy⟩
end Go.Proofs.YtpfcgfgkmgnaaaaDoor
namespace Go.Proofs.YtpfcgfgkmgnaaaaDoor
open Go
def lastP (l : List Nat) (k : Nat) : Int := ((l.take k).getLast?.map fun z => (z : Int)).getD (-1)
theorem lastP_succ {l : List Nat} {k z : Nat} (h : l[k]? = some z) : lastP l (k + 1) = z := by
  unfold lastP; rw [List.take_add_one, h]; simp
theorem lastP_lt {l : List Nat} (hl : l.Pairwise (fun a b => a < b)) {k z : Nat} (h : l[k]? = some z) : lastP l k < z := by
  unfold lastP
  cases hg : (l.take k).getLast? with
  | none => simp; omega
  | some y =>
    obtain ⟨hy, he⟩ := List.getLast?_eq_some_iff.1 hg
    show (y : Int) < z
    have h1 : (l.take (k + 1)).Pairwise (fun a b => a < b) := hl.sublist (List.take_sublist _ _)
    rw [List.take_add_one, h, he, List.append_assoc] at h1
    have h2 : y < z := by simpa [Option.toList] using (List.pairwise_append.1 h1).2.1
    omega
theorem posL_up {X : Nat → Nat → Bool} : (posL X).Pairwise (fun a b => a < b) := List.Pairwise.filter _ List.pairwise_lt_range
theorem part_new {X : Nat → Nat → Bool} {i z r c : Nat} (hz : (posL X)[i]? = some z) (hr : r < 64) (hc : c < 64) : orL (fun z => z / 16) (fun z => z % 16) (fun z => blkAt X (z / 16) (z % 16)) noX ((posL X).take i) (64 * (z / 16) + r) (64 * (z % 16) + c) = false := by
  rw [orL_at]
  show (false || _) = false
  rw [Bool.false_or, List.any_eq_false]
  intro y hy h
  simp only [Bool.and_eq_true, decide_eq_true_eq] at h
  have hyz : y = z := by omega
  subst hyz
  have hp : (posL X).Pairwise (fun a b => a < b) := List.Pairwise.filter _ List.pairwise_lt_range
  have h1 : ((posL X).take (i + 1)).Pairwise (fun a b => a < b) := hp.sublist (List.take_sublist _ _)
  rw [List.take_add_one, hz] at h1
  have h2 := (List.pairwise_append.1 h1).2.2 y hy y (by simp)
  omega
theorem part_fit {side z : Nat} {X : Nat → Nat → Bool} (hin : ∀ r c, X r c = true → r < side ∧ c < side) : FitB side (z / 16) (z % 16) (blkAt X (z / 16) (z % 16)) := fun r c hr hc hb => by
  rw [blkAt_bit _ _ _ _ _ hc] at hb
  exact hin _ _ hb
theorem part_fold {side : Nat} {X : Nat → Nat → Bool} (hs : side ≤ 1024) (hin : ∀ r c, X r c = true → r < side ∧ c < side) : orL (fun z => z / 16) (fun z => z % 16) (fun z => blkAt X (z / 16) (z % 16)) noX (posL X) = X := by
  refine orL_eq (fun z hz r c h1 h2 h3 => ?_) (fun r c h => ?_)
  · rw [blkAt_bit _ _ _ _ _ (Nat.mod_lt _ (by decide)), ← h1, ← h2, blk_part, blk_part] at h3
    exact h3
  · obtain ⟨h1, h2, h3⟩ := posL_of hs hin h
    refine ⟨_, h1, h2.symm, h3.symm, ?_⟩
    rw [h2, h3, blkAt_bit _ _ _ _ _ (Nat.mod_lt _ (by decide)), blk_part, blk_part]
    exact h
theorem GO.matFact {P : Program} {c : Cx} {A : Array Oper} {os : List Oper} {K : Kont} {L : Env} {H F : List HP} {side b : Nat} {X : Nat → Nat → Bool} (tk : Tk (mat side X b) H F) (k : (1 ≤ side ∧ side ≤ 1024) → (∀ r c, X r c = true → r < side ∧ c < side) → GO P c A os K L H) : GO P c A os K L H := by
  unfold GO
  rintro a w h
  obtain ⟨h1, h2, ds, h3, h4, h5⟩ := id h
  obtain ⟨g, hg, _⟩ := sat_mat.1 (sat_perm (List.Perm.append_right _ tk) h5)
  have := k (show MatOK side X g.D g.np g.nl g.P g.B g.cnt from hg).sd (show MatOK side X g.D g.np g.nl g.P g.B g.cnt from hg).inn
  unfold GO at this
  exact this a w h
theorem less_bit (b : Blk) (X : Nat → Nat → Bool) (i j r c : Nat) (hc : c < 64) : (lessB b (blkAt X i j) r).getLsbD c = ((b r).getLsbD c && !X (64 * i + r) (64 * j + c)) := by
  unfold lessB
  rw [BitVec.getLsbD_and, BitVec.getLsbD_not, blkAt_bit _ _ _ _ _ hc]
  simp [hc]
theorem part_more {X : Nat → Nat → Bool} {i z : Nat} (hz : (posL X)[i]? = some z) : decide (0 < lenB (lessB (blkAt X (z / 16) (z % 16)) (blkAt (orL (fun z => z / 16) (fun z => z % 16) (fun z => blkAt X (z / 16) (z % 16)) noX ((posL X).take i)) (z / 16) (z % 16))) 64) = true := by
  rw [decide_eq_true_iff]
  apply Nat.pos_of_ne_zero
  intro h0
  obtain ⟨r, c, hr, hc, hx⟩ := hasB_iff.1 (posL_mem.1 (List.mem_of_getElem? hz)).2
  have := lenB_zero h0 r c hr hc
  rw [less_bit _ _ _ _ _ _ hc, part_new hz hr hc, blkAt_bit _ _ _ _ _ hc, hx] at this
  cases this
theorem again_less (X : Nat → Nat → Bool) (i j : Nat) (b : Blk) : decide (0 < lenB (lessB b (blkAt (orX X i j b) i j)) 64) = false := by
  rw [decide_eq_false_iff_not, lenB_none (fun r c hr hc => ?_)]
  · exact Nat.lt_irrefl 0
  · rw [less_bit _ _ _ _ _ _ hc, orX_at _ _ _ _ hr hc]
    cases (b r).getLsbD c <;> simp
theorem again_or (X : Nat → Nat → Bool) (i j : Nat) (b : Blk) : orX (orX X i j b) i j b = orX X i j b := by
  funext r c
  unfold orX
  cases X r c <;> simp
attribute [local irreducible] G GO GR GT Fn FnV pt init exs pur sat own ImpS mat posL allV orL exX putX cntX
end Go.Proofs.YtpfcgfgkmgnaaaaDoor
