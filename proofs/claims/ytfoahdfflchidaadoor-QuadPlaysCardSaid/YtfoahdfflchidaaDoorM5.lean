/-
  The law QuadPlays, part 5.
-/
import Derived.Test.YtfoahdfflchidaaDoorM4
import Derived.Test.YtfoahdfflchidaaDoorP
import Derived.Test.YtfoahdfflchidaaDoorV
namespace Go.Proofs.YtfoahdfflchidaaDoor
open Go
def three (a : Int) : Nat := (a % 4).toNat
theorem three_at (a : Int) : a % ((2 ^ 2 : Nat) : Int) = ((three a : Nat) : Int) ∧ three a < 4 := by unfold three; omega
theorem ImpS.fourE (F : List HP) : ImpS F (fourP (fun _ => star []) :: F) := ImpS.flat (k := [star [], star [], star [], star []]) (M := F) (ImpS.trans (ImpS.e1 _) (ImpS.trans (ImpS.e1 _) (ImpS.trans (ImpS.e1 _) (ImpS.e1 _))))
theorem ImpS.fourCopy (P : Nat → HP) {a b : Nat} (x : HP) (ha : a < 4) (hb : b < 4) (F : List HP) : ImpS (P a :: oth P a :: x :: F) (fourP (put4 P b x) :: F) := ImpS.trans (ImpS.fourIn P ha (x :: F)) (ImpS.trans (fun m w s => sat_perm (List.Perm.swap _ _ _) s) (ImpS.fourNew P x hb F))
theorem Fn.impL {P : Program} {f : FuncId} {args : Array Value} {l l' : List HP} {R : Value → List HP → Prop} (hi : ImpS l' l) (h : Fn P f args l R) : Fn P f args l' R := by
  unfold Fn at *
  intro F w s
  exact h F w (hi F w s)
theorem marr_len (v : Nat → Value) : (marr v).length = 4 := rfl
theorem rarr_len (o : Nat → OptM) (r : Nat → Value) : (rarr o r).length = 8 := rfl
attribute [local irreducible] G GO GR GT GW Fn FnV pt init exs pur sat own ImpS mat posL allV orL restX cellsX cellsV cntX lessX uniX rowX natsV lines plc swpL colsL blkTo placL orX pos2 hasB opsQ marr rarr fourP oth oth2 put4 three
set_option maxHeartbeats 32000000 in
set_option maxRecDepth 40000 in
theorem qplays_law (q : HP) (hq : Tab q) (v : Value) (l : List OpQ) (cs : Nat → List Cl) (hv : OpsQR q v l cs) :
    Fn Tryd.prog 6 #[v] [q] (fun r Q => r = .bool true ∧ Q = [q]) := by
  obtain ⟨⟨a0, cap0, rfl, hl0, hr0⟩, hu⟩ := hv
  refine Fn.mk2 Tryd.func6 rfl rfl fun w0 F => ?_
  by_cases f1 : 60 < l.length
  · (refine G.seq ?_; refine G.region ?_; refine GO.assign rfl rfl ?_; refine GO.nil ?_; refine kthen_n ?_; refine G.seq ?_; refine G.seq ?_; refine G.region ?_; refine GO.move rfl rfl ?_; refine GO.lenS rfl rfl ?_; refine GO.gti rfl rfl rfl ?_; refine GO.nil ?_; refine kthen_n ?_)
    rw [show decide ((60 : Int) < (l.length : Int)) = true from decide_eq_true (by omega)]
    (refine G.condT rfl rfl ?_; refine G.seq ?_; refine G.region ?_)
    refine GO.call0 rfl (mawake_spec) Tks.n ?_
    rintro _ _ ⟨rfl, rfl⟩
    (refine GO.assign rfl rfl ?_; refine GO.nil ?_; refine kthen_n ?_; refine G.ret ?_; refine kthen_r ?_)
    refine KF2.r1 rfl (RV.t rfl) ⟨rfl, rfl⟩ (ImpS.sb ?_)
    ((refine Sb.c Tk.h ?_); (exact Sb.r))
  (refine G.seq ?_; refine G.region ?_; refine GO.assign rfl rfl ?_; refine GO.nil ?_; refine kthen_n ?_; refine G.seq ?_; refine G.seq ?_; refine G.region ?_; refine GO.move rfl rfl ?_; refine GO.lenS rfl rfl ?_; refine GO.gti rfl rfl rfl ?_; refine GO.nil ?_; refine kthen_n ?_)
  rw [show decide ((60 : Int) < (l.length : Int)) = false from decide_eq_false (by omega)]
  (refine G.condF rfl rfl ?_; refine G.skip ?_; refine kthen_n ?_; refine G.seq ?_; refine G.region ?_; refine GO.alloc rfl fun b3 => ?_; refine GO.nil ?_; refine kthen_n ?_; refine G.seq ?_; refine G.region ?_; refine GO.alloc rfl fun b4 => ?_; refine GO.nil ?_; refine kthen_n ?_; refine G.seq ?_; refine G.seq ?_; refine G.region ?_; refine GO.assign rfl rfl ?_; refine GO.nil ?_; refine kthen_n ?_; refine G.block ?_)
  refine G.loopI (σ := FourS) (fun S => [(0, .slice a0 l.length cap0), (3, ptrV b3), (4, ptrV b4), (5, i64 (S.n : Nat))])
    (fun S => fourP S.P :: S.Z :: pt b3 (row (marr S.v) 50) :: pt b4 (row (rarr S.o S.r) 53) :: q :: F)
    (fun S => S.n ≤ l.length ∧ FourOK S) (fun S => l.length - S.n)
    ⟨0, fun _ => star [], star [], fun _ => .pointer none, fun _ => none, fun _ => .slice none 0 0⟩ ⟨Nat.zero_le _, fun _ => OneOK.empty⟩ ?_ ?_ ?_
  · (refine SubE.c rfl rfl ?_; refine SubE.c rfl rfl ?_; refine SubE.c rfl rfl ?_; refine SubE.c rfl rfl ?_; exact SubE.n)
  · refine ImpS.trans (ImpS.fourE _) (ImpS.under (ImpS.trans (ImpS.e1 _) (ImpS.under ?_)))
    dsimp only
    rw [show marr (fun _ => Value.pointer none) = [.pointer none, .pointer none, .pointer none, .pointer none] by unfold marr; rfl, show rarr (fun _ => none) (fun _ => Value.slice none 0 0) = [i64 0, .slice none 0 0, i64 0, .slice none 0 0, i64 0, .slice none 0 0, i64 0, .slice none 0 0] by unfold rarr; rfl]
    refine ImpS.sb ?_
    ((refine Sb.c (Tk.t Tk.h) ?_; refine Sb.c Tk.h ?_; refine Sb.c Tk.h ?_); (exact Sb.r))
  rintro ⟨n, P, Z, m, o, r⟩ ⟨hn, hok⟩
  dsimp only at hn ⊢
  have hm : ∀ k, OneOK (P k) Z (m k) (o k) (r k) := hok
  (refine G.seq ?_; refine G.seq ?_; refine G.region ?_; refine GO.move rfl rfl ?_; refine GO.move rfl rfl ?_; refine GO.lenS rfl rfl ?_; refine GO.lti rfl rfl rfl ?_; refine GO.nil ?_; refine kthen_n ?_)
  refine G.condD rfl (fun hlt => ?_) (fun hge => ?_)
  · have hnl : n < l.length := by omega
    obtain ⟨p, hp⟩ : ∃ p, l[n]? = some p := ⟨_, List.getElem?_eq_getElem hnl⟩
    obtain ⟨b0, oo, rfl, hrd⟩ := hr0 (by omega)
    obtain ⟨hup, hcl⟩ := hu n p hp
    have hld : ∀ j u, p.vs[j]? = some u → Rd q ⟨b0, oo + n * 6 + j, none⟩ u := fun j u hj => by
      have hj6 : j < 6 := (List.getElem?_eq_some_iff.1 hj).1
      rw [Nat.add_assoc]
      exact hrd _ _ (by rw [opsQ_get hp hj6]; exact hj)
    generalize cs n = L at hup hcl
    obtain ⟨d, a, bb, i, j, u⟩ := p
    dsimp only at hup
    have hu1 := hup.one
    obtain ⟨ea, ha⟩ := three_at a
    obtain ⟨eb, hb⟩ := three_at bb
    obtain ⟨ec, hc⟩ := three_at i
    generalize three a = ka at ea ha
    generalize three bb = kb at eb hb
    generalize three i = kc at ec hc
    (refine G.skip ?_; refine kthen_n ?_; refine G.seq ?_; refine G.block ?_; refine G.seq ?_; refine G.region ?_; refine GO.move rfl rfl ?_; refine GO.move rfl rfl ?_; refine GO.idxS rfl rfl rfl ⟨rfl, by omega⟩ ?_)
    refine GO.loadM (vs := [i64 d, i64 a, i64 bb, i64 i, i64 j, u]) rfl rfl rfl (Tk.t (Tk.t (Tk.t (Tk.t Tk.h)))) rfl (fun j u hj => hld j u hj) ?_
    (refine GO.alloc rfl fun b6 => ?_; refine GO.storeW rfl rfl Tk.h ⟨rfl, rfl⟩ (by simp [Value.oneCell']; assumption) ?_; refine GO.nil ?_; refine kthen_n ?_; refine G.seq ?_)
    refine G.draw 12 (by kernel_rfl) ?_
    ((apply GQ.step; focus (intro Z; refine GO.fieldAddr rfl rfl ?_; exact KQ.z)); (apply GQ.step; focus (intro Z; refine GO.load1 rfl rfl rfl Tk.h rfl ?_; exact KQ.z)))
    apply GQ.step; focus (intro Z; refine GO.mask rfl 2 rfl rfl ⟨by omega, rfl⟩ ?_; exact KQ.z)
    ((apply GQ.step; focus (intro Z; refine GO.fieldAddr rfl rfl ?_; exact KQ.z)); (apply GQ.step; focus (intro Z; refine GO.load1 rfl rfl rfl Tk.h rfl ?_; exact KQ.z)))
    apply GQ.step; focus (intro Z; refine GO.mask rfl 2 rfl rfl ⟨by omega, rfl⟩ ?_; exact KQ.z)
    ((apply GQ.step; focus (intro Z; refine GO.fieldAddr rfl rfl ?_; exact KQ.z)); (apply GQ.step; focus (intro Z; refine GO.load1 rfl rfl rfl Tk.h rfl ?_; exact KQ.z)))
    apply GQ.step; focus (intro Z; refine GO.mask rfl 2 rfl rfl ⟨by omega, rfl⟩ ?_; exact KQ.z)
    ((apply GQ.step; focus (intro Z; refine GO.assign rfl rfl ?_; exact KQ.z)); (apply GQ.step; focus (intro Z; refine GO.assign rfl rfl ?_; exact KQ.z)); (apply GQ.step; focus (intro Z; refine GO.assign rfl rfl ?_; exact KQ.z)); refine GQ.nil ?_)
    rw [ea, eb, ec]
    by_cases hd0 : d = 0
    · subst hd0
      (refine GO.nil ?_; refine kthen_n ?_; refine G.seq ?_; refine G.region ?_; refine GO.fieldAddr rfl rfl ?_; refine GO.load1 rfl rfl rfl Tk.h rfl ?_; refine GO.nil ?_; refine kthen_n ?_; refine G.block ?_; refine G.seq ?_; refine G.seq ?_; refine G.region ?_; refine GO.eqT rfl rfl rfl rfl ?_; refine GO.assign rfl rfl ?_; refine GO.nil ?_; refine kthen_n ?_; refine G.condT rfl rfl ?_; refine G.skip ?_; refine kthen_n ?_; refine G.condT rfl rfl ?_; refine G.seq ?_; refine G.region ?_; refine GO.assign rfl rfl ?_; refine GO.assign rfl rfl ?_; refine GO.nil ?_; refine kthen_n ?_; refine G.seq ?_; refine G.seq ?_; refine G.region ?_; refine GO.fieldAddr rfl rfl ?_; refine GO.load1 rfl rfl rfl Tk.h rfl ?_; refine GO.eqT rfl rfl rfl rfl ?_; refine GO.nil ?_; refine kthen_n ?_; refine G.condT rfl rfl ?_; refine G.seq ?_; refine G.region ?_; refine GO.move rfl rfl ?_; refine GO.fieldAddr rfl rfl ?_; refine GO.load1 rfl rfl rfl Tk.h rfl ?_)
      refine GO.call1 rfl rfl (newE i) Tks.n ?_
      rintro _ _ ⟨v', p', rfl, hp', rfl⟩
      obtain ⟨pk, rfl⟩ := hp'.has.ptr
      (refine GO.move rfl rfl ?_; refine GO.extract rfl rfl rfl ?_; refine GO.extract rfl rfl rfl ?_; refine GO.idxA rfl rfl rfl ⟨rfl, by omega⟩ ?_)
      refine GO.store1 rfl rfl rfl (Tk.t (Tk.t (Tk.t (Tk.t Tk.h)))) (by rw [marr_len]; omega) ?_
      rw [show (marr m).set (0 + ka * 1) (.pointer pk) = marr (put4 m ka (.pointer pk)) by rw [Nat.zero_add, Nat.mul_one]; exact marr_set m _ ha]
      (refine GO.assign rfl rfl ?_; refine GO.nil ?_; refine kthen_n ?_; refine G.region ?_; refine GO.move rfl rfl ?_; refine GO.fieldAddr rfl rfl ?_; refine GO.load1 rfl rfl rfl (Tk.t (Tk.t Tk.h)) rfl ?_)
      refine GO.call1 rfl rfl (rNewE i Z) Tks.n ?_
      rintro _ _ ⟨r', rfl, hone', hr', rfl⟩
      have wf' := gridO_wf i []
      generalize gridO i [] = o' at *
      generalize gridE i [] = e at *
      (refine GO.move rfl rfl ?_; refine GO.extract rfl rfl rfl ?_; refine GO.extract rfl rfl rfl ?_; refine GO.idxA rfl rfl rfl ⟨rfl, by omega⟩ ?_)
      refine GO.storeG (n := 2) (vs := [i64 (sideO o' : Nat), r']) rfl rfl rfl rfl (Tk.t (Tk.t (Tk.t (Tk.t (Tk.t Tk.h))))) (by rw [rarr_len]; omega) (by simp [Value.oneCell']; assumption) ?_
      rw [show (rarr o r).take (0 + ka * 2) ++ [i64 (sideO o' : Nat), r'] ++ (rarr o r).drop (0 + ka * 2 + 2) = rarr (put4 o ka o') (put4 r ka r') by rw [Nat.zero_add]; exact rarr_put o r o' r' ha]
      have one : OneOK p' Z (.pointer pk) o' r' := ⟨hp', wf', hr', hone'⟩
      have hisn : pk.isNone = decide (((sideO o' : Nat) : Int) = 0) := eq_of_beq (by simpa using one.isNone)
      have de : decide (e ≠ e) = false := decide_eq_false fun h => h rfl
      have g1 : Rd (pt b3 (row (marr (put4 m ka (.pointer pk))) 50)) ⟨b3, 0 + ka * 1, none⟩ (.pointer pk) := Rd.row (by rw [Nat.zero_add, Nat.mul_one, marr_get _ ha, put4_at])
      have g2 : Rd (pt b4 (row (rarr (put4 o ka o') (put4 r ka r')) 53)) ⟨b4, 0 + ka * 2 + 0, none⟩ (i64 (sideO o' : Nat)) := Rd.row (by rw [Nat.zero_add, Nat.add_zero, (rarr_get _ _ ha).1, put4_at])
      (refine GO.assign rfl rfl ?_; refine GO.nil ?_; refine kthen_n ?_; refine G.seq ?_)
      refine G.draw 15 (by kernel_rfl) ?_
      ((apply GQ.step; focus (intro Z; refine GO.move rfl rfl ?_; exact KQ.z)); (apply GQ.step; focus (intro Z; refine GO.move rfl rfl ?_; exact KQ.z)); (apply GQ.step; focus (intro Z; refine GO.neF rfl rfl rfl rfl ?_; exact KQ.z)); (apply GQ.step; focus (intro Z; refine GO.move rfl rfl ?_; exact KQ.z)); (apply GQ.step; focus (intro Z; refine GO.gT rfl rfl rfl ?_; refine GO.move rfl rfl ?_; exact KQ.z)); (apply GQ.step; focus (intro Z; refine GO.gT rfl rfl rfl ?_; refine GO.idxA rfl rfl rfl ⟨rfl, by omega⟩ ?_; exact KQ.z)); (apply GQ.step; focus (intro Z; refine GO.gT rfl rfl rfl ?_; refine GO.loadQ rfl rfl rfl (Tk.t Tk.h) (by assumption) ?_; exact KQ.z)); (apply GQ.step; focus (intro Z; refine GO.gT rfl rfl rfl ?_; refine GO.eqNilP rfl rfl ?_; exact KQ.z)); (apply GQ.step; focus (intro Z; refine GO.gT rfl rfl rfl ?_; refine GO.move rfl rfl ?_; exact KQ.z)); (apply GQ.step; focus (intro Z; refine GO.gT rfl rfl rfl ?_; refine GO.idxA rfl rfl rfl ⟨rfl, by omega⟩ ?_; exact KQ.z)); (apply GQ.step; focus (intro Z; refine GO.gT rfl rfl rfl ?_; refine GO.fieldAddr rfl rfl ?_; exact KQ.z)); (apply GQ.step; focus (intro Z; refine GO.gT rfl rfl rfl ?_; refine GO.loadQ rfl rfl rfl Tk.h (by assumption) ?_; exact KQ.z)); (apply GQ.step; focus (intro Z; refine GO.gT rfl rfl rfl ?_; refine GO.eqi rfl rfl rfl ?_; exact KQ.z)))
      apply GQ.step; focus (intro Z; refine GO.gT rfl rfl (by first | rfl | assumption) ?_; refine GO.neqF rfl rfl rfl hisn ?_; exact KQ.z)
      ((apply GQ.step; focus (intro Z; refine GO.pickF rfl rfl rfl ?_; exact KQ.z)); refine GQ.nil ?_)
      (refine GO.nil ?_; refine kthen_n ?_; refine G.condF rfl rfl ?_; refine G.skip ?_; refine kblock_n ?_; refine kblock_n ?_; refine kthen_n ?_; refine G.region ?_; refine GO.move rfl rfl ?_; refine GO.addi rfl rfl rfl (by omega) ?_; refine GO.assign rfl rfl ?_; refine GO.nil ?_; refine kthen_n ?_)
      refine ⟨⟨n + 1, put4 P ka p', Z, put4 m ka (.pointer pk), put4 o ka o', put4 r ka r'⟩, ⟨by dsimp only; omega, FourOK.put (s := ⟨n, P, Z, m, o, r⟩) hok (Sup.refl Z) ka (n + 1) one⟩, by dsimp only; omega, ?_, ?_⟩
      · (refine SubE.c rfl rfl ?_; refine SubE.c rfl rfl ?_; refine SubE.c rfl rfl ?_; refine SubE.c rfl rfl ?_; exact SubE.n)
      · refine ImpS.trans ?_ (ImpS.fourNew P p' ha _)
        refine ImpS.sb ?_
        ((refine Sb.c (Tk.t (Tk.t Tk.h)) ?_; refine Sb.c (Tk.t (Tk.t (Tk.t Tk.h))) ?_; refine Sb.c (Tk.t (Tk.t (Tk.t Tk.h))) ?_; refine Sb.c (Tk.t Tk.h) ?_; refine Sb.c Tk.h ?_; refine Sb.c (Tk.t Tk.h) ?_); (refine Sb.s ?_; exact Sb.r))
    by_cases hd1 : d = 1
    · subst hd1
      (refine GO.nil ?_; refine kthen_n ?_; refine G.seq ?_; refine G.region ?_; refine GO.fieldAddr rfl rfl ?_; refine GO.load1 rfl rfl rfl Tk.h rfl ?_; refine GO.nil ?_; refine kthen_n ?_; refine G.block ?_; refine G.seq ?_; refine G.seq ?_; refine G.region ?_; refine GO.eqi rfl rfl rfl ?_; refine GO.assign rfl rfl ?_; refine GO.nil ?_; refine kthen_n ?_; refine G.condF rfl rfl ?_; refine G.region ?_; refine GO.eqT rfl rfl rfl rfl ?_; refine GO.assign rfl rfl ?_; refine GO.nil ?_; refine kthen_n ?_; refine G.condT rfl rfl ?_; refine G.seq ?_; refine G.region ?_; refine GO.assign rfl rfl ?_; refine GO.assign rfl rfl ?_; refine GO.nil ?_; refine kthen_n ?_; refine G.seq ?_; refine G.seq ?_; refine G.region ?_; refine GO.fieldAddr rfl rfl ?_; refine GO.load1 rfl rfl rfl Tk.h rfl ?_; refine GO.eqi rfl rfl rfl ?_; refine GO.nil ?_; refine kthen_n ?_; refine G.condF rfl rfl ?_; refine G.seq ?_; refine G.region ?_; refine GO.move rfl rfl ?_; refine GO.fieldAddr rfl rfl ?_; refine GO.load1 rfl rfl rfl Tk.h rfl ?_; refine GO.fieldAddr rfl rfl ?_; refine GO.load1 rfl rfl rfl Tk.h rfl ?_)
      refine GO.call2 rfl rfl rfl (ofE i q u L hup hcl) (Tks.c (Tk.t (Tk.t (Tk.t (Tk.t (Tk.t Tk.h))))) Tks.n) ?_
      rintro _ _ ⟨v', p', rfl, hp', rfl⟩
      obtain ⟨pk, rfl⟩ := hp'.has.ptr
      (refine GO.move rfl rfl ?_; refine GO.extract rfl rfl rfl ?_; refine GO.extract rfl rfl rfl ?_; refine GO.idxA rfl rfl rfl ⟨rfl, by omega⟩ ?_)
      refine GO.store1 rfl rfl rfl (Tk.t (Tk.t (Tk.t (Tk.t (Tk.t Tk.h))))) (by rw [marr_len]; omega) ?_
      rw [show (marr m).set (0 + ka * 1) (.pointer pk) = marr (put4 m ka (.pointer pk)) by rw [Nat.zero_add, Nat.mul_one]; exact marr_set m _ ha]
      (refine GO.assign rfl rfl ?_; refine GO.nil ?_; refine kthen_n ?_; refine G.region ?_; refine GO.move rfl rfl ?_; refine GO.fieldAddr rfl rfl ?_; refine GO.load1 rfl rfl rfl (Tk.t (Tk.t (Tk.t Tk.h))) rfl ?_; refine GO.fieldAddr rfl rfl ?_; refine GO.load1 rfl rfl rfl (Tk.t (Tk.t (Tk.t Tk.h))) rfl ?_)
      refine GO.call2 rfl rfl rfl (rOfE i q u L hup hcl) (Tks.c (Tk.t (Tk.t Tk.h)) Tks.n) ?_
      rintro _ _ ⟨r', zp, rfl, hone', hr0', rfl⟩
      have hr' := RefO.left (z' := Z) hr0'
      have hsup : Sup Z (star [zp, Z]) := Sup.right zp Z
      refine GO.merge (x := zp) (y := Z) (Tks.c Tk.h (Tks.c (Tk.t (Tk.t (Tk.t (Tk.t (Tk.t Tk.h))))) Tks.n)) ?_
      have wf' := gridO_wf i L
      generalize gridO i L = o' at *
      generalize gridE i L = e at *
      (refine GO.move rfl rfl ?_; refine GO.extract rfl rfl rfl ?_; refine GO.extract rfl rfl rfl ?_; refine GO.idxA rfl rfl rfl ⟨rfl, by omega⟩ ?_)
      refine GO.storeG (n := 2) (vs := [i64 (sideO o' : Nat), r']) rfl rfl rfl rfl (Tk.t (Tk.t (Tk.t (Tk.t (Tk.t (Tk.t Tk.h)))))) (by rw [rarr_len]; omega) (by simp [Value.oneCell']; assumption) ?_
      rw [show (rarr o r).take (0 + ka * 2) ++ [i64 (sideO o' : Nat), r'] ++ (rarr o r).drop (0 + ka * 2 + 2) = rarr (put4 o ka o') (put4 r ka r') by rw [Nat.zero_add]; exact rarr_put o r o' r' ha]
      have one : OneOK p' (star [zp, Z]) (.pointer pk) o' r' := ⟨hp', wf', hr', hone'⟩
      have hisn : pk.isNone = decide (((sideO o' : Nat) : Int) = 0) := eq_of_beq (by simpa using one.isNone)
      have de : decide (e ≠ e) = false := decide_eq_false fun h => h rfl
      have g1 : Rd (pt b3 (row (marr (put4 m ka (.pointer pk))) 50)) ⟨b3, 0 + ka * 1, none⟩ (.pointer pk) := Rd.row (by rw [Nat.zero_add, Nat.mul_one, marr_get _ ha, put4_at])
      have g2 : Rd (pt b4 (row (rarr (put4 o ka o') (put4 r ka r')) 53)) ⟨b4, 0 + ka * 2 + 0, none⟩ (i64 (sideO o' : Nat)) := Rd.row (by rw [Nat.zero_add, Nat.add_zero, (rarr_get _ _ ha).1, put4_at])
      (refine GO.assign rfl rfl ?_; refine GO.nil ?_; refine kthen_n ?_; refine G.seq ?_)
      refine G.draw 15 (by kernel_rfl) ?_
      ((apply GQ.step; focus (intro Z; refine GO.move rfl rfl ?_; exact KQ.z)); (apply GQ.step; focus (intro Z; refine GO.move rfl rfl ?_; exact KQ.z)); (apply GQ.step; focus (intro Z; refine GO.neF rfl rfl rfl rfl ?_; exact KQ.z)); (apply GQ.step; focus (intro Z; refine GO.move rfl rfl ?_; exact KQ.z)); (apply GQ.step; focus (intro Z; refine GO.gT rfl rfl rfl ?_; refine GO.move rfl rfl ?_; exact KQ.z)); (apply GQ.step; focus (intro Z; refine GO.gT rfl rfl rfl ?_; refine GO.idxA rfl rfl rfl ⟨rfl, by omega⟩ ?_; exact KQ.z)); (apply GQ.step; focus (intro Z; refine GO.gT rfl rfl rfl ?_; refine GO.loadQ rfl rfl rfl (Tk.t (Tk.t (Tk.t Tk.h))) (by assumption) ?_; exact KQ.z)); (apply GQ.step; focus (intro Z; refine GO.gT rfl rfl rfl ?_; refine GO.eqNilP rfl rfl ?_; exact KQ.z)); (apply GQ.step; focus (intro Z; refine GO.gT rfl rfl rfl ?_; refine GO.move rfl rfl ?_; exact KQ.z)); (apply GQ.step; focus (intro Z; refine GO.gT rfl rfl rfl ?_; refine GO.idxA rfl rfl rfl ⟨rfl, by omega⟩ ?_; exact KQ.z)); (apply GQ.step; focus (intro Z; refine GO.gT rfl rfl rfl ?_; refine GO.fieldAddr rfl rfl ?_; exact KQ.z)); (apply GQ.step; focus (intro Z; refine GO.gT rfl rfl rfl ?_; refine GO.loadQ rfl rfl rfl Tk.h (by assumption) ?_; exact KQ.z)); (apply GQ.step; focus (intro Z; refine GO.gT rfl rfl rfl ?_; refine GO.eqi rfl rfl rfl ?_; exact KQ.z)))
      apply GQ.step; focus (intro Z; refine GO.gT rfl rfl (by first | rfl | assumption) ?_; refine GO.neqF rfl rfl rfl hisn ?_; exact KQ.z)
      ((apply GQ.step; focus (intro Z; refine GO.pickF rfl rfl rfl ?_; exact KQ.z)); refine GQ.nil ?_)
      (refine GO.nil ?_; refine kthen_n ?_; refine G.condF rfl rfl ?_; refine G.skip ?_; refine kblock_n ?_; refine kblock_n ?_; refine kthen_n ?_; refine G.region ?_; refine GO.move rfl rfl ?_; refine GO.addi rfl rfl rfl (by omega) ?_; refine GO.assign rfl rfl ?_; refine GO.nil ?_; refine kthen_n ?_)
      refine ⟨⟨n + 1, put4 P ka p', star [zp, Z], put4 m ka (.pointer pk), put4 o ka o', put4 r ka r'⟩, ⟨by dsimp only; omega, FourOK.put (s := ⟨n, P, Z, m, o, r⟩) hok hsup ka (n + 1) one⟩, by dsimp only; omega, ?_, ?_⟩
      · (refine SubE.c rfl rfl ?_; refine SubE.c rfl rfl ?_; refine SubE.c rfl rfl ?_; refine SubE.c rfl rfl ?_; exact SubE.n)
      · refine ImpS.trans ?_ (ImpS.fourNew P p' ha _)
        refine ImpS.sb ?_
        ((refine Sb.c (Tk.t (Tk.t (Tk.t (Tk.t Tk.h)))) ?_; refine Sb.c (Tk.t (Tk.t (Tk.t (Tk.t (Tk.t Tk.h))))) ?_; refine Sb.c (Tk.t Tk.h) ?_; refine Sb.c (Tk.t (Tk.t Tk.h)) ?_; refine Sb.c Tk.h ?_; refine Sb.c Tk.h ?_); (refine Sb.s ?_; exact Sb.r))
    have d0 : decide (d = 0) = false := decide_eq_false hd0
    have d1 : decide (d = 1) = false := decide_eq_false hd1
    have rdW : ∀ k, k < 4 → ∀ j u, [i64 (sideO (o k) : Nat), r k][j]? = some u → Rd (pt b4 (row (rarr o r) 53)) ⟨b4, 0 + k * 2 + j, none⟩ u := fun k hk j u hj => by
      obtain ⟨g1, g2⟩ := rarr_get o r hk
      refine Rd.row ?_
      rw [Nat.zero_add]
      match j, hj with
      | 0, hj => rw [Nat.add_zero, g1]; exact hj
      | 1, hj => rw [g2]; exact hj
    have rdM : ∀ k, k < 4 → Rd (pt b3 (row (marr m) 50)) ⟨b3, 0 + k * 1, none⟩ (m k) := fun k hk => Rd.row (by rw [Nat.zero_add, Nat.mul_one]; exact marr_get m hk)
    by_cases hd5 : d = 5
    · subst hd5
      have hcp := copyE (P ka) (m ka) (o ka) (hm ka).mat
      have hone := (hm ka).one
      have rw0 := rdW ka ha
      have rm0 := rdM ka ha
      (refine GO.nil ?_; refine kthen_n ?_; refine G.seq ?_; refine G.region ?_; refine GO.fieldAddr rfl rfl ?_; refine GO.load1 rfl rfl rfl Tk.h rfl ?_; refine GO.nil ?_; refine kthen_n ?_; refine G.block ?_; refine G.seq ?_; refine G.seq ?_; refine G.region ?_; refine GO.eqi rfl rfl rfl ?_; refine GO.assign rfl rfl ?_; refine GO.nil ?_; refine kthen_n ?_; refine G.condF rfl rfl ?_; refine G.region ?_; refine GO.eqi rfl rfl rfl ?_; refine GO.assign rfl rfl ?_; refine GO.nil ?_; refine kthen_n ?_; refine G.condF rfl rfl ?_; refine G.seq ?_; refine G.region ?_; refine GO.eqT rfl rfl rfl rfl ?_; refine GO.assign rfl rfl ?_; refine GO.nil ?_; refine kthen_n ?_; refine G.condT rfl rfl ?_)
      refine G.impS (ImpS.trans (ImpS.sb (M := fourP P :: Z :: pt b3 (row (marr m) 50) :: pt b4 (row (rarr o r) 53) :: q :: F) (by ((refine Sb.c (Tk.t Tk.h) ?_; refine Sb.c (Tk.t Tk.h) ?_; refine Sb.c (Tk.t Tk.h) ?_; refine Sb.c (Tk.t Tk.h) ?_; refine Sb.c (Tk.t Tk.h) ?_); (refine Sb.s ?_; exact Sb.r)))) (ImpS.fourOut P ha _)) ?_
      refine G.drawT 12 1072 [pt b4 (row (rarr o r) 53)] (P ka :: oth P ka :: Z :: pt b3 (row (marr m) 50) :: q :: F) (by kernel_rfl) (keys_of rfl) (ImpS.sb (by ((refine Sb.c (Tk.t (Tk.t (Tk.t (Tk.t Tk.h)))) ?_; refine Sb.c Tk.h ?_; refine Sb.c Tk.h ?_; refine Sb.c Tk.h ?_; refine Sb.c Tk.h ?_; refine Sb.c Tk.h ?_); (exact Sb.r)))) ?_
      ((apply GR.step rfl; focus (intro Z; refine GO.move rfl rfl ?_; exact KQ.z)); (apply GR.step rfl; focus (intro Z; refine GO.move rfl rfl ?_; exact KQ.z)); (apply GR.step rfl; focus (intro Z; refine GO.move rfl rfl ?_; exact KQ.z)); (apply GR.step rfl; focus (intro Z; refine GO.idxA rfl rfl rfl ⟨rfl, by omega⟩ ?_; exact KQ.z)); refine GR.skip rfl ?_; refine GR.skip rfl ?_; (apply GR.step rfl; focus (intro Z; refine GO.move rfl rfl ?_; exact KQ.z)); (apply GR.step rfl; focus (intro Z; refine GO.idxA rfl rfl rfl ⟨rfl, by omega⟩ ?_; exact KQ.z)))
      apply GR.step rfl; focus (intro Z; refine GO.loadM (vs := [i64 (sideO (o ka) : Nat), r ka]) rfl rfl rfl Tk.h rfl rw0 ?_; exact KQ.z)
      ((apply GR.step rfl; focus (intro Z; refine GO.idxA rfl rfl rfl ⟨rfl, by omega⟩ ?_; exact KQ.z)); refine GR.skip rfl ?_; (apply GR.step rfl; focus (intro Z; refine GO.idxA rfl rfl rfl ⟨rfl, by omega⟩ ?_; exact KQ.z)); refine GR.nil ?_)
      (repeat refine GT.skip rfl ?_)
      refine GT.step rfl ?_
      refine GO.loadQ rfl rfl rfl (Tk.t (Tk.t (Tk.t (Tk.t Tk.h)))) rm0 ?_
      refine GO.nil ⟨rfl, _, P ka :: oth P ka :: Z :: pt b3 (row (marr m) 50) :: q :: F, rfl, ImpS.sb (by ((refine Sb.c Tk.h ?_; refine Sb.c Tk.h ?_; refine Sb.c Tk.h ?_; refine Sb.c Tk.h ?_; refine Sb.c Tk.h ?_; refine Sb.c Tk.h ?_); (exact Sb.r))), ?_⟩
      (repeat refine GT.skip rfl ?_)
      refine GT.step rfl ?_
      refine GO.call1 rfl rfl (hcp) (Tks.c (Tk.t Tk.h) Tks.n) ?_
      rintro vk _ ⟨K', hK', rfl⟩
      have hkone : vk.oneCell' = true := by obtain ⟨pk, rfl⟩ := hK'.has.ptr; rfl
      refine GO.nil ⟨rfl, _, K' :: P ka :: oth P ka :: Z :: pt b3 (row (marr m) 50) :: q :: F, rfl, ImpS.sb (by ((refine Sb.c (Tk.t (Tk.t Tk.h)) ?_; refine Sb.c Tk.h ?_; refine Sb.c Tk.h ?_; refine Sb.c Tk.h ?_; refine Sb.c Tk.h ?_; refine Sb.c Tk.h ?_; refine Sb.c Tk.h ?_); (exact Sb.r))), ?_⟩
      (repeat refine GT.skip rfl ?_)
      refine GT.step rfl ?_
      refine GO.store1 rfl rfl hkone (Tk.t (Tk.t (Tk.t (Tk.t (Tk.t Tk.h))))) (by rw [marr_len]; omega) ?_
      rw [show (marr m).set (0 + kb * 1) vk = marr (put4 m kb vk) by rw [Nat.zero_add, Nat.mul_one]; exact marr_set m _ hb]
      refine GO.nil ⟨rfl, .tuple #[], K' :: P ka :: oth P ka :: Z :: pt b3 (row (marr (put4 m kb vk)) 50) :: q :: F, rfl, ImpS.sb (by ((refine Sb.c (Tk.t Tk.h) ?_; refine Sb.c (Tk.t Tk.h) ?_; refine Sb.c (Tk.t Tk.h) ?_; refine Sb.c (Tk.t Tk.h) ?_; refine Sb.c (Tk.t Tk.h) ?_; refine Sb.c Tk.h ?_; refine Sb.c Tk.h ?_); (exact Sb.r))), ?_⟩
      (repeat refine GT.skip rfl ?_)
      refine GT.nil ?_
      refine GO.storeG (n := 2) (vs := [i64 (sideO (o ka) : Nat), r ka]) rfl rfl rfl rfl Tk.h (by rw [rarr_len]; omega) (by simp [Value.oneCell']; assumption) ?_
      rw [show (rarr o r).take (0 + kb * 2) ++ [i64 (sideO (o ka) : Nat), r ka] ++ (rarr o r).drop (0 + kb * 2 + 2) = rarr (put4 o kb (o ka)) (put4 r kb (r ka)) by rw [Nat.zero_add]; exact rarr_put o r (o ka) (r ka) hb]
      (refine GO.nil ?_; refine kblock_n ?_; refine kblock_n ?_; refine kthen_n ?_; refine G.region ?_; refine GO.move rfl rfl ?_; refine GO.addi rfl rfl rfl (by omega) ?_; refine GO.assign rfl rfl ?_; refine GO.nil ?_; refine kthen_n ?_)
      refine ⟨⟨n + 1, put4 P kb K', Z, put4 m kb vk, put4 o kb (o ka), put4 r kb (r ka)⟩, ⟨by dsimp only; omega, FourOK.put (s := ⟨n, P, Z, m, o, r⟩) hok (Sup.refl Z) kb (n + 1) ⟨hK', (hm ka).wf, (hm ka).ref, hone⟩⟩, by dsimp only; omega, ?_, ?_⟩
      · (refine SubE.c rfl rfl ?_; refine SubE.c rfl rfl ?_; refine SubE.c rfl rfl ?_; refine SubE.c rfl rfl ?_; exact SubE.n)
      · dsimp only
        refine ImpS.trans (ImpS.sb (M := P ka :: oth P ka :: K' :: Z :: pt b3 (row (marr (put4 m kb vk)) 50) :: pt b4 (row (rarr (put4 o kb (o ka)) (put4 r kb (r ka))) 53) :: q :: F) ?_) (ImpS.fourCopy P K' ha hb _)
        ((refine Sb.c (Tk.t (Tk.t Tk.h)) ?_; refine Sb.c (Tk.t (Tk.t Tk.h)) ?_; refine Sb.c (Tk.t Tk.h) ?_; refine Sb.c (Tk.t Tk.h) ?_; refine Sb.c (Tk.t Tk.h) ?_; refine Sb.c Tk.h ?_; refine Sb.c Tk.h ?_); (exact Sb.r))
    have d5 : decide (d = 5) = false := decide_eq_false hd5
    by_cases hd6 : d = 6
    · subst hd6
      have hcp := turnE (P ka) (m ka) (o ka) (hm ka).mat
      have hrt := rTurnE Z (refV (sideO (o ka)) (r ka)) (o ka) (hm ka).ref (hm ka).wf
      have wf' := turnO_wf (hm ka).wf
      have hone := (hm ka).one
      have rw0 := rdW ka ha
      have rm0 := rdM ka ha
      (refine GO.nil ?_; refine kthen_n ?_; refine G.seq ?_; refine G.region ?_; refine GO.fieldAddr rfl rfl ?_; refine GO.load1 rfl rfl rfl Tk.h rfl ?_; refine GO.nil ?_; refine kthen_n ?_; refine G.block ?_; refine G.seq ?_; refine G.seq ?_; refine G.region ?_; refine GO.eqi rfl rfl rfl ?_; refine GO.assign rfl rfl ?_; refine GO.nil ?_; refine kthen_n ?_; refine G.condF rfl rfl ?_; refine G.region ?_; refine GO.eqi rfl rfl rfl ?_; refine GO.assign rfl rfl ?_; refine GO.nil ?_; refine kthen_n ?_; refine G.condF rfl rfl ?_; refine G.seq ?_; refine G.region ?_; refine GO.eqi rfl rfl rfl ?_; refine GO.assign rfl rfl ?_; refine GO.nil ?_; refine kthen_n ?_; refine G.condF rfl rfl ?_; refine G.seq ?_; refine G.region ?_; refine GO.eqT rfl rfl rfl rfl ?_; refine GO.assign rfl rfl ?_; refine GO.nil ?_; refine kthen_n ?_; refine G.condT rfl rfl ?_)
      refine G.impS (ImpS.trans (ImpS.sb (M := fourP P :: Z :: pt b3 (row (marr m) 50) :: pt b4 (row (rarr o r) 53) :: q :: F) (by ((refine Sb.c (Tk.t Tk.h) ?_; refine Sb.c (Tk.t Tk.h) ?_; refine Sb.c (Tk.t Tk.h) ?_; refine Sb.c (Tk.t Tk.h) ?_; refine Sb.c (Tk.t Tk.h) ?_); (refine Sb.s ?_; exact Sb.r)))) (ImpS.fourOut P ha _)) ?_
      refine G.drawT 13 2608 [pt b4 (row (rarr o r) 53)] (P ka :: oth P ka :: Z :: pt b3 (row (marr m) 50) :: q :: F) (by kernel_rfl) (keys_of rfl) (ImpS.sb (by ((refine Sb.c (Tk.t (Tk.t (Tk.t (Tk.t Tk.h)))) ?_; refine Sb.c Tk.h ?_; refine Sb.c Tk.h ?_; refine Sb.c Tk.h ?_; refine Sb.c Tk.h ?_; refine Sb.c Tk.h ?_); (exact Sb.r)))) ?_
      ((apply GR.step rfl; focus (intro Z; refine GO.move rfl rfl ?_; exact KQ.z)); (apply GR.step rfl; focus (intro Z; refine GO.move rfl rfl ?_; exact KQ.z)); (apply GR.step rfl; focus (intro Z; refine GO.move rfl rfl ?_; exact KQ.z)); (apply GR.step rfl; focus (intro Z; refine GO.idxA rfl rfl rfl ⟨rfl, by omega⟩ ?_; exact KQ.z)); refine GR.skip rfl ?_; refine GR.skip rfl ?_; (apply GR.step rfl; focus (intro Z; refine GO.move rfl rfl ?_; exact KQ.z)); (apply GR.step rfl; focus (intro Z; refine GO.idxA rfl rfl rfl ⟨rfl, by omega⟩ ?_; exact KQ.z)))
      apply GR.step rfl; focus (intro Z; refine GO.loadM (vs := [i64 (sideO (o ka) : Nat), r ka]) rfl rfl rfl Tk.h rfl rw0 ?_; exact KQ.z)
      (refine GR.skip rfl ?_; (apply GR.step rfl; focus (intro Z; refine GO.idxA rfl rfl rfl ⟨rfl, by omega⟩ ?_; exact KQ.z)); refine GR.skip rfl ?_; (apply GR.step rfl; focus (intro Z; refine GO.idxA rfl rfl rfl ⟨rfl, by omega⟩ ?_; exact KQ.z)); refine GR.nil ?_)
      (repeat refine GT.skip rfl ?_)
      refine GT.step rfl ?_
      refine GO.loadQ rfl rfl rfl (Tk.t (Tk.t (Tk.t (Tk.t Tk.h)))) rm0 ?_
      refine GO.nil ⟨rfl, _, P ka :: oth P ka :: Z :: pt b3 (row (marr m) 50) :: q :: F, rfl, ImpS.sb (by ((refine Sb.c Tk.h ?_; refine Sb.c Tk.h ?_; refine Sb.c Tk.h ?_; refine Sb.c Tk.h ?_; refine Sb.c Tk.h ?_; refine Sb.c Tk.h ?_); (exact Sb.r))), ?_⟩
      (repeat refine GT.skip rfl ?_)
      refine GT.step rfl ?_
      refine GO.call1 rfl rfl (hcp) (Tks.c (Tk.t Tk.h) Tks.n) ?_
      rintro vk _ ⟨K', hK', rfl⟩
      have hkone : vk.oneCell' = true := by obtain ⟨pk, rfl⟩ := hK'.has.ptr; rfl
      refine GO.nil ⟨rfl, _, K' :: P ka :: oth P ka :: Z :: pt b3 (row (marr m) 50) :: q :: F, rfl, ImpS.sb (by ((refine Sb.c (Tk.t (Tk.t Tk.h)) ?_; refine Sb.c Tk.h ?_; refine Sb.c Tk.h ?_; refine Sb.c Tk.h ?_; refine Sb.c Tk.h ?_; refine Sb.c Tk.h ?_; refine Sb.c Tk.h ?_); (exact Sb.r))), ?_⟩
      (repeat refine GT.skip rfl ?_)
      refine GT.step rfl ?_
      refine GO.call1 rfl rfl (hrt) (Tks.c (Tk.t (Tk.t (Tk.t (Tk.t Tk.h)))) Tks.n) ?_
      rintro _ _ ⟨r', z', rfl, hone', hr', hsup, rfl⟩
      refine GO.nil ⟨rfl, _, K' :: P ka :: oth P ka :: z' :: pt b3 (row (marr m) 50) :: q :: F, rfl, ImpS.sb (by ((refine Sb.c (Tk.t Tk.h) ?_; refine Sb.c (Tk.t Tk.h) ?_; refine Sb.c (Tk.t Tk.h) ?_; refine Sb.c (Tk.t Tk.h) ?_; refine Sb.c Tk.h ?_; refine Sb.c Tk.h ?_; refine Sb.c Tk.h ?_); (exact Sb.r))), ?_⟩
      (repeat refine GT.skip rfl ?_)
      refine GT.step rfl ?_
      refine GO.store1 rfl rfl hkone (Tk.t (Tk.t (Tk.t (Tk.t (Tk.t Tk.h))))) (by rw [marr_len]; omega) ?_
      rw [show (marr m).set (0 + kb * 1) vk = marr (put4 m kb vk) by rw [Nat.zero_add, Nat.mul_one]; exact marr_set m _ hb]
      refine GO.nil ⟨rfl, .tuple #[], K' :: P ka :: oth P ka :: z' :: pt b3 (row (marr (put4 m kb vk)) 50) :: q :: F, rfl, ImpS.sb (by ((refine Sb.c (Tk.t Tk.h) ?_; refine Sb.c (Tk.t Tk.h) ?_; refine Sb.c (Tk.t Tk.h) ?_; refine Sb.c (Tk.t Tk.h) ?_; refine Sb.c (Tk.t Tk.h) ?_; refine Sb.c Tk.h ?_; refine Sb.c Tk.h ?_); (exact Sb.r))), ?_⟩
      (repeat refine GT.skip rfl ?_)
      refine GT.nil ?_
      refine GO.storeG (n := 2) (vs := [i64 (sideO (turnO (o ka)) : Nat), r']) rfl rfl rfl rfl Tk.h (by rw [rarr_len]; omega) (by simp [Value.oneCell']; assumption) ?_
      rw [show (rarr o r).take (0 + kb * 2) ++ [i64 (sideO (turnO (o ka)) : Nat), r'] ++ (rarr o r).drop (0 + kb * 2 + 2) = rarr (put4 o kb (turnO (o ka))) (put4 r kb r') by rw [Nat.zero_add]; exact rarr_put o r _ r' hb]
      (refine GO.nil ?_; refine kblock_n ?_; refine kblock_n ?_; refine kthen_n ?_; refine G.region ?_; refine GO.move rfl rfl ?_; refine GO.addi rfl rfl rfl (by omega) ?_; refine GO.assign rfl rfl ?_; refine GO.nil ?_; refine kthen_n ?_)
      refine ⟨⟨n + 1, put4 P kb K', z', put4 m kb vk, put4 o kb (turnO (o ka)), put4 r kb r'⟩, ⟨by dsimp only; omega, FourOK.put (s := ⟨n, P, Z, m, o, r⟩) hok hsup kb (n + 1) ⟨hK', wf', hr', hone'⟩⟩, by dsimp only; omega, ?_, ?_⟩
      · (refine SubE.c rfl rfl ?_; refine SubE.c rfl rfl ?_; refine SubE.c rfl rfl ?_; refine SubE.c rfl rfl ?_; exact SubE.n)
      · dsimp only
        refine ImpS.trans (ImpS.sb (M := P ka :: oth P ka :: K' :: z' :: pt b3 (row (marr (put4 m kb vk)) 50) :: pt b4 (row (rarr (put4 o kb (turnO (o ka))) (put4 r kb r')) 53) :: q :: F) ?_) (ImpS.fourCopy P K' ha hb _)
        ((refine Sb.c (Tk.t (Tk.t Tk.h)) ?_; refine Sb.c (Tk.t (Tk.t Tk.h)) ?_; refine Sb.c (Tk.t Tk.h) ?_; refine Sb.c (Tk.t Tk.h) ?_; refine Sb.c (Tk.t Tk.h) ?_; refine Sb.c Tk.h ?_; refine Sb.c Tk.h ?_); (exact Sb.r))
    have d6 : decide (d = 6) = false := decide_eq_false hd6
    by_cases hd13 : d = 13
    · subst hd13
      have hsr := rSameE Z (refV (sideO (o ka)) (r ka)) (refV (sideO (o kb)) (r kb)) (o ka) (o kb) (hm ka).ref (hm kb).ref
      have rwa := rdW ka ha
      have rma := rdM ka ha
      have rwb := rdW kb hb
      have rmb := rdM kb hb
      by_cases hab : ka = kb
      · have hse := sameS (P ka) (m ka) (o ka) (hm ka).mat
        subst hab
        (refine GO.nil ?_; refine kthen_n ?_; refine G.seq ?_; refine G.region ?_; refine GO.fieldAddr rfl rfl ?_; refine GO.load1 rfl rfl rfl Tk.h rfl ?_; refine GO.nil ?_; refine kthen_n ?_; refine G.block ?_; refine G.seq ?_; refine G.seq ?_; refine G.region ?_; refine GO.eqi rfl rfl rfl ?_; refine GO.assign rfl rfl ?_; refine GO.nil ?_; refine kthen_n ?_; refine G.condF rfl rfl ?_; refine G.region ?_; refine GO.eqi rfl rfl rfl ?_; refine GO.assign rfl rfl ?_; refine GO.nil ?_; refine kthen_n ?_; refine G.condF rfl rfl ?_; refine G.seq ?_; refine G.region ?_; refine GO.eqi rfl rfl rfl ?_; refine GO.assign rfl rfl ?_; refine GO.nil ?_; refine kthen_n ?_; refine G.condF rfl rfl ?_; refine G.seq ?_; refine G.region ?_; refine GO.eqi rfl rfl rfl ?_; refine GO.assign rfl rfl ?_; refine GO.nil ?_; refine kthen_n ?_; refine G.condF rfl rfl ?_; refine G.seq ?_; refine G.region ?_; refine GO.eqi rfl rfl rfl ?_; refine GO.assign rfl rfl ?_; refine GO.nil ?_; refine kthen_n ?_; refine G.condF rfl rfl ?_; refine G.seq ?_; refine G.region ?_; refine GO.eqT rfl rfl rfl rfl ?_; refine GO.assign rfl rfl ?_; refine GO.nil ?_; refine kthen_n ?_; refine G.condT rfl rfl ?_; refine G.seq ?_)
        refine G.impS (ImpS.trans (ImpS.sb (M := fourP P :: Z :: pt b3 (row (marr m) 50) :: pt b4 (row (rarr o r) 53) :: q :: F) (by ((refine Sb.c (Tk.t Tk.h) ?_; refine Sb.c (Tk.t Tk.h) ?_; refine Sb.c (Tk.t Tk.h) ?_; refine Sb.c (Tk.t Tk.h) ?_; refine Sb.c (Tk.t Tk.h) ?_); (refine Sb.s ?_; exact Sb.r)))) (ImpS.fourOut P ha _)) ?_
        refine G.draw 15 (by kernel_rfl) ?_
        ((apply GQ.step; focus (intro Z; refine GO.move rfl rfl ?_; exact KQ.z)); (apply GQ.step; focus (intro Z; refine GO.idxA rfl rfl rfl ⟨rfl, by omega⟩ ?_; exact KQ.z)); (apply GQ.step; focus (intro Z; refine GO.loadQ rfl rfl rfl (Tk.t (Tk.t (Tk.t Tk.h))) (by assumption) ?_; exact KQ.z)); (apply GQ.step; focus (intro Z; refine GO.move rfl rfl ?_; exact KQ.z)); (apply GQ.step; focus (intro Z; refine GO.idxA rfl rfl rfl ⟨rfl, by omega⟩ ?_; exact KQ.z)); (apply GQ.step; focus (intro Z; refine GO.loadQ rfl rfl rfl (Tk.t (Tk.t (Tk.t Tk.h))) (by assumption) ?_; exact KQ.z)))
        apply GQ.step; focus (intro Z9; refine GO.call2 rfl rfl rfl (hse) (Tks.c Tk.h Tks.n) ?_; rintro _ _ ⟨rfl, rfl⟩; refine GO.nil (KQ.s ?_); ((refine Sb.c Tk.h ?_; refine Sb.c Tk.h ?_; refine Sb.c Tk.h ?_; refine Sb.c Tk.h ?_; refine Sb.c Tk.h ?_; refine Sb.c Tk.h ?_); (exact Sb.r)))
        ((apply GQ.step; focus (intro Z; refine GO.move rfl rfl ?_; exact KQ.z)); (apply GQ.step; focus (intro Z; refine GO.idxA rfl rfl rfl ⟨rfl, by omega⟩ ?_; exact KQ.z)))
        apply GQ.step; focus (intro Z9; refine GO.loadM (vs := [i64 (sideO (o ka) : Nat), r ka]) rfl rfl rfl (Tk.t (Tk.t (Tk.t (Tk.t Tk.h)))) rfl rwa ?_; exact KQ.z)
        ((apply GQ.step; focus (intro Z; refine GO.move rfl rfl ?_; exact KQ.z)); (apply GQ.step; focus (intro Z; refine GO.idxA rfl rfl rfl ⟨rfl, by omega⟩ ?_; exact KQ.z)))
        apply GQ.step; focus (intro Z9; refine GO.loadM (vs := [i64 (sideO (o ka) : Nat), r ka]) rfl rfl rfl (Tk.t (Tk.t (Tk.t (Tk.t Tk.h)))) rfl rwa ?_; exact KQ.z)
        apply GQ.step; focus (intro Z9; refine GO.call2 rfl rfl rfl (hsr) (Tks.c (Tk.t (Tk.t Tk.h)) Tks.n) ?_; rintro _ _ ⟨rfl, rfl⟩; refine GO.nil (KQ.s ?_); ((refine Sb.c (Tk.t Tk.h) ?_; refine Sb.c (Tk.t Tk.h) ?_; refine Sb.c Tk.h ?_; refine Sb.c Tk.h ?_; refine Sb.c Tk.h ?_; refine Sb.c Tk.h ?_); (exact Sb.r)))
        apply GQ.step; focus (intro Z9; refine GO.neqF rfl rfl rfl rfl ?_; exact KQ.z)
        (refine GQ.nil ?_)
        refine GO.impS (ImpS.fourIn P ha _) ?_
        (refine GO.nil ?_; refine kthen_n ?_; refine G.condF rfl rfl ?_; refine G.skip ?_; refine kblock_n ?_; refine kblock_n ?_; refine kthen_n ?_; refine G.region ?_; refine GO.move rfl rfl ?_; refine GO.addi rfl rfl rfl (by omega) ?_; refine GO.assign rfl rfl ?_; refine GO.nil ?_; refine kthen_n ?_)
        refine ⟨⟨n + 1, P, Z, m, o, r⟩, ⟨by dsimp only; omega, hm⟩, by dsimp only; omega, ?_, ?_⟩
        · (refine SubE.c rfl rfl ?_; refine SubE.c rfl rfl ?_; refine SubE.c rfl rfl ?_; refine SubE.c rfl rfl ?_; exact SubE.n)
        · dsimp only
          refine ImpS.sb ?_
          ((refine Sb.c Tk.h ?_; refine Sb.c Tk.h ?_; refine Sb.c Tk.h ?_; refine Sb.c Tk.h ?_; refine Sb.c Tk.h ?_); (exact Sb.r))
      · have hse := sameE (P ka) (P kb) (m ka) (m kb) (o ka) (o kb) (hm ka).wf (hm kb).wf (hm ka).mat (hm kb).mat
        (refine GO.nil ?_; refine kthen_n ?_; refine G.seq ?_; refine G.region ?_; refine GO.fieldAddr rfl rfl ?_; refine GO.load1 rfl rfl rfl Tk.h rfl ?_; refine GO.nil ?_; refine kthen_n ?_; refine G.block ?_; refine G.seq ?_; refine G.seq ?_; refine G.region ?_; refine GO.eqi rfl rfl rfl ?_; refine GO.assign rfl rfl ?_; refine GO.nil ?_; refine kthen_n ?_; refine G.condF rfl rfl ?_; refine G.region ?_; refine GO.eqi rfl rfl rfl ?_; refine GO.assign rfl rfl ?_; refine GO.nil ?_; refine kthen_n ?_; refine G.condF rfl rfl ?_; refine G.seq ?_; refine G.region ?_; refine GO.eqi rfl rfl rfl ?_; refine GO.assign rfl rfl ?_; refine GO.nil ?_; refine kthen_n ?_; refine G.condF rfl rfl ?_; refine G.seq ?_; refine G.region ?_; refine GO.eqi rfl rfl rfl ?_; refine GO.assign rfl rfl ?_; refine GO.nil ?_; refine kthen_n ?_; refine G.condF rfl rfl ?_; refine G.seq ?_; refine G.region ?_; refine GO.eqi rfl rfl rfl ?_; refine GO.assign rfl rfl ?_; refine GO.nil ?_; refine kthen_n ?_; refine G.condF rfl rfl ?_; refine G.seq ?_; refine G.region ?_; refine GO.eqT rfl rfl rfl rfl ?_; refine GO.assign rfl rfl ?_; refine GO.nil ?_; refine kthen_n ?_; refine G.condT rfl rfl ?_; refine G.seq ?_)
        refine G.impS (ImpS.trans (ImpS.sb (M := fourP P :: Z :: pt b3 (row (marr m) 50) :: pt b4 (row (rarr o r) 53) :: q :: F) (by ((refine Sb.c (Tk.t Tk.h) ?_; refine Sb.c (Tk.t Tk.h) ?_; refine Sb.c (Tk.t Tk.h) ?_; refine Sb.c (Tk.t Tk.h) ?_; refine Sb.c (Tk.t Tk.h) ?_); (refine Sb.s ?_; exact Sb.r)))) (ImpS.trans (ImpS.fourOut P ha _) (ImpS.under (ImpS.twoOut P ha hb hab _)))) ?_
        refine G.draw 15 (by kernel_rfl) ?_
        ((apply GQ.step; focus (intro Z; refine GO.move rfl rfl ?_; exact KQ.z)); (apply GQ.step; focus (intro Z; refine GO.idxA rfl rfl rfl ⟨rfl, by omega⟩ ?_; exact KQ.z)); (apply GQ.step; focus (intro Z; refine GO.loadQ rfl rfl rfl (Tk.t (Tk.t (Tk.t (Tk.t Tk.h)))) (by assumption) ?_; exact KQ.z)); (apply GQ.step; focus (intro Z; refine GO.move rfl rfl ?_; exact KQ.z)); (apply GQ.step; focus (intro Z; refine GO.idxA rfl rfl rfl ⟨rfl, by omega⟩ ?_; exact KQ.z)); (apply GQ.step; focus (intro Z; refine GO.loadQ rfl rfl rfl (Tk.t (Tk.t (Tk.t (Tk.t Tk.h)))) (by assumption) ?_; exact KQ.z)))
        apply GQ.step; focus (intro Z9; refine GO.call2 rfl rfl rfl (hse) (Tks.c Tk.h (Tks.c Tk.h Tks.n)) ?_; rintro _ _ ⟨rfl, rfl⟩; refine GO.nil (KQ.s ?_); ((refine Sb.c Tk.h ?_; refine Sb.c Tk.h ?_; refine Sb.c Tk.h ?_; refine Sb.c Tk.h ?_; refine Sb.c Tk.h ?_; refine Sb.c Tk.h ?_; refine Sb.c Tk.h ?_); (exact Sb.r)))
        ((apply GQ.step; focus (intro Z; refine GO.move rfl rfl ?_; exact KQ.z)); (apply GQ.step; focus (intro Z; refine GO.idxA rfl rfl rfl ⟨rfl, by omega⟩ ?_; exact KQ.z)))
        apply GQ.step; focus (intro Z9; refine GO.loadM (vs := [i64 (sideO (o ka) : Nat), r ka]) rfl rfl rfl (Tk.t (Tk.t (Tk.t (Tk.t (Tk.t Tk.h))))) rfl rwa ?_; exact KQ.z)
        ((apply GQ.step; focus (intro Z; refine GO.move rfl rfl ?_; exact KQ.z)); (apply GQ.step; focus (intro Z; refine GO.idxA rfl rfl rfl ⟨rfl, by omega⟩ ?_; exact KQ.z)))
        apply GQ.step; focus (intro Z9; refine GO.loadM (vs := [i64 (sideO (o kb) : Nat), r kb]) rfl rfl rfl (Tk.t (Tk.t (Tk.t (Tk.t (Tk.t Tk.h))))) rfl rwb ?_; exact KQ.z)
        apply GQ.step; focus (intro Z9; refine GO.call2 rfl rfl rfl (hsr) (Tks.c (Tk.t (Tk.t (Tk.t Tk.h))) Tks.n) ?_; rintro _ _ ⟨rfl, rfl⟩; refine GO.nil (KQ.s ?_); ((refine Sb.c (Tk.t Tk.h) ?_; refine Sb.c (Tk.t Tk.h) ?_; refine Sb.c (Tk.t Tk.h) ?_; refine Sb.c Tk.h ?_; refine Sb.c Tk.h ?_; refine Sb.c Tk.h ?_; refine Sb.c Tk.h ?_); (exact Sb.r)))
        apply GQ.step; focus (intro Z9; refine GO.neqF rfl rfl rfl rfl ?_; exact KQ.z)
        (refine GQ.nil ?_)
        refine GO.impS (ImpS.trans (ImpS.under (ImpS.twoIn P ha hb hab _)) (ImpS.fourIn P ha _)) ?_
        (refine GO.nil ?_; refine kthen_n ?_; refine G.condF rfl rfl ?_; refine G.skip ?_; refine kblock_n ?_; refine kblock_n ?_; refine kthen_n ?_; refine G.region ?_; refine GO.move rfl rfl ?_; refine GO.addi rfl rfl rfl (by omega) ?_; refine GO.assign rfl rfl ?_; refine GO.nil ?_; refine kthen_n ?_)
        refine ⟨⟨n + 1, P, Z, m, o, r⟩, ⟨by dsimp only; omega, hm⟩, by dsimp only; omega, ?_, ?_⟩
        · (refine SubE.c rfl rfl ?_; refine SubE.c rfl rfl ?_; refine SubE.c rfl rfl ?_; refine SubE.c rfl rfl ?_; exact SubE.n)
        · dsimp only
          refine ImpS.sb ?_
          ((refine Sb.c Tk.h ?_; refine Sb.c Tk.h ?_; refine Sb.c Tk.h ?_; refine Sb.c Tk.h ?_; refine Sb.c Tk.h ?_); (exact Sb.r))
    have d13 : decide (d = 13) = false := decide_eq_false hd13
    by_cases hd8 : d = 8
    · subst hd8
      have hL : Fn Tryd.prog 21 #[m ka, m kb] [fourP P] (fun x Q => ∃ v' p', x = .tuple #[v', i64 (pairE (sideO (o ka)) (sideO (o kb)))] ∧ MatO p' v' (lessO (o ka) (o kb)) ∧ Q = [p', fourP P]) := by
        by_cases hab : ka = kb
        · subst hab
          refine Fn.weak (Fn.impL (ImpS.fourOut P ha []) ((lessS (P ka) (m ka) (o ka) (hm ka).wf (hm ka).mat).frame [oth P ka])) ?_
          rintro _ _ ⟨_, ⟨v', p', rfl, hp', rfl⟩, rfl⟩
          exact ⟨_, ⟨v', p', rfl, hp', rfl⟩, ImpS.under (ImpS.fourIn P ha [])⟩
        · refine Fn.weak (Fn.impL (ImpS.trans (ImpS.fourOut P ha []) (ImpS.under (ImpS.twoOut P ha hb hab []))) ((lessE (P ka) (P kb) (m ka) (m kb) (o ka) (o kb) (hm ka).wf (hm kb).wf (hm ka).mat (hm kb).mat).frame [oth2 P ka kb])) ?_
          rintro _ _ ⟨_, ⟨v', p', rfl, hp', rfl⟩, rfl⟩
          exact ⟨_, ⟨v', p', rfl, hp', rfl⟩, ImpS.under (ImpS.trans (ImpS.under (ImpS.twoIn P ha hb hab [])) (ImpS.fourIn P ha []))⟩
      have hR := rLessE Z (refV (sideO (o ka)) (r ka)) (refV (sideO (o kb)) (r kb)) (o ka) (o kb) (hm ka).ref (hm kb).ref (hm ka).wf (hm kb).wf
      have wfl := lessO_wf (a := o ka) (b := o kb) (hm ka).wf
      generalize lessO (o ka) (o kb) = ol at hL hR wfl
      generalize pairE (sideO (o ka)) (sideO (o kb)) = e at hL hR
      have de : decide (e ≠ e) = false := decide_eq_false fun h => h rfl
      have rwa := rdW ka ha
      have rma := rdM ka ha
      have rwb := rdW kb hb
      have rmb := rdM kb hb
      (refine GO.nil ?_; refine kthen_n ?_; refine G.seq ?_; refine G.region ?_; refine GO.fieldAddr rfl rfl ?_; refine GO.load1 rfl rfl rfl Tk.h rfl ?_; refine GO.nil ?_; refine kthen_n ?_; refine G.block ?_; refine G.seq ?_; refine G.seq ?_; refine G.region ?_; refine GO.eqi rfl rfl rfl ?_; refine GO.assign rfl rfl ?_; refine GO.nil ?_; refine kthen_n ?_; refine G.condF rfl rfl ?_; refine G.region ?_; refine GO.eqi rfl rfl rfl ?_; refine GO.assign rfl rfl ?_; refine GO.nil ?_; refine kthen_n ?_; refine G.condF rfl rfl ?_; refine G.seq ?_; refine G.region ?_; refine GO.eqi rfl rfl rfl ?_; refine GO.assign rfl rfl ?_; refine GO.nil ?_; refine kthen_n ?_; refine G.condF rfl rfl ?_; refine G.seq ?_; refine G.region ?_; refine GO.eqi rfl rfl rfl ?_; refine GO.assign rfl rfl ?_; refine GO.nil ?_; refine kthen_n ?_; refine G.condF rfl rfl ?_; refine G.seq ?_; refine G.region ?_; refine GO.eqT rfl rfl rfl rfl ?_; refine GO.assign rfl rfl ?_; refine GO.nil ?_; refine kthen_n ?_; refine G.condT rfl rfl ?_; refine G.seq ?_)
      refine G.drawW 12 4032 6 [pt b3 (row (marr m) 50)] (fourP P :: Z :: q :: pt b4 (row (rarr o r) 53) :: F)
        (fun L' H' => ∃ v' K', MatO K' v' ol ∧ SubE [(0, .slice (some ⟨b0, oo, none⟩) l.length cap0), (3, ptrV b3), (4, ptrV b4), (5, i64 (n : Nat)), (6, ptrV b6), (7, i64 (ka : Nat)), (8, i64 (kb : Nat)), (9, i64 (kc : Nat)), (12, v'), (13, i64 e)] L' ∧ ImpS H' (K' :: fourP P :: Z :: q :: pt b3 (row (marr m) 50) :: pt b4 (row (rarr o r) 53) :: F)) (by kernel_rfl) (by kernel_rfl) (keys_of rfl) (ImpS.sb (by ((refine Sb.c (Tk.t (Tk.t (Tk.t Tk.h))) ?_; refine Sb.c (Tk.t Tk.h) ?_; refine Sb.c (Tk.t Tk.h) ?_; refine Sb.c (Tk.t (Tk.t Tk.h)) ?_; refine Sb.c (Tk.t Tk.h) ?_); (refine Sb.s ?_; exact Sb.r)))) ?_ ?_
      · ((apply GR.step rfl; focus (intro Z; refine GO.move rfl rfl ?_; exact KQ.z)); (apply GR.step rfl; focus (intro Z; refine GO.idxA rfl rfl rfl ⟨rfl, by omega⟩ ?_; exact KQ.z)); (apply GR.step rfl; focus (intro Z; refine GO.loadQ rfl rfl rfl Tk.h (by assumption) ?_; exact KQ.z)); (apply GR.step rfl; focus (intro Z; refine GO.move rfl rfl ?_; exact KQ.z)); (apply GR.step rfl; focus (intro Z; refine GO.idxA rfl rfl rfl ⟨rfl, by omega⟩ ?_; exact KQ.z)); (apply GR.step rfl; focus (intro Z; refine GO.loadQ rfl rfl rfl Tk.h (by assumption) ?_; exact KQ.z)); refine GR.skip rfl ?_; refine GR.skip rfl ?_; refine GR.skip rfl ?_; refine GR.skip rfl ?_; refine GR.skip rfl ?_; refine GR.skip rfl ?_; refine GR.nil ?_)
        refine GW.one (i := 6) (by kernel_rfl) rfl ?_
        refine GO.call2 rfl rfl rfl (hL) (Tks.c (Tk.t Tk.h) Tks.n) ?_
        rintro _ _ ⟨v', K', rfl, hK', rfl⟩
        refine GO.nil ⟨rfl, _, K' :: fourP P :: Z :: q :: pt b4 (row (rarr o r) 53) :: F, rfl, ImpS.sb (by ((refine Sb.c (Tk.t (Tk.t Tk.h)) ?_; refine Sb.c Tk.h ?_; refine Sb.c Tk.h ?_; refine Sb.c Tk.h ?_; refine Sb.c Tk.h ?_; refine Sb.c Tk.h ?_); (exact Sb.r))), ?_⟩
        refine GW.one (i := 7) (by kernel_rfl) rfl ?_
        refine GO.move rfl rfl ?_
        refine GO.nil ⟨rfl, _, _, rfl, ImpS.refl, ?_⟩
        refine GW.two (i1 := 8) (i2 := 9) (by kernel_rfl) rfl rfl ?_ ?_
        · skip
          refine GO.extract rfl rfl rfl ?_
          refine GO.nil ⟨rfl, _, _, rfl, ImpS.refl, ?_⟩
          refine GW.two (i1 := 9) (i2 := 10) (by kernel_rfl) rfl rfl ?_ ?_
          · skip
            refine GO.extract rfl rfl rfl ?_
            refine GO.nil ⟨rfl, _, _, rfl, ImpS.refl, ?_⟩
            refine GW.one (i := 10) (by kernel_rfl) rfl ?_
            refine GO.assign rfl rfl ?_
            refine GO.nil ⟨rfl, _, _, rfl, ImpS.refl, ?_⟩
            refine GW.one (i := 11) (by kernel_rfl) rfl ?_
            refine GO.assign rfl rfl ?_
            refine GO.nil ⟨rfl, _, _, rfl, ImpS.refl, ?_⟩
            refine GW.nil ⟨v', K', hK', by (refine SubE.c rfl rfl ?_; refine SubE.c rfl rfl ?_; refine SubE.c rfl rfl ?_; refine SubE.c rfl rfl ?_; refine SubE.c rfl rfl ?_; refine SubE.c rfl rfl ?_; refine SubE.c rfl rfl ?_; refine SubE.c rfl rfl ?_; refine SubE.c rfl rfl ?_; refine SubE.c rfl rfl ?_; exact SubE.n), ImpS.sb (by ((refine Sb.c (Tk.t Tk.h) ?_; refine Sb.c (Tk.t Tk.h) ?_; refine Sb.c (Tk.t Tk.h) ?_; refine Sb.c (Tk.t Tk.h) ?_; refine Sb.c Tk.h ?_; refine Sb.c Tk.h ?_); (exact Sb.r)))⟩
          · skip
            refine GO.assign rfl rfl ?_
            refine GO.nil ⟨rfl, _, _, rfl, ImpS.refl, ?_⟩
            refine GW.one (i := 9) (by kernel_rfl) rfl ?_
            refine GO.extract rfl rfl rfl ?_
            refine GO.nil ⟨rfl, _, _, rfl, ImpS.refl, ?_⟩
            refine GW.one (i := 11) (by kernel_rfl) rfl ?_
            refine GO.assign rfl rfl ?_
            refine GO.nil ⟨rfl, _, _, rfl, ImpS.refl, ?_⟩
            refine GW.nil ⟨v', K', hK', by (refine SubE.c rfl rfl ?_; refine SubE.c rfl rfl ?_; refine SubE.c rfl rfl ?_; refine SubE.c rfl rfl ?_; refine SubE.c rfl rfl ?_; refine SubE.c rfl rfl ?_; refine SubE.c rfl rfl ?_; refine SubE.c rfl rfl ?_; refine SubE.c rfl rfl ?_; refine SubE.c rfl rfl ?_; exact SubE.n), ImpS.sb (by ((refine Sb.c (Tk.t Tk.h) ?_; refine Sb.c (Tk.t Tk.h) ?_; refine Sb.c (Tk.t Tk.h) ?_; refine Sb.c (Tk.t Tk.h) ?_; refine Sb.c Tk.h ?_; refine Sb.c Tk.h ?_); (exact Sb.r)))⟩
        · skip
          refine GO.extract rfl rfl rfl ?_
          refine GO.nil ⟨rfl, _, _, rfl, ImpS.refl, ?_⟩
          refine GW.one (i := 8) (by kernel_rfl) rfl ?_
          refine GO.extract rfl rfl rfl ?_
          refine GO.nil ⟨rfl, _, _, rfl, ImpS.refl, ?_⟩
          refine GW.one (i := 10) (by kernel_rfl) rfl ?_
          refine GO.assign rfl rfl ?_
          refine GO.nil ⟨rfl, _, _, rfl, ImpS.refl, ?_⟩
          refine GW.one (i := 11) (by kernel_rfl) rfl ?_
          refine GO.assign rfl rfl ?_
          refine GO.nil ⟨rfl, _, _, rfl, ImpS.refl, ?_⟩
          refine GW.nil ⟨v', K', hK', by (refine SubE.c rfl rfl ?_; refine SubE.c rfl rfl ?_; refine SubE.c rfl rfl ?_; refine SubE.c rfl rfl ?_; refine SubE.c rfl rfl ?_; refine SubE.c rfl rfl ?_; refine SubE.c rfl rfl ?_; refine SubE.c rfl rfl ?_; refine SubE.c rfl rfl ?_; refine SubE.c rfl rfl ?_; exact SubE.n), ImpS.sb (by ((refine Sb.c (Tk.t Tk.h) ?_; refine Sb.c (Tk.t Tk.h) ?_; refine Sb.c (Tk.t Tk.h) ?_; refine Sb.c (Tk.t Tk.h) ?_; refine Sb.c Tk.h ?_; refine Sb.c Tk.h ?_); (exact Sb.r)))⟩
      rintro L' H' ⟨v', K', hK', hL', hH'⟩
      obtain ⟨pk, rfl⟩ := hK'.has.ptr
      refine GO.keep hH' (GO.sub hL' Sb.r ?_)
      (refine GO.nil ?_; refine kthen_n ?_; refine G.seq ?_)
      refine G.drawW 13 8128 7 [pt b4 (row (rarr o r) 53)] (K' :: fourP P :: Z :: q :: pt b3 (row (marr m) 50) :: F)
        (fun L' H' => ∃ r' z' b14, r'.oneCell' = true ∧ RefO z' (refV (sideO ol) r') ol ∧ Sup Z z' ∧ SubE [(0, .slice (some ⟨b0, oo, none⟩) l.length cap0), (3, ptrV b3), (4, ptrV b4), (5, i64 (n : Nat)), (6, ptrV b6), (7, i64 (ka : Nat)), (8, i64 (kb : Nat)), (9, i64 (kc : Nat)), (12, .pointer pk), (13, i64 e), (14, ptrV b14), (15, i64 e)] L' ∧ ImpS H' (pt b14 (row [i64 (sideO ol : Nat), r'] 52) :: K' :: fourP P :: z' :: q :: pt b3 (row (marr m) 50) :: pt b4 (row (rarr o r) 53) :: F)) (by kernel_rfl) (by kernel_rfl) (keys_of rfl) (ImpS.sb (by ((refine Sb.c (Tk.t (Tk.t (Tk.t (Tk.t (Tk.t Tk.h))))) ?_; refine Sb.c Tk.h ?_; refine Sb.c Tk.h ?_; refine Sb.c Tk.h ?_; refine Sb.c Tk.h ?_; refine Sb.c Tk.h ?_); (exact Sb.r)))) ?_ ?_
      · ((apply GR.step rfl; focus (intro Z; refine GO.move rfl rfl ?_; exact KQ.z)); (apply GR.step rfl; focus (intro Z; refine GO.idxA rfl rfl rfl ⟨rfl, by omega⟩ ?_; exact KQ.z)))
        apply GR.step rfl; focus (intro Z9; refine GO.loadM (vs := [i64 (sideO (o ka) : Nat), r ka]) rfl rfl rfl Tk.h rfl rwa ?_; exact KQ.z)
        ((apply GR.step rfl; focus (intro Z; refine GO.move rfl rfl ?_; exact KQ.z)); (apply GR.step rfl; focus (intro Z; refine GO.idxA rfl rfl rfl ⟨rfl, by omega⟩ ?_; exact KQ.z)))
        apply GR.step rfl; focus (intro Z9; refine GO.loadM (vs := [i64 (sideO (o kb) : Nat), r kb]) rfl rfl rfl Tk.h rfl rwb ?_; exact KQ.z)
        (refine GR.skip rfl ?_; refine GR.skip rfl ?_; refine GR.skip rfl ?_; refine GR.skip rfl ?_; refine GR.skip rfl ?_; refine GR.skip rfl ?_; refine GR.skip rfl ?_; refine GR.nil ?_)
        refine GW.two (i1 := 6) (i2 := 10) (by kernel_rfl) rfl rfl ?_ ?_
        · skip
          refine GO.call2 rfl rfl rfl (hR) (Tks.c (Tk.t (Tk.t (Tk.t Tk.h))) Tks.n) ?_
          rintro _ _ ⟨r', z', rfl, hone', hr', hsup, rfl⟩
          refine GO.nil ⟨rfl, _, K' :: fourP P :: z' :: q :: pt b3 (row (marr m) 50) :: F, rfl, ImpS.sb (by ((refine Sb.c (Tk.t Tk.h) ?_; refine Sb.c (Tk.t Tk.h) ?_; refine Sb.c (Tk.t Tk.h) ?_; refine Sb.c Tk.h ?_; refine Sb.c Tk.h ?_; refine Sb.c Tk.h ?_); (exact Sb.r))), ?_⟩
          refine GW.two (i1 := 7) (i2 := 10) (by kernel_rfl) rfl rfl ?_ ?_
          · skip
            refine GO.move rfl rfl ?_
            refine GO.nil ⟨rfl, _, _, rfl, ImpS.refl, ?_⟩
            refine GW.three (i1 := 8) (i2 := 9) (i3 := 10) (by kernel_rfl) rfl rfl rfl ?_ ?_ ?_
            · skip
              refine GO.extract rfl rfl rfl ?_
              refine GO.nil ⟨rfl, _, _, rfl, ImpS.refl, ?_⟩
              refine GW.two (i1 := 9) (i2 := 10) (by kernel_rfl) rfl rfl ?_ ?_
              · skip
                refine GO.extract rfl rfl rfl ?_
                refine GO.nil ⟨rfl, _, _, rfl, ImpS.refl, ?_⟩
                refine GW.one (i := 10) (by kernel_rfl) rfl ?_
                refine GO.alloc rfl fun b14 => ?_
                refine GO.nil ⟨rfl, _, pt b14 (row [i64 0, .slice none 0 0] 52) :: K' :: fourP P :: z' :: q :: pt b3 (row (marr m) 50) :: F, rfl, ImpS.sb (by ((refine Sb.c (Tk.t Tk.h) ?_; refine Sb.c Tk.h ?_; refine Sb.c Tk.h ?_; refine Sb.c Tk.h ?_; refine Sb.c Tk.h ?_; refine Sb.c Tk.h ?_; refine Sb.c Tk.h ?_); (exact Sb.r))), ?_⟩
                refine GW.one (i := 11) (by kernel_rfl) rfl ?_
                refine GO.storeW rfl rfl (Tk.t Tk.h) ⟨rfl, rfl⟩ (by simp [Value.oneCell']; assumption) ?_
                refine GO.nil ⟨rfl, .tuple #[], pt b14 (row [i64 (sideO ol : Nat), r'] 52) :: K' :: fourP P :: z' :: q :: pt b3 (row (marr m) 50) :: F, rfl, ImpS.sb (by ((refine Sb.c (Tk.t Tk.h) ?_; refine Sb.c Tk.h ?_; refine Sb.c Tk.h ?_; refine Sb.c Tk.h ?_; refine Sb.c Tk.h ?_; refine Sb.c Tk.h ?_; refine Sb.c Tk.h ?_); (exact Sb.r))), ?_⟩
                refine GW.one (i := 12) (by kernel_rfl) rfl ?_
                refine GO.assign rfl rfl ?_
                refine GO.nil ⟨rfl, _, _, rfl, ImpS.refl, ?_⟩
                refine GW.nil ⟨r', z', b14, hone', hr', hsup, by (refine SubE.c rfl rfl ?_; refine SubE.c rfl rfl ?_; refine SubE.c rfl rfl ?_; refine SubE.c rfl rfl ?_; refine SubE.c rfl rfl ?_; refine SubE.c rfl rfl ?_; refine SubE.c rfl rfl ?_; refine SubE.c rfl rfl ?_; refine SubE.c rfl rfl ?_; refine SubE.c rfl rfl ?_; refine SubE.c rfl rfl ?_; refine SubE.c rfl rfl ?_; exact SubE.n), ImpS.sb (by ((refine Sb.c (Tk.t Tk.h) ?_; refine Sb.c (Tk.t Tk.h) ?_; refine Sb.c (Tk.t Tk.h) ?_; refine Sb.c (Tk.t Tk.h) ?_; refine Sb.c (Tk.t Tk.h) ?_; refine Sb.c (Tk.t Tk.h) ?_; refine Sb.c Tk.h ?_); (exact Sb.r)))⟩
              · skip
                refine GO.alloc rfl fun b14 => ?_
                refine GO.nil ⟨rfl, _, pt b14 (row [i64 0, .slice none 0 0] 52) :: K' :: fourP P :: z' :: q :: pt b3 (row (marr m) 50) :: F, rfl, ImpS.sb (by ((refine Sb.c (Tk.t Tk.h) ?_; refine Sb.c Tk.h ?_; refine Sb.c Tk.h ?_; refine Sb.c Tk.h ?_; refine Sb.c Tk.h ?_; refine Sb.c Tk.h ?_; refine Sb.c Tk.h ?_); (exact Sb.r))), ?_⟩
                refine GW.two (i1 := 9) (i2 := 11) (by kernel_rfl) rfl rfl ?_ ?_
                · skip
                  refine GO.extract rfl rfl rfl ?_
                  refine GO.nil ⟨rfl, _, _, rfl, ImpS.refl, ?_⟩
                  refine GW.one (i := 11) (by kernel_rfl) rfl ?_
                  refine GO.storeW rfl rfl (Tk.t Tk.h) ⟨rfl, rfl⟩ (by simp [Value.oneCell']; assumption) ?_
                  refine GO.nil ⟨rfl, .tuple #[], pt b14 (row [i64 (sideO ol : Nat), r'] 52) :: K' :: fourP P :: z' :: q :: pt b3 (row (marr m) 50) :: F, rfl, ImpS.sb (by ((refine Sb.c (Tk.t Tk.h) ?_; refine Sb.c Tk.h ?_; refine Sb.c Tk.h ?_; refine Sb.c Tk.h ?_; refine Sb.c Tk.h ?_; refine Sb.c Tk.h ?_; refine Sb.c Tk.h ?_); (exact Sb.r))), ?_⟩
                  refine GW.one (i := 12) (by kernel_rfl) rfl ?_
                  refine GO.assign rfl rfl ?_
                  refine GO.nil ⟨rfl, _, _, rfl, ImpS.refl, ?_⟩
                  refine GW.nil ⟨r', z', b14, hone', hr', hsup, by (refine SubE.c rfl rfl ?_; refine SubE.c rfl rfl ?_; refine SubE.c rfl rfl ?_; refine SubE.c rfl rfl ?_; refine SubE.c rfl rfl ?_; refine SubE.c rfl rfl ?_; refine SubE.c rfl rfl ?_; refine SubE.c rfl rfl ?_; refine SubE.c rfl rfl ?_; refine SubE.c rfl rfl ?_; refine SubE.c rfl rfl ?_; refine SubE.c rfl rfl ?_; exact SubE.n), ImpS.sb (by ((refine Sb.c (Tk.t Tk.h) ?_; refine Sb.c (Tk.t Tk.h) ?_; refine Sb.c (Tk.t Tk.h) ?_; refine Sb.c (Tk.t Tk.h) ?_; refine Sb.c (Tk.t Tk.h) ?_; refine Sb.c (Tk.t Tk.h) ?_; refine Sb.c Tk.h ?_); (exact Sb.r)))⟩
                · skip
                  refine GO.storeW rfl rfl (Tk.t Tk.h) ⟨rfl, rfl⟩ (by simp [Value.oneCell']; assumption) ?_
                  refine GO.nil ⟨rfl, .tuple #[], pt b14 (row [i64 (sideO ol : Nat), r'] 52) :: K' :: fourP P :: z' :: q :: pt b3 (row (marr m) 50) :: F, rfl, ImpS.sb (by ((refine Sb.c (Tk.t Tk.h) ?_; refine Sb.c Tk.h ?_; refine Sb.c Tk.h ?_; refine Sb.c Tk.h ?_; refine Sb.c Tk.h ?_; refine Sb.c Tk.h ?_; refine Sb.c Tk.h ?_); (exact Sb.r))), ?_⟩
                  refine GW.one (i := 9) (by kernel_rfl) rfl ?_
                  refine GO.extract rfl rfl rfl ?_
                  refine GO.nil ⟨rfl, _, _, rfl, ImpS.refl, ?_⟩
                  refine GW.one (i := 12) (by kernel_rfl) rfl ?_
                  refine GO.assign rfl rfl ?_
                  refine GO.nil ⟨rfl, _, _, rfl, ImpS.refl, ?_⟩
                  refine GW.nil ⟨r', z', b14, hone', hr', hsup, by (refine SubE.c rfl rfl ?_; refine SubE.c rfl rfl ?_; refine SubE.c rfl rfl ?_; refine SubE.c rfl rfl ?_; refine SubE.c rfl rfl ?_; refine SubE.c rfl rfl ?_; refine SubE.c rfl rfl ?_; refine SubE.c rfl rfl ?_; refine SubE.c rfl rfl ?_; refine SubE.c rfl rfl ?_; refine SubE.c rfl rfl ?_; refine SubE.c rfl rfl ?_; exact SubE.n), ImpS.sb (by ((refine Sb.c (Tk.t Tk.h) ?_; refine Sb.c (Tk.t Tk.h) ?_; refine Sb.c (Tk.t Tk.h) ?_; refine Sb.c (Tk.t Tk.h) ?_; refine Sb.c (Tk.t Tk.h) ?_; refine Sb.c (Tk.t Tk.h) ?_; refine Sb.c Tk.h ?_); (exact Sb.r)))⟩
            · skip
              refine GO.extract rfl rfl rfl ?_
              refine GO.nil ⟨rfl, _, _, rfl, ImpS.refl, ?_⟩
              refine GW.two (i1 := 8) (i2 := 10) (by kernel_rfl) rfl rfl ?_ ?_
              · skip
                refine GO.extract rfl rfl rfl ?_
                refine GO.nil ⟨rfl, _, _, rfl, ImpS.refl, ?_⟩
                refine GW.one (i := 10) (by kernel_rfl) rfl ?_
                refine GO.alloc rfl fun b14 => ?_
                refine GO.nil ⟨rfl, _, pt b14 (row [i64 0, .slice none 0 0] 52) :: K' :: fourP P :: z' :: q :: pt b3 (row (marr m) 50) :: F, rfl, ImpS.sb (by ((refine Sb.c (Tk.t Tk.h) ?_; refine Sb.c Tk.h ?_; refine Sb.c Tk.h ?_; refine Sb.c Tk.h ?_; refine Sb.c Tk.h ?_; refine Sb.c Tk.h ?_; refine Sb.c Tk.h ?_); (exact Sb.r))), ?_⟩
                refine GW.one (i := 11) (by kernel_rfl) rfl ?_
                refine GO.storeW rfl rfl (Tk.t Tk.h) ⟨rfl, rfl⟩ (by simp [Value.oneCell']; assumption) ?_
                refine GO.nil ⟨rfl, .tuple #[], pt b14 (row [i64 (sideO ol : Nat), r'] 52) :: K' :: fourP P :: z' :: q :: pt b3 (row (marr m) 50) :: F, rfl, ImpS.sb (by ((refine Sb.c (Tk.t Tk.h) ?_; refine Sb.c Tk.h ?_; refine Sb.c Tk.h ?_; refine Sb.c Tk.h ?_; refine Sb.c Tk.h ?_; refine Sb.c Tk.h ?_; refine Sb.c Tk.h ?_); (exact Sb.r))), ?_⟩
                refine GW.one (i := 12) (by kernel_rfl) rfl ?_
                refine GO.assign rfl rfl ?_
                refine GO.nil ⟨rfl, _, _, rfl, ImpS.refl, ?_⟩
                refine GW.nil ⟨r', z', b14, hone', hr', hsup, by (refine SubE.c rfl rfl ?_; refine SubE.c rfl rfl ?_; refine SubE.c rfl rfl ?_; refine SubE.c rfl rfl ?_; refine SubE.c rfl rfl ?_; refine SubE.c rfl rfl ?_; refine SubE.c rfl rfl ?_; refine SubE.c rfl rfl ?_; refine SubE.c rfl rfl ?_; refine SubE.c rfl rfl ?_; refine SubE.c rfl rfl ?_; refine SubE.c rfl rfl ?_; exact SubE.n), ImpS.sb (by ((refine Sb.c (Tk.t Tk.h) ?_; refine Sb.c (Tk.t Tk.h) ?_; refine Sb.c (Tk.t Tk.h) ?_; refine Sb.c (Tk.t Tk.h) ?_; refine Sb.c (Tk.t Tk.h) ?_; refine Sb.c (Tk.t Tk.h) ?_; refine Sb.c Tk.h ?_); (exact Sb.r)))⟩
              · skip
                refine GO.alloc rfl fun b14 => ?_
                refine GO.nil ⟨rfl, _, pt b14 (row [i64 0, .slice none 0 0] 52) :: K' :: fourP P :: z' :: q :: pt b3 (row (marr m) 50) :: F, rfl, ImpS.sb (by ((refine Sb.c (Tk.t Tk.h) ?_; refine Sb.c Tk.h ?_; refine Sb.c Tk.h ?_; refine Sb.c Tk.h ?_; refine Sb.c Tk.h ?_; refine Sb.c Tk.h ?_; refine Sb.c Tk.h ?_); (exact Sb.r))), ?_⟩
                refine GW.one (i := 8) (by kernel_rfl) rfl ?_
                refine GO.extract rfl rfl rfl ?_
                refine GO.nil ⟨rfl, _, _, rfl, ImpS.refl, ?_⟩
                refine GW.one (i := 11) (by kernel_rfl) rfl ?_
                refine GO.storeW rfl rfl (Tk.t Tk.h) ⟨rfl, rfl⟩ (by simp [Value.oneCell']; assumption) ?_
                refine GO.nil ⟨rfl, .tuple #[], pt b14 (row [i64 (sideO ol : Nat), r'] 52) :: K' :: fourP P :: z' :: q :: pt b3 (row (marr m) 50) :: F, rfl, ImpS.sb (by ((refine Sb.c (Tk.t Tk.h) ?_; refine Sb.c Tk.h ?_; refine Sb.c Tk.h ?_; refine Sb.c Tk.h ?_; refine Sb.c Tk.h ?_; refine Sb.c Tk.h ?_; refine Sb.c Tk.h ?_); (exact Sb.r))), ?_⟩
                refine GW.one (i := 12) (by kernel_rfl) rfl ?_
                refine GO.assign rfl rfl ?_
                refine GO.nil ⟨rfl, _, _, rfl, ImpS.refl, ?_⟩
                refine GW.nil ⟨r', z', b14, hone', hr', hsup, by (refine SubE.c rfl rfl ?_; refine SubE.c rfl rfl ?_; refine SubE.c rfl rfl ?_; refine SubE.c rfl rfl ?_; refine SubE.c rfl rfl ?_; refine SubE.c rfl rfl ?_; refine SubE.c rfl rfl ?_; refine SubE.c rfl rfl ?_; refine SubE.c rfl rfl ?_; refine SubE.c rfl rfl ?_; refine SubE.c rfl rfl ?_; refine SubE.c rfl rfl ?_; exact SubE.n), ImpS.sb (by ((refine Sb.c (Tk.t Tk.h) ?_; refine Sb.c (Tk.t Tk.h) ?_; refine Sb.c (Tk.t Tk.h) ?_; refine Sb.c (Tk.t Tk.h) ?_; refine Sb.c (Tk.t Tk.h) ?_; refine Sb.c (Tk.t Tk.h) ?_; refine Sb.c Tk.h ?_); (exact Sb.r)))⟩
            · skip
              refine GO.alloc rfl fun b14 => ?_
              refine GO.nil ⟨rfl, _, pt b14 (row [i64 0, .slice none 0 0] 52) :: K' :: fourP P :: z' :: q :: pt b3 (row (marr m) 50) :: F, rfl, ImpS.sb (by ((refine Sb.c (Tk.t Tk.h) ?_; refine Sb.c Tk.h ?_; refine Sb.c Tk.h ?_; refine Sb.c Tk.h ?_; refine Sb.c Tk.h ?_; refine Sb.c Tk.h ?_; refine Sb.c Tk.h ?_); (exact Sb.r))), ?_⟩
              refine GW.two (i1 := 8) (i2 := 9) (by kernel_rfl) rfl rfl ?_ ?_
              · skip
                refine GO.extract rfl rfl rfl ?_
                refine GO.nil ⟨rfl, _, _, rfl, ImpS.refl, ?_⟩
                refine GW.two (i1 := 9) (i2 := 11) (by kernel_rfl) rfl rfl ?_ ?_
                · skip
                  refine GO.extract rfl rfl rfl ?_
                  refine GO.nil ⟨rfl, _, _, rfl, ImpS.refl, ?_⟩
                  refine GW.one (i := 11) (by kernel_rfl) rfl ?_
                  refine GO.storeW rfl rfl (Tk.t Tk.h) ⟨rfl, rfl⟩ (by simp [Value.oneCell']; assumption) ?_
                  refine GO.nil ⟨rfl, .tuple #[], pt b14 (row [i64 (sideO ol : Nat), r'] 52) :: K' :: fourP P :: z' :: q :: pt b3 (row (marr m) 50) :: F, rfl, ImpS.sb (by ((refine Sb.c (Tk.t Tk.h) ?_; refine Sb.c Tk.h ?_; refine Sb.c Tk.h ?_; refine Sb.c Tk.h ?_; refine Sb.c Tk.h ?_; refine Sb.c Tk.h ?_; refine Sb.c Tk.h ?_); (exact Sb.r))), ?_⟩
                  refine GW.one (i := 12) (by kernel_rfl) rfl ?_
                  refine GO.assign rfl rfl ?_
                  refine GO.nil ⟨rfl, _, _, rfl, ImpS.refl, ?_⟩
                  refine GW.nil ⟨r', z', b14, hone', hr', hsup, by (refine SubE.c rfl rfl ?_; refine SubE.c rfl rfl ?_; refine SubE.c rfl rfl ?_; refine SubE.c rfl rfl ?_; refine SubE.c rfl rfl ?_; refine SubE.c rfl rfl ?_; refine SubE.c rfl rfl ?_; refine SubE.c rfl rfl ?_; refine SubE.c rfl rfl ?_; refine SubE.c rfl rfl ?_; refine SubE.c rfl rfl ?_; refine SubE.c rfl rfl ?_; exact SubE.n), ImpS.sb (by ((refine Sb.c (Tk.t Tk.h) ?_; refine Sb.c (Tk.t Tk.h) ?_; refine Sb.c (Tk.t Tk.h) ?_; refine Sb.c (Tk.t Tk.h) ?_; refine Sb.c (Tk.t Tk.h) ?_; refine Sb.c (Tk.t Tk.h) ?_; refine Sb.c Tk.h ?_); (exact Sb.r)))⟩
                · skip
                  refine GO.storeW rfl rfl (Tk.t Tk.h) ⟨rfl, rfl⟩ (by simp [Value.oneCell']; assumption) ?_
                  refine GO.nil ⟨rfl, .tuple #[], pt b14 (row [i64 (sideO ol : Nat), r'] 52) :: K' :: fourP P :: z' :: q :: pt b3 (row (marr m) 50) :: F, rfl, ImpS.sb (by ((refine Sb.c (Tk.t Tk.h) ?_; refine Sb.c Tk.h ?_; refine Sb.c Tk.h ?_; refine Sb.c Tk.h ?_; refine Sb.c Tk.h ?_; refine Sb.c Tk.h ?_; refine Sb.c Tk.h ?_); (exact Sb.r))), ?_⟩
                  refine GW.one (i := 9) (by kernel_rfl) rfl ?_
                  refine GO.extract rfl rfl rfl ?_
                  refine GO.nil ⟨rfl, _, _, rfl, ImpS.refl, ?_⟩
                  refine GW.one (i := 12) (by kernel_rfl) rfl ?_
                  refine GO.assign rfl rfl ?_
                  refine GO.nil ⟨rfl, _, _, rfl, ImpS.refl, ?_⟩
                  refine GW.nil ⟨r', z', b14, hone', hr', hsup, by (refine SubE.c rfl rfl ?_; refine SubE.c rfl rfl ?_; refine SubE.c rfl rfl ?_; refine SubE.c rfl rfl ?_; refine SubE.c rfl rfl ?_; refine SubE.c rfl rfl ?_; refine SubE.c rfl rfl ?_; refine SubE.c rfl rfl ?_; refine SubE.c rfl rfl ?_; refine SubE.c rfl rfl ?_; refine SubE.c rfl rfl ?_; refine SubE.c rfl rfl ?_; exact SubE.n), ImpS.sb (by ((refine Sb.c (Tk.t Tk.h) ?_; refine Sb.c (Tk.t Tk.h) ?_; refine Sb.c (Tk.t Tk.h) ?_; refine Sb.c (Tk.t Tk.h) ?_; refine Sb.c (Tk.t Tk.h) ?_; refine Sb.c (Tk.t Tk.h) ?_; refine Sb.c Tk.h ?_); (exact Sb.r)))⟩
              · skip
                refine GO.extract rfl rfl rfl ?_
                refine GO.nil ⟨rfl, _, _, rfl, ImpS.refl, ?_⟩
                refine GW.one (i := 8) (by kernel_rfl) rfl ?_
                refine GO.extract rfl rfl rfl ?_
                refine GO.nil ⟨rfl, _, _, rfl, ImpS.refl, ?_⟩
                refine GW.one (i := 11) (by kernel_rfl) rfl ?_
                refine GO.storeW rfl rfl (Tk.t Tk.h) ⟨rfl, rfl⟩ (by simp [Value.oneCell']; assumption) ?_
                refine GO.nil ⟨rfl, .tuple #[], pt b14 (row [i64 (sideO ol : Nat), r'] 52) :: K' :: fourP P :: z' :: q :: pt b3 (row (marr m) 50) :: F, rfl, ImpS.sb (by ((refine Sb.c (Tk.t Tk.h) ?_; refine Sb.c Tk.h ?_; refine Sb.c Tk.h ?_; refine Sb.c Tk.h ?_; refine Sb.c Tk.h ?_; refine Sb.c Tk.h ?_; refine Sb.c Tk.h ?_); (exact Sb.r))), ?_⟩
                refine GW.one (i := 12) (by kernel_rfl) rfl ?_
                refine GO.assign rfl rfl ?_
                refine GO.nil ⟨rfl, _, _, rfl, ImpS.refl, ?_⟩
                refine GW.nil ⟨r', z', b14, hone', hr', hsup, by (refine SubE.c rfl rfl ?_; refine SubE.c rfl rfl ?_; refine SubE.c rfl rfl ?_; refine SubE.c rfl rfl ?_; refine SubE.c rfl rfl ?_; refine SubE.c rfl rfl ?_; refine SubE.c rfl rfl ?_; refine SubE.c rfl rfl ?_; refine SubE.c rfl rfl ?_; refine SubE.c rfl rfl ?_; refine SubE.c rfl rfl ?_; refine SubE.c rfl rfl ?_; exact SubE.n), ImpS.sb (by ((refine Sb.c (Tk.t Tk.h) ?_; refine Sb.c (Tk.t Tk.h) ?_; refine Sb.c (Tk.t Tk.h) ?_; refine Sb.c (Tk.t Tk.h) ?_; refine Sb.c (Tk.t Tk.h) ?_; refine Sb.c (Tk.t Tk.h) ?_; refine Sb.c Tk.h ?_); (exact Sb.r)))⟩
          · skip
            refine GO.alloc rfl fun b14 => ?_
            refine GO.nil ⟨rfl, _, pt b14 (row [i64 0, .slice none 0 0] 52) :: K' :: fourP P :: z' :: q :: pt b3 (row (marr m) 50) :: F, rfl, ImpS.sb (by ((refine Sb.c (Tk.t Tk.h) ?_; refine Sb.c Tk.h ?_; refine Sb.c Tk.h ?_; refine Sb.c Tk.h ?_; refine Sb.c Tk.h ?_; refine Sb.c Tk.h ?_; refine Sb.c Tk.h ?_); (exact Sb.r))), ?_⟩
            refine GW.one (i := 7) (by kernel_rfl) rfl ?_
            refine GO.move rfl rfl ?_
            refine GO.nil ⟨rfl, _, _, rfl, ImpS.refl, ?_⟩
            refine GW.two (i1 := 8) (i2 := 9) (by kernel_rfl) rfl rfl ?_ ?_
            · skip
              refine GO.extract rfl rfl rfl ?_
              refine GO.nil ⟨rfl, _, _, rfl, ImpS.refl, ?_⟩
              refine GW.two (i1 := 9) (i2 := 11) (by kernel_rfl) rfl rfl ?_ ?_
              · skip
                refine GO.extract rfl rfl rfl ?_
                refine GO.nil ⟨rfl, _, _, rfl, ImpS.refl, ?_⟩
                refine GW.one (i := 11) (by kernel_rfl) rfl ?_
                refine GO.storeW rfl rfl (Tk.t Tk.h) ⟨rfl, rfl⟩ (by simp [Value.oneCell']; assumption) ?_
                refine GO.nil ⟨rfl, .tuple #[], pt b14 (row [i64 (sideO ol : Nat), r'] 52) :: K' :: fourP P :: z' :: q :: pt b3 (row (marr m) 50) :: F, rfl, ImpS.sb (by ((refine Sb.c (Tk.t Tk.h) ?_; refine Sb.c Tk.h ?_; refine Sb.c Tk.h ?_; refine Sb.c Tk.h ?_; refine Sb.c Tk.h ?_; refine Sb.c Tk.h ?_; refine Sb.c Tk.h ?_); (exact Sb.r))), ?_⟩
                refine GW.one (i := 12) (by kernel_rfl) rfl ?_
                refine GO.assign rfl rfl ?_
                refine GO.nil ⟨rfl, _, _, rfl, ImpS.refl, ?_⟩
                refine GW.nil ⟨r', z', b14, hone', hr', hsup, by (refine SubE.c rfl rfl ?_; refine SubE.c rfl rfl ?_; refine SubE.c rfl rfl ?_; refine SubE.c rfl rfl ?_; refine SubE.c rfl rfl ?_; refine SubE.c rfl rfl ?_; refine SubE.c rfl rfl ?_; refine SubE.c rfl rfl ?_; refine SubE.c rfl rfl ?_; refine SubE.c rfl rfl ?_; refine SubE.c rfl rfl ?_; refine SubE.c rfl rfl ?_; exact SubE.n), ImpS.sb (by ((refine Sb.c (Tk.t Tk.h) ?_; refine Sb.c (Tk.t Tk.h) ?_; refine Sb.c (Tk.t Tk.h) ?_; refine Sb.c (Tk.t Tk.h) ?_; refine Sb.c (Tk.t Tk.h) ?_; refine Sb.c (Tk.t Tk.h) ?_; refine Sb.c Tk.h ?_); (exact Sb.r)))⟩
              · skip
                refine GO.storeW rfl rfl (Tk.t Tk.h) ⟨rfl, rfl⟩ (by simp [Value.oneCell']; assumption) ?_
                refine GO.nil ⟨rfl, .tuple #[], pt b14 (row [i64 (sideO ol : Nat), r'] 52) :: K' :: fourP P :: z' :: q :: pt b3 (row (marr m) 50) :: F, rfl, ImpS.sb (by ((refine Sb.c (Tk.t Tk.h) ?_; refine Sb.c Tk.h ?_; refine Sb.c Tk.h ?_; refine Sb.c Tk.h ?_; refine Sb.c Tk.h ?_; refine Sb.c Tk.h ?_; refine Sb.c Tk.h ?_); (exact Sb.r))), ?_⟩
                refine GW.one (i := 9) (by kernel_rfl) rfl ?_
                refine GO.extract rfl rfl rfl ?_
                refine GO.nil ⟨rfl, _, _, rfl, ImpS.refl, ?_⟩
                refine GW.one (i := 12) (by kernel_rfl) rfl ?_
                refine GO.assign rfl rfl ?_
                refine GO.nil ⟨rfl, _, _, rfl, ImpS.refl, ?_⟩
                refine GW.nil ⟨r', z', b14, hone', hr', hsup, by (refine SubE.c rfl rfl ?_; refine SubE.c rfl rfl ?_; refine SubE.c rfl rfl ?_; refine SubE.c rfl rfl ?_; refine SubE.c rfl rfl ?_; refine SubE.c rfl rfl ?_; refine SubE.c rfl rfl ?_; refine SubE.c rfl rfl ?_; refine SubE.c rfl rfl ?_; refine SubE.c rfl rfl ?_; refine SubE.c rfl rfl ?_; refine SubE.c rfl rfl ?_; exact SubE.n), ImpS.sb (by ((refine Sb.c (Tk.t Tk.h) ?_; refine Sb.c (Tk.t Tk.h) ?_; refine Sb.c (Tk.t Tk.h) ?_; refine Sb.c (Tk.t Tk.h) ?_; refine Sb.c (Tk.t Tk.h) ?_; refine Sb.c (Tk.t Tk.h) ?_; refine Sb.c Tk.h ?_); (exact Sb.r)))⟩
            · skip
              refine GO.extract rfl rfl rfl ?_
              refine GO.nil ⟨rfl, _, _, rfl, ImpS.refl, ?_⟩
              refine GW.one (i := 8) (by kernel_rfl) rfl ?_
              refine GO.extract rfl rfl rfl ?_
              refine GO.nil ⟨rfl, _, _, rfl, ImpS.refl, ?_⟩
              refine GW.one (i := 11) (by kernel_rfl) rfl ?_
              refine GO.storeW rfl rfl (Tk.t Tk.h) ⟨rfl, rfl⟩ (by simp [Value.oneCell']; assumption) ?_
              refine GO.nil ⟨rfl, .tuple #[], pt b14 (row [i64 (sideO ol : Nat), r'] 52) :: K' :: fourP P :: z' :: q :: pt b3 (row (marr m) 50) :: F, rfl, ImpS.sb (by ((refine Sb.c (Tk.t Tk.h) ?_; refine Sb.c Tk.h ?_; refine Sb.c Tk.h ?_; refine Sb.c Tk.h ?_; refine Sb.c Tk.h ?_; refine Sb.c Tk.h ?_; refine Sb.c Tk.h ?_); (exact Sb.r))), ?_⟩
              refine GW.one (i := 12) (by kernel_rfl) rfl ?_
              refine GO.assign rfl rfl ?_
              refine GO.nil ⟨rfl, _, _, rfl, ImpS.refl, ?_⟩
              refine GW.nil ⟨r', z', b14, hone', hr', hsup, by (refine SubE.c rfl rfl ?_; refine SubE.c rfl rfl ?_; refine SubE.c rfl rfl ?_; refine SubE.c rfl rfl ?_; refine SubE.c rfl rfl ?_; refine SubE.c rfl rfl ?_; refine SubE.c rfl rfl ?_; refine SubE.c rfl rfl ?_; refine SubE.c rfl rfl ?_; refine SubE.c rfl rfl ?_; refine SubE.c rfl rfl ?_; refine SubE.c rfl rfl ?_; exact SubE.n), ImpS.sb (by ((refine Sb.c (Tk.t Tk.h) ?_; refine Sb.c (Tk.t Tk.h) ?_; refine Sb.c (Tk.t Tk.h) ?_; refine Sb.c (Tk.t Tk.h) ?_; refine Sb.c (Tk.t Tk.h) ?_; refine Sb.c (Tk.t Tk.h) ?_; refine Sb.c Tk.h ?_); (exact Sb.r)))⟩
        · skip
          refine GO.alloc rfl fun b14 => ?_
          refine GO.nil ⟨rfl, _, pt b14 (row [i64 0, .slice none 0 0] 52) :: K' :: fourP P :: Z :: q :: pt b3 (row (marr m) 50) :: F, rfl, ImpS.sb (by ((refine Sb.c (Tk.t Tk.h) ?_; refine Sb.c Tk.h ?_; refine Sb.c Tk.h ?_; refine Sb.c Tk.h ?_; refine Sb.c Tk.h ?_; refine Sb.c Tk.h ?_; refine Sb.c Tk.h ?_); (exact Sb.r))), ?_⟩
          refine GW.one (i := 6) (by kernel_rfl) rfl ?_
          refine GO.call2 rfl rfl rfl (hR) (Tks.c (Tk.t (Tk.t (Tk.t (Tk.t Tk.h)))) Tks.n) ?_
          rintro _ _ ⟨r', z', rfl, hone', hr', hsup, rfl⟩
          refine GO.nil ⟨rfl, _, pt b14 (row [i64 0, .slice none 0 0] 52) :: K' :: fourP P :: z' :: q :: pt b3 (row (marr m) 50) :: F, rfl, ImpS.sb (by ((refine Sb.c (Tk.t Tk.h) ?_; refine Sb.c (Tk.t Tk.h) ?_; refine Sb.c (Tk.t Tk.h) ?_; refine Sb.c (Tk.t Tk.h) ?_; refine Sb.c Tk.h ?_; refine Sb.c Tk.h ?_; refine Sb.c Tk.h ?_); (exact Sb.r))), ?_⟩
          refine GW.one (i := 7) (by kernel_rfl) rfl ?_
          refine GO.move rfl rfl ?_
          refine GO.nil ⟨rfl, _, _, rfl, ImpS.refl, ?_⟩
          refine GW.two (i1 := 8) (i2 := 9) (by kernel_rfl) rfl rfl ?_ ?_
          · skip
            refine GO.extract rfl rfl rfl ?_
            refine GO.nil ⟨rfl, _, _, rfl, ImpS.refl, ?_⟩
            refine GW.two (i1 := 9) (i2 := 11) (by kernel_rfl) rfl rfl ?_ ?_
            · skip
              refine GO.extract rfl rfl rfl ?_
              refine GO.nil ⟨rfl, _, _, rfl, ImpS.refl, ?_⟩
              refine GW.one (i := 11) (by kernel_rfl) rfl ?_
              refine GO.storeW rfl rfl (Tk.t Tk.h) ⟨rfl, rfl⟩ (by simp [Value.oneCell']; assumption) ?_
              refine GO.nil ⟨rfl, .tuple #[], pt b14 (row [i64 (sideO ol : Nat), r'] 52) :: K' :: fourP P :: z' :: q :: pt b3 (row (marr m) 50) :: F, rfl, ImpS.sb (by ((refine Sb.c (Tk.t Tk.h) ?_; refine Sb.c Tk.h ?_; refine Sb.c Tk.h ?_; refine Sb.c Tk.h ?_; refine Sb.c Tk.h ?_; refine Sb.c Tk.h ?_; refine Sb.c Tk.h ?_); (exact Sb.r))), ?_⟩
              refine GW.one (i := 12) (by kernel_rfl) rfl ?_
              refine GO.assign rfl rfl ?_
              refine GO.nil ⟨rfl, _, _, rfl, ImpS.refl, ?_⟩
              refine GW.nil ⟨r', z', b14, hone', hr', hsup, by (refine SubE.c rfl rfl ?_; refine SubE.c rfl rfl ?_; refine SubE.c rfl rfl ?_; refine SubE.c rfl rfl ?_; refine SubE.c rfl rfl ?_; refine SubE.c rfl rfl ?_; refine SubE.c rfl rfl ?_; refine SubE.c rfl rfl ?_; refine SubE.c rfl rfl ?_; refine SubE.c rfl rfl ?_; refine SubE.c rfl rfl ?_; refine SubE.c rfl rfl ?_; exact SubE.n), ImpS.sb (by ((refine Sb.c (Tk.t Tk.h) ?_; refine Sb.c (Tk.t Tk.h) ?_; refine Sb.c (Tk.t Tk.h) ?_; refine Sb.c (Tk.t Tk.h) ?_; refine Sb.c (Tk.t Tk.h) ?_; refine Sb.c (Tk.t Tk.h) ?_; refine Sb.c Tk.h ?_); (exact Sb.r)))⟩
            · skip
              refine GO.storeW rfl rfl (Tk.t Tk.h) ⟨rfl, rfl⟩ (by simp [Value.oneCell']; assumption) ?_
              refine GO.nil ⟨rfl, .tuple #[], pt b14 (row [i64 (sideO ol : Nat), r'] 52) :: K' :: fourP P :: z' :: q :: pt b3 (row (marr m) 50) :: F, rfl, ImpS.sb (by ((refine Sb.c (Tk.t Tk.h) ?_; refine Sb.c Tk.h ?_; refine Sb.c Tk.h ?_; refine Sb.c Tk.h ?_; refine Sb.c Tk.h ?_; refine Sb.c Tk.h ?_; refine Sb.c Tk.h ?_); (exact Sb.r))), ?_⟩
              refine GW.one (i := 9) (by kernel_rfl) rfl ?_
              refine GO.extract rfl rfl rfl ?_
              refine GO.nil ⟨rfl, _, _, rfl, ImpS.refl, ?_⟩
              refine GW.one (i := 12) (by kernel_rfl) rfl ?_
              refine GO.assign rfl rfl ?_
              refine GO.nil ⟨rfl, _, _, rfl, ImpS.refl, ?_⟩
              refine GW.nil ⟨r', z', b14, hone', hr', hsup, by (refine SubE.c rfl rfl ?_; refine SubE.c rfl rfl ?_; refine SubE.c rfl rfl ?_; refine SubE.c rfl rfl ?_; refine SubE.c rfl rfl ?_; refine SubE.c rfl rfl ?_; refine SubE.c rfl rfl ?_; refine SubE.c rfl rfl ?_; refine SubE.c rfl rfl ?_; refine SubE.c rfl rfl ?_; refine SubE.c rfl rfl ?_; refine SubE.c rfl rfl ?_; exact SubE.n), ImpS.sb (by ((refine Sb.c (Tk.t Tk.h) ?_; refine Sb.c (Tk.t Tk.h) ?_; refine Sb.c (Tk.t Tk.h) ?_; refine Sb.c (Tk.t Tk.h) ?_; refine Sb.c (Tk.t Tk.h) ?_; refine Sb.c (Tk.t Tk.h) ?_; refine Sb.c Tk.h ?_); (exact Sb.r)))⟩
          · skip
            refine GO.extract rfl rfl rfl ?_
            refine GO.nil ⟨rfl, _, _, rfl, ImpS.refl, ?_⟩
            refine GW.one (i := 8) (by kernel_rfl) rfl ?_
            refine GO.extract rfl rfl rfl ?_
            refine GO.nil ⟨rfl, _, _, rfl, ImpS.refl, ?_⟩
            refine GW.one (i := 11) (by kernel_rfl) rfl ?_
            refine GO.storeW rfl rfl (Tk.t Tk.h) ⟨rfl, rfl⟩ (by simp [Value.oneCell']; assumption) ?_
            refine GO.nil ⟨rfl, .tuple #[], pt b14 (row [i64 (sideO ol : Nat), r'] 52) :: K' :: fourP P :: z' :: q :: pt b3 (row (marr m) 50) :: F, rfl, ImpS.sb (by ((refine Sb.c (Tk.t Tk.h) ?_; refine Sb.c Tk.h ?_; refine Sb.c Tk.h ?_; refine Sb.c Tk.h ?_; refine Sb.c Tk.h ?_; refine Sb.c Tk.h ?_; refine Sb.c Tk.h ?_); (exact Sb.r))), ?_⟩
            refine GW.one (i := 12) (by kernel_rfl) rfl ?_
            refine GO.assign rfl rfl ?_
            refine GO.nil ⟨rfl, _, _, rfl, ImpS.refl, ?_⟩
            refine GW.nil ⟨r', z', b14, hone', hr', hsup, by (refine SubE.c rfl rfl ?_; refine SubE.c rfl rfl ?_; refine SubE.c rfl rfl ?_; refine SubE.c rfl rfl ?_; refine SubE.c rfl rfl ?_; refine SubE.c rfl rfl ?_; refine SubE.c rfl rfl ?_; refine SubE.c rfl rfl ?_; refine SubE.c rfl rfl ?_; refine SubE.c rfl rfl ?_; refine SubE.c rfl rfl ?_; refine SubE.c rfl rfl ?_; exact SubE.n), ImpS.sb (by ((refine Sb.c (Tk.t Tk.h) ?_; refine Sb.c (Tk.t Tk.h) ?_; refine Sb.c (Tk.t Tk.h) ?_; refine Sb.c (Tk.t Tk.h) ?_; refine Sb.c (Tk.t Tk.h) ?_; refine Sb.c (Tk.t Tk.h) ?_; refine Sb.c Tk.h ?_); (exact Sb.r)))⟩
      rintro L' H' ⟨r', z', b14, hone', hr', hsup, hL', hH'⟩
      have one : OneOK K' z' (.pointer pk) ol r' := ⟨hK', wfl, hr', hone'⟩
      have hisn : pk.isNone = decide (((sideO ol : Nat) : Int) = 0) := eq_of_beq (by simpa using one.isNone)
      refine GO.keep hH' (GO.sub hL' Sb.r ?_)
      (refine GO.nil ?_; refine kthen_n ?_; refine G.seq ?_; refine G.seq ?_; refine G.region ?_; refine GO.move rfl rfl ?_; refine GO.move rfl rfl ?_; refine GO.neF rfl rfl rfl rfl ?_; refine GO.move rfl rfl ?_; refine GO.gT rfl rfl rfl ?_; refine GO.move rfl rfl ?_; refine GO.gT rfl rfl rfl ?_; refine GO.eqNilP rfl rfl ?_; refine GO.gT rfl rfl rfl ?_; refine GO.fieldAddr rfl rfl ?_; refine GO.gT rfl rfl rfl ?_; refine GO.load1 rfl rfl rfl Tk.h rfl ?_; refine GO.gT rfl rfl rfl ?_; refine GO.eqi rfl rfl rfl ?_; refine GO.gT rfl rfl rfl ?_; refine GO.neqB rfl rfl rfl ?_; refine GO.pickF rfl rfl rfl ?_; refine GO.nil ?_; refine kthen_n ?_)
      rw [one.isNone]
      (refine G.condF rfl rfl ?_; refine G.skip ?_; refine kthen_n ?_)
      refine G.drawT 7 32 [pt b14 (row [i64 (sideO ol : Nat), r'] 52)] (pt b3 (row (marr m) 50) :: pt b4 (row (rarr o r) 53) :: K' :: fourP P :: z' :: q :: F) (by kernel_rfl) (keys_of rfl) (ImpS.sb (by ((refine Sb.c Tk.h ?_; refine Sb.c (Tk.t (Tk.t (Tk.t (Tk.t Tk.h)))) ?_; refine Sb.c (Tk.t (Tk.t (Tk.t (Tk.t Tk.h)))) ?_; refine Sb.c Tk.h ?_; refine Sb.c Tk.h ?_; refine Sb.c Tk.h ?_; refine Sb.c Tk.h ?_); (exact Sb.r)))) ?_
      ((apply GR.step rfl; focus (intro Z; refine GO.move rfl rfl ?_; exact KQ.z)); (apply GR.step rfl; focus (intro Z; refine GO.move rfl rfl ?_; exact KQ.z)); (apply GR.step rfl; focus (intro Z; refine GO.move rfl rfl ?_; exact KQ.z)); (apply GR.step rfl; focus (intro Z; refine GO.loadW rfl rfl rfl Tk.h rfl ?_; exact KQ.z)); (apply GR.step rfl; focus (intro Z; refine GO.idxA rfl rfl rfl ⟨rfl, by omega⟩ ?_; exact KQ.z)); refine GR.skip rfl ?_; (apply GR.step rfl; focus (intro Z; refine GO.idxA rfl rfl rfl ⟨rfl, by omega⟩ ?_; exact KQ.z)); refine GR.nil ?_)
      (repeat refine GT.skip rfl ?_)
      refine GT.step rfl ?_
      refine GO.store1 rfl rfl rfl (Tk.t Tk.h) (by rw [marr_len]; omega) ?_
      rw [show (marr m).set (0 + kc * 1) (.pointer pk) = marr (put4 m kc (.pointer pk)) by rw [Nat.zero_add, Nat.mul_one]; exact marr_set m _ hc]
      refine GO.nil ⟨rfl, .tuple #[], pt b3 (row (marr (put4 m kc (.pointer pk))) 50) :: pt b4 (row (rarr o r) 53) :: K' :: fourP P :: z' :: q :: F, rfl, ImpS.sb (by ((refine Sb.c (Tk.t Tk.h) ?_; refine Sb.c Tk.h ?_; refine Sb.c Tk.h ?_; refine Sb.c Tk.h ?_; refine Sb.c Tk.h ?_; refine Sb.c Tk.h ?_; refine Sb.c Tk.h ?_); (exact Sb.r))), ?_⟩
      (repeat refine GT.skip rfl ?_)
      refine GT.nil ?_
      refine GO.storeG (n := 2) (vs := [i64 (sideO ol : Nat), r']) rfl rfl rfl rfl (Tk.t (Tk.t Tk.h)) (by rw [rarr_len]; omega) (by simp [Value.oneCell']; assumption) ?_
      rw [show (rarr o r).take (0 + kc * 2) ++ [i64 (sideO ol : Nat), r'] ++ (rarr o r).drop (0 + kc * 2 + 2) = rarr (put4 o kc ol) (put4 r kc r') by rw [Nat.zero_add]; exact rarr_put o r _ _ hc]
      (refine GO.nil ?_; refine kblock_n ?_; refine kblock_n ?_; refine kthen_n ?_; refine G.region ?_; refine GO.move rfl rfl ?_; refine GO.addi rfl rfl rfl (by omega) ?_; refine GO.assign rfl rfl ?_; refine GO.nil ?_; refine kthen_n ?_)
      refine ⟨⟨n + 1, put4 P kc K', z', put4 m kc (.pointer pk), put4 o kc ol, put4 r kc r'⟩, ⟨by dsimp only; omega, FourOK.put (s := ⟨n, P, Z, m, o, r⟩) hok hsup kc (n + 1) one⟩, by dsimp only; omega, ?_, ?_⟩
      · (refine SubE.c rfl rfl ?_; refine SubE.c rfl rfl ?_; refine SubE.c rfl rfl ?_; refine SubE.c rfl rfl ?_; exact SubE.n)
      · dsimp only
        refine ImpS.trans (ImpS.sb (M := K' :: fourP P :: z' :: pt b3 (row (marr (put4 m kc (.pointer pk))) 50) :: pt b4 (row (rarr (put4 o kc ol) (put4 r kc r')) 53) :: q :: F) ?_) (ImpS.fourNew P K' hc _)
        ((refine Sb.c (Tk.t (Tk.t (Tk.t Tk.h))) ?_; refine Sb.c (Tk.t (Tk.t (Tk.t Tk.h))) ?_; refine Sb.c (Tk.t (Tk.t (Tk.t Tk.h))) ?_; refine Sb.c (Tk.t (Tk.t Tk.h)) ?_; refine Sb.c Tk.h ?_; refine Sb.c (Tk.t Tk.h) ?_); (refine Sb.s ?_; exact Sb.r))
    have d8 : decide (d = 8) = false := decide_eq_false hd8
    have rwa := rdW ka ha
    have rma := rdM ka ha
    have rwb := rdW kb hb
    have rmb := rdM kb hb
    by_cases hd7 : d = 7
    · subst hd7
      by_cases hab : ka = kb
      · have hD := doneJoinS q (P ka) Z (m ka) (refV (sideO (o ka)) (r ka)) (o ka) (hm ka).mat (hm ka).ref (hm ka).wf a bb i j u hu1
        have honea := (hm ka).one
        have e7 : decide ((ka : Int) = (kb : Int)) = true := decide_eq_true (by omega)
        subst hab
        (refine GO.nil ?_; refine kthen_n ?_; refine G.seq ?_; refine G.region ?_; refine GO.fieldAddr rfl rfl ?_; refine GO.load1 rfl rfl rfl Tk.h rfl ?_; refine GO.nil ?_; refine kthen_n ?_; refine G.block ?_; refine G.seq ?_; refine G.seq ?_; refine G.region ?_; refine GO.eqi rfl rfl rfl ?_; refine GO.assign rfl rfl ?_; refine GO.nil ?_; refine kthen_n ?_; refine G.condF rfl rfl ?_; refine G.region ?_; refine GO.eqi rfl rfl rfl ?_; refine GO.assign rfl rfl ?_; refine GO.nil ?_; refine kthen_n ?_; refine G.condF rfl rfl ?_; refine G.seq ?_; refine G.region ?_; refine GO.eqi rfl rfl rfl ?_; refine GO.assign rfl rfl ?_; refine GO.nil ?_; refine kthen_n ?_; refine G.condF rfl rfl ?_; refine G.seq ?_; refine G.region ?_; refine GO.eqi rfl rfl rfl ?_; refine GO.assign rfl rfl ?_; refine GO.nil ?_; refine kthen_n ?_; refine G.condF rfl rfl ?_; refine G.seq ?_; refine G.region ?_; refine GO.eqi rfl rfl rfl ?_; refine GO.assign rfl rfl ?_; refine GO.nil ?_; refine kthen_n ?_; refine G.condF rfl rfl ?_; refine G.seq ?_; refine G.region ?_; refine GO.eqi rfl rfl rfl ?_; refine GO.assign rfl rfl ?_; refine GO.nil ?_; refine kthen_n ?_; refine G.condF rfl rfl ?_; refine G.seq ?_)
        refine G.impS (ImpS.trans (ImpS.sb (M := fourP P :: Z :: pt b3 (row (marr m) 50) :: pt b4 (row (rarr o r) 53) :: q :: pt b6 (row [i64 7, i64 a, i64 bb, i64 i, i64 j, u] 55) :: F) (by ((refine Sb.c (Tk.t Tk.h) ?_; refine Sb.c (Tk.t Tk.h) ?_; refine Sb.c (Tk.t Tk.h) ?_; refine Sb.c (Tk.t Tk.h) ?_; refine Sb.c (Tk.t Tk.h) ?_; refine Sb.c Tk.h ?_); (exact Sb.r)))) (ImpS.fourOut P ha _)) ?_
        refine G.drawW 20 1040384 7 [pt b3 (row (marr m) 50), pt b4 (row (rarr o r) 53), pt b6 (row [i64 7, i64 a, i64 bb, i64 i, i64 j, u] 55)] (P ka :: oth P ka :: Z :: q :: F)
          (fun L' H' => ∃ (sp : PairS) (b16 : Nat), PairOK (m ka) Z sp ∧ sp.o = o ka ∧ SubE [(0, .slice (some ⟨b0, oo, none⟩) l.length cap0), (3, ptrV b3), (4, ptrV b4), (5, i64 (n : Nat)), (6, ptrV b6), (7, i64 (ka : Nat)), (8, i64 (ka : Nat)), (16, ptrV b16), (17, .bool true)] L' ∧ ImpS H' (pt b16 (row [i64 (sideO sp.o : Nat), sp.r] 52) :: sp.P :: sp.Z :: q :: oth P ka :: pt b3 (row (marr m) 50) :: pt b4 (row (rarr o r) 53) :: pt b6 (row [i64 7, i64 a, i64 bb, i64 i, i64 j, u] 55) :: F)) (by kernel_rfl) (by kernel_rfl) (keys_of rfl) (ImpS.sb (by ((refine Sb.c (Tk.t (Tk.t (Tk.t Tk.h))) ?_; refine Sb.c (Tk.t (Tk.t (Tk.t Tk.h))) ?_; refine Sb.c (Tk.t (Tk.t (Tk.t (Tk.t Tk.h)))) ?_; refine Sb.c Tk.h ?_; refine Sb.c Tk.h ?_; refine Sb.c Tk.h ?_; refine Sb.c Tk.h ?_); (exact Sb.r)))) ?_ ?_
        · ((apply GR.step rfl; focus (intro Z; refine GO.move rfl rfl ?_; exact KQ.z)); (apply GR.step rfl; focus (intro Z; refine GO.idxA rfl rfl rfl ⟨rfl, by omega⟩ ?_; exact KQ.z)); (apply GR.step rfl; focus (intro Z; refine GO.loadQ rfl rfl rfl Tk.h (by assumption) ?_; exact KQ.z)); (apply GR.step rfl; focus (intro Z; refine GO.move rfl rfl ?_; exact KQ.z)); (apply GR.step rfl; focus (intro Z; refine GO.idxA rfl rfl rfl ⟨rfl, by omega⟩ ?_; exact KQ.z)); (apply GR.step rfl; focus (intro Z; refine GO.loadQ rfl rfl rfl Tk.h (by assumption) ?_; exact KQ.z)); (apply GR.step rfl; focus (intro Z; refine GO.move rfl rfl ?_; exact KQ.z)); (apply GR.step rfl; focus (intro Z; refine GO.idxA rfl rfl rfl ⟨rfl, by omega⟩ ?_; exact KQ.z)))
          apply GR.step rfl; focus (intro Z9; refine GO.loadM (vs := [i64 (sideO (o ka) : Nat), r ka]) rfl rfl rfl (Tk.t Tk.h) rfl rwa ?_; exact KQ.z)
          ((apply GR.step rfl; focus (intro Z; refine GO.move rfl rfl ?_; exact KQ.z)); (apply GR.step rfl; focus (intro Z; refine GO.idxA rfl rfl rfl ⟨rfl, by omega⟩ ?_; exact KQ.z)))
          apply GR.step rfl; focus (intro Z9; refine GO.loadM (vs := [i64 (sideO (o ka) : Nat), r ka]) rfl rfl rfl (Tk.t Tk.h) rfl rwb ?_; exact KQ.z)
          ((apply GR.step rfl; focus (intro Z; refine GO.loadW rfl rfl rfl (Tk.t (Tk.t Tk.h)) rfl ?_; exact KQ.z)); refine GR.skip rfl ?_; refine GR.skip rfl ?_; refine GR.skip rfl ?_; refine GR.skip rfl ?_; refine GR.skip rfl ?_; refine GR.skip rfl ?_; refine GR.skip rfl ?_; refine GR.nil ?_)
          refine GW.two (i1 := 13) (i2 := 17) (by kernel_rfl) rfl rfl ?_ ?_
          · skip
            refine GO.call5 rfl rfl rfl rfl rfl rfl (hD) (Tks.c (Tk.t (Tk.t (Tk.t Tk.h))) (Tks.c (Tk.t (Tk.t (Tk.t (Tk.t Tk.h)))) (Tks.c (Tk.t (Tk.t (Tk.t (Tk.t Tk.h)))) Tks.n))) ?_
            rintro _ _ ⟨sp, hsp, hso, rfl, rfl⟩
            have hone9 := hsp.one
            refine GO.nil ⟨rfl, _, sp.P :: sp.Z :: q :: oth P ka :: F, rfl, ImpS.sb (by ((refine Sb.c (Tk.t (Tk.t (Tk.t Tk.h))) ?_; refine Sb.c (Tk.t (Tk.t (Tk.t Tk.h))) ?_; refine Sb.c (Tk.t (Tk.t (Tk.t Tk.h))) ?_; refine Sb.c Tk.h ?_; refine Sb.c Tk.h ?_; refine Sb.c Tk.h ?_; refine Sb.c Tk.h ?_); (exact Sb.r))), ?_⟩
            refine GW.two (i1 := 14) (i2 := 17) (by kernel_rfl) rfl rfl ?_ ?_
            · skip
              refine GO.move rfl rfl ?_
              refine GO.nil ⟨rfl, _, _, rfl, ImpS.refl, ?_⟩
              refine GW.three (i1 := 15) (i2 := 16) (i3 := 17) (by kernel_rfl) rfl rfl rfl ?_ ?_ ?_
              · skip
                refine GO.extract rfl rfl rfl ?_
                refine GO.nil ⟨rfl, _, _, rfl, ImpS.refl, ?_⟩
                refine GW.two (i1 := 16) (i2 := 17) (by kernel_rfl) rfl rfl ?_ ?_
                · skip
                  refine GO.extract rfl rfl rfl ?_
                  refine GO.nil ⟨rfl, _, _, rfl, ImpS.refl, ?_⟩
                  refine GW.one (i := 17) (by kernel_rfl) rfl ?_
                  refine GO.alloc rfl fun b16 => ?_
                  refine GO.nil ⟨rfl, _, pt b16 (row [i64 0, .slice none 0 0] 52) :: sp.P :: sp.Z :: q :: oth P ka :: F, rfl, ImpS.sb (by ((refine Sb.c (Tk.t Tk.h) ?_; refine Sb.c (Tk.t Tk.h) ?_; refine Sb.c (Tk.t Tk.h) ?_; refine Sb.c Tk.h ?_; refine Sb.c Tk.h ?_; refine Sb.c Tk.h ?_; refine Sb.c Tk.h ?_; refine Sb.c Tk.h ?_); (exact Sb.r))), ?_⟩
                  refine GW.one (i := 18) (by kernel_rfl) rfl ?_
                  refine GO.storeW rfl rfl (Tk.t (Tk.t (Tk.t Tk.h))) ⟨rfl, rfl⟩ (by simp [Value.oneCell']; assumption) ?_
                  refine GO.nil ⟨rfl, .tuple #[], pt b16 (row [i64 (sideO sp.o : Nat), sp.r] 52) :: sp.P :: sp.Z :: q :: oth P ka :: F, rfl, ImpS.sb (by ((refine Sb.c (Tk.t Tk.h) ?_; refine Sb.c (Tk.t Tk.h) ?_; refine Sb.c (Tk.t Tk.h) ?_; refine Sb.c Tk.h ?_; refine Sb.c Tk.h ?_; refine Sb.c Tk.h ?_; refine Sb.c Tk.h ?_; refine Sb.c Tk.h ?_); (exact Sb.r))), ?_⟩
                  refine GW.one (i := 19) (by kernel_rfl) rfl ?_
                  refine GO.assign rfl rfl ?_
                  refine GO.nil ⟨rfl, _, _, rfl, ImpS.refl, ?_⟩
                  refine GW.nil ⟨sp, b16, hsp, hso, by (refine SubE.c rfl rfl ?_; refine SubE.c rfl rfl ?_; refine SubE.c rfl rfl ?_; refine SubE.c rfl rfl ?_; refine SubE.c rfl rfl ?_; refine SubE.c rfl rfl ?_; refine SubE.c rfl rfl ?_; refine SubE.c rfl rfl ?_; refine SubE.c rfl rfl ?_; exact SubE.n), ImpS.sb (by ((refine Sb.c (Tk.t (Tk.t (Tk.t Tk.h))) ?_; refine Sb.c (Tk.t (Tk.t (Tk.t Tk.h))) ?_; refine Sb.c (Tk.t (Tk.t (Tk.t Tk.h))) ?_; refine Sb.c (Tk.t (Tk.t (Tk.t Tk.h))) ?_; refine Sb.c (Tk.t (Tk.t (Tk.t Tk.h))) ?_; refine Sb.c Tk.h ?_; refine Sb.c Tk.h ?_; refine Sb.c Tk.h ?_); (exact Sb.r)))⟩
                · skip
                  refine GO.alloc rfl fun b16 => ?_
                  refine GO.nil ⟨rfl, _, pt b16 (row [i64 0, .slice none 0 0] 52) :: sp.P :: sp.Z :: q :: oth P ka :: F, rfl, ImpS.sb (by ((refine Sb.c (Tk.t Tk.h) ?_; refine Sb.c (Tk.t Tk.h) ?_; refine Sb.c (Tk.t Tk.h) ?_; refine Sb.c Tk.h ?_; refine Sb.c Tk.h ?_; refine Sb.c Tk.h ?_; refine Sb.c Tk.h ?_; refine Sb.c Tk.h ?_); (exact Sb.r))), ?_⟩
                  refine GW.two (i1 := 16) (i2 := 18) (by kernel_rfl) rfl rfl ?_ ?_
                  · skip
                    refine GO.extract rfl rfl rfl ?_
                    refine GO.nil ⟨rfl, _, _, rfl, ImpS.refl, ?_⟩
                    refine GW.one (i := 18) (by kernel_rfl) rfl ?_
                    refine GO.storeW rfl rfl (Tk.t (Tk.t (Tk.t Tk.h))) ⟨rfl, rfl⟩ (by simp [Value.oneCell']; assumption) ?_
                    refine GO.nil ⟨rfl, .tuple #[], pt b16 (row [i64 (sideO sp.o : Nat), sp.r] 52) :: sp.P :: sp.Z :: q :: oth P ka :: F, rfl, ImpS.sb (by ((refine Sb.c (Tk.t Tk.h) ?_; refine Sb.c (Tk.t Tk.h) ?_; refine Sb.c (Tk.t Tk.h) ?_; refine Sb.c Tk.h ?_; refine Sb.c Tk.h ?_; refine Sb.c Tk.h ?_; refine Sb.c Tk.h ?_; refine Sb.c Tk.h ?_); (exact Sb.r))), ?_⟩
                    refine GW.one (i := 19) (by kernel_rfl) rfl ?_
                    refine GO.assign rfl rfl ?_
                    refine GO.nil ⟨rfl, _, _, rfl, ImpS.refl, ?_⟩
                    refine GW.nil ⟨sp, b16, hsp, hso, by (refine SubE.c rfl rfl ?_; refine SubE.c rfl rfl ?_; refine SubE.c rfl rfl ?_; refine SubE.c rfl rfl ?_; refine SubE.c rfl rfl ?_; refine SubE.c rfl rfl ?_; refine SubE.c rfl rfl ?_; refine SubE.c rfl rfl ?_; refine SubE.c rfl rfl ?_; exact SubE.n), ImpS.sb (by ((refine Sb.c (Tk.t (Tk.t (Tk.t Tk.h))) ?_; refine Sb.c (Tk.t (Tk.t (Tk.t Tk.h))) ?_; refine Sb.c (Tk.t (Tk.t (Tk.t Tk.h))) ?_; refine Sb.c (Tk.t (Tk.t (Tk.t Tk.h))) ?_; refine Sb.c (Tk.t (Tk.t (Tk.t Tk.h))) ?_; refine Sb.c Tk.h ?_; refine Sb.c Tk.h ?_; refine Sb.c Tk.h ?_); (exact Sb.r)))⟩
                  · skip
                    refine GO.storeW rfl rfl (Tk.t (Tk.t (Tk.t Tk.h))) ⟨rfl, rfl⟩ (by simp [Value.oneCell']; assumption) ?_
                    refine GO.nil ⟨rfl, .tuple #[], pt b16 (row [i64 (sideO sp.o : Nat), sp.r] 52) :: sp.P :: sp.Z :: q :: oth P ka :: F, rfl, ImpS.sb (by ((refine Sb.c (Tk.t Tk.h) ?_; refine Sb.c (Tk.t Tk.h) ?_; refine Sb.c (Tk.t Tk.h) ?_; refine Sb.c Tk.h ?_; refine Sb.c Tk.h ?_; refine Sb.c Tk.h ?_; refine Sb.c Tk.h ?_; refine Sb.c Tk.h ?_); (exact Sb.r))), ?_⟩
                    refine GW.one (i := 16) (by kernel_rfl) rfl ?_
                    refine GO.extract rfl rfl rfl ?_
                    refine GO.nil ⟨rfl, _, _, rfl, ImpS.refl, ?_⟩
                    refine GW.one (i := 19) (by kernel_rfl) rfl ?_
                    refine GO.assign rfl rfl ?_
                    refine GO.nil ⟨rfl, _, _, rfl, ImpS.refl, ?_⟩
                    refine GW.nil ⟨sp, b16, hsp, hso, by (refine SubE.c rfl rfl ?_; refine SubE.c rfl rfl ?_; refine SubE.c rfl rfl ?_; refine SubE.c rfl rfl ?_; refine SubE.c rfl rfl ?_; refine SubE.c rfl rfl ?_; refine SubE.c rfl rfl ?_; refine SubE.c rfl rfl ?_; refine SubE.c rfl rfl ?_; exact SubE.n), ImpS.sb (by ((refine Sb.c (Tk.t (Tk.t (Tk.t Tk.h))) ?_; refine Sb.c (Tk.t (Tk.t (Tk.t Tk.h))) ?_; refine Sb.c (Tk.t (Tk.t (Tk.t Tk.h))) ?_; refine Sb.c (Tk.t (Tk.t (Tk.t Tk.h))) ?_; refine Sb.c (Tk.t (Tk.t (Tk.t Tk.h))) ?_; refine Sb.c Tk.h ?_; refine Sb.c Tk.h ?_; refine Sb.c Tk.h ?_); (exact Sb.r)))⟩
              · skip
                refine GO.extract rfl rfl rfl ?_
                refine GO.nil ⟨rfl, _, _, rfl, ImpS.refl, ?_⟩
                refine GW.two (i1 := 15) (i2 := 17) (by kernel_rfl) rfl rfl ?_ ?_
                · skip
                  refine GO.extract rfl rfl rfl ?_
                  refine GO.nil ⟨rfl, _, _, rfl, ImpS.refl, ?_⟩
                  refine GW.one (i := 17) (by kernel_rfl) rfl ?_
                  refine GO.alloc rfl fun b16 => ?_
                  refine GO.nil ⟨rfl, _, pt b16 (row [i64 0, .slice none 0 0] 52) :: sp.P :: sp.Z :: q :: oth P ka :: F, rfl, ImpS.sb (by ((refine Sb.c (Tk.t Tk.h) ?_; refine Sb.c (Tk.t Tk.h) ?_; refine Sb.c (Tk.t Tk.h) ?_; refine Sb.c Tk.h ?_; refine Sb.c Tk.h ?_; refine Sb.c Tk.h ?_; refine Sb.c Tk.h ?_; refine Sb.c Tk.h ?_); (exact Sb.r))), ?_⟩
                  refine GW.one (i := 18) (by kernel_rfl) rfl ?_
                  refine GO.storeW rfl rfl (Tk.t (Tk.t (Tk.t Tk.h))) ⟨rfl, rfl⟩ (by simp [Value.oneCell']; assumption) ?_
                  refine GO.nil ⟨rfl, .tuple #[], pt b16 (row [i64 (sideO sp.o : Nat), sp.r] 52) :: sp.P :: sp.Z :: q :: oth P ka :: F, rfl, ImpS.sb (by ((refine Sb.c (Tk.t Tk.h) ?_; refine Sb.c (Tk.t Tk.h) ?_; refine Sb.c (Tk.t Tk.h) ?_; refine Sb.c Tk.h ?_; refine Sb.c Tk.h ?_; refine Sb.c Tk.h ?_; refine Sb.c Tk.h ?_; refine Sb.c Tk.h ?_); (exact Sb.r))), ?_⟩
                  refine GW.one (i := 19) (by kernel_rfl) rfl ?_
                  refine GO.assign rfl rfl ?_
                  refine GO.nil ⟨rfl, _, _, rfl, ImpS.refl, ?_⟩
                  refine GW.nil ⟨sp, b16, hsp, hso, by (refine SubE.c rfl rfl ?_; refine SubE.c rfl rfl ?_; refine SubE.c rfl rfl ?_; refine SubE.c rfl rfl ?_; refine SubE.c rfl rfl ?_; refine SubE.c rfl rfl ?_; refine SubE.c rfl rfl ?_; refine SubE.c rfl rfl ?_; refine SubE.c rfl rfl ?_; exact SubE.n), ImpS.sb (by ((refine Sb.c (Tk.t (Tk.t (Tk.t Tk.h))) ?_; refine Sb.c (Tk.t (Tk.t (Tk.t Tk.h))) ?_; refine Sb.c (Tk.t (Tk.t (Tk.t Tk.h))) ?_; refine Sb.c (Tk.t (Tk.t (Tk.t Tk.h))) ?_; refine Sb.c (Tk.t (Tk.t (Tk.t Tk.h))) ?_; refine Sb.c Tk.h ?_; refine Sb.c Tk.h ?_; refine Sb.c Tk.h ?_); (exact Sb.r)))⟩
                · skip
                  refine GO.alloc rfl fun b16 => ?_
                  refine GO.nil ⟨rfl, _, pt b16 (row [i64 0, .slice none 0 0] 52) :: sp.P :: sp.Z :: q :: oth P ka :: F, rfl, ImpS.sb (by ((refine Sb.c (Tk.t Tk.h) ?_; refine Sb.c (Tk.t Tk.h) ?_; refine Sb.c (Tk.t Tk.h) ?_; refine Sb.c Tk.h ?_; refine Sb.c Tk.h ?_; refine Sb.c Tk.h ?_; refine Sb.c Tk.h ?_; refine Sb.c Tk.h ?_); (exact Sb.r))), ?_⟩
                  refine GW.one (i := 15) (by kernel_rfl) rfl ?_
                  refine GO.extract rfl rfl rfl ?_
                  refine GO.nil ⟨rfl, _, _, rfl, ImpS.refl, ?_⟩
                  refine GW.one (i := 18) (by kernel_rfl) rfl ?_
                  refine GO.storeW rfl rfl (Tk.t (Tk.t (Tk.t Tk.h))) ⟨rfl, rfl⟩ (by simp [Value.oneCell']; assumption) ?_
                  refine GO.nil ⟨rfl, .tuple #[], pt b16 (row [i64 (sideO sp.o : Nat), sp.r] 52) :: sp.P :: sp.Z :: q :: oth P ka :: F, rfl, ImpS.sb (by ((refine Sb.c (Tk.t Tk.h) ?_; refine Sb.c (Tk.t Tk.h) ?_; refine Sb.c (Tk.t Tk.h) ?_; refine Sb.c Tk.h ?_; refine Sb.c Tk.h ?_; refine Sb.c Tk.h ?_; refine Sb.c Tk.h ?_; refine Sb.c Tk.h ?_); (exact Sb.r))), ?_⟩
                  refine GW.one (i := 19) (by kernel_rfl) rfl ?_
                  refine GO.assign rfl rfl ?_
                  refine GO.nil ⟨rfl, _, _, rfl, ImpS.refl, ?_⟩
                  refine GW.nil ⟨sp, b16, hsp, hso, by (refine SubE.c rfl rfl ?_; refine SubE.c rfl rfl ?_; refine SubE.c rfl rfl ?_; refine SubE.c rfl rfl ?_; refine SubE.c rfl rfl ?_; refine SubE.c rfl rfl ?_; refine SubE.c rfl rfl ?_; refine SubE.c rfl rfl ?_; refine SubE.c rfl rfl ?_; exact SubE.n), ImpS.sb (by ((refine Sb.c (Tk.t (Tk.t (Tk.t Tk.h))) ?_; refine Sb.c (Tk.t (Tk.t (Tk.t Tk.h))) ?_; refine Sb.c (Tk.t (Tk.t (Tk.t Tk.h))) ?_; refine Sb.c (Tk.t (Tk.t (Tk.t Tk.h))) ?_; refine Sb.c (Tk.t (Tk.t (Tk.t Tk.h))) ?_; refine Sb.c Tk.h ?_; refine Sb.c Tk.h ?_; refine Sb.c Tk.h ?_); (exact Sb.r)))⟩
              · skip
                refine GO.alloc rfl fun b16 => ?_
                refine GO.nil ⟨rfl, _, pt b16 (row [i64 0, .slice none 0 0] 52) :: sp.P :: sp.Z :: q :: oth P ka :: F, rfl, ImpS.sb (by ((refine Sb.c (Tk.t Tk.h) ?_; refine Sb.c (Tk.t Tk.h) ?_; refine Sb.c (Tk.t Tk.h) ?_; refine Sb.c Tk.h ?_; refine Sb.c Tk.h ?_; refine Sb.c Tk.h ?_; refine Sb.c Tk.h ?_; refine Sb.c Tk.h ?_); (exact Sb.r))), ?_⟩
                refine GW.two (i1 := 15) (i2 := 16) (by kernel_rfl) rfl rfl ?_ ?_
                · skip
                  refine GO.extract rfl rfl rfl ?_
                  refine GO.nil ⟨rfl, _, _, rfl, ImpS.refl, ?_⟩
                  refine GW.two (i1 := 16) (i2 := 18) (by kernel_rfl) rfl rfl ?_ ?_
                  · skip
                    refine GO.extract rfl rfl rfl ?_
                    refine GO.nil ⟨rfl, _, _, rfl, ImpS.refl, ?_⟩
                    refine GW.one (i := 18) (by kernel_rfl) rfl ?_
                    refine GO.storeW rfl rfl (Tk.t (Tk.t (Tk.t Tk.h))) ⟨rfl, rfl⟩ (by simp [Value.oneCell']; assumption) ?_
                    refine GO.nil ⟨rfl, .tuple #[], pt b16 (row [i64 (sideO sp.o : Nat), sp.r] 52) :: sp.P :: sp.Z :: q :: oth P ka :: F, rfl, ImpS.sb (by ((refine Sb.c (Tk.t Tk.h) ?_; refine Sb.c (Tk.t Tk.h) ?_; refine Sb.c (Tk.t Tk.h) ?_; refine Sb.c Tk.h ?_; refine Sb.c Tk.h ?_; refine Sb.c Tk.h ?_; refine Sb.c Tk.h ?_; refine Sb.c Tk.h ?_); (exact Sb.r))), ?_⟩
                    refine GW.one (i := 19) (by kernel_rfl) rfl ?_
                    refine GO.assign rfl rfl ?_
                    refine GO.nil ⟨rfl, _, _, rfl, ImpS.refl, ?_⟩
                    refine GW.nil ⟨sp, b16, hsp, hso, by (refine SubE.c rfl rfl ?_; refine SubE.c rfl rfl ?_; refine SubE.c rfl rfl ?_; refine SubE.c rfl rfl ?_; refine SubE.c rfl rfl ?_; refine SubE.c rfl rfl ?_; refine SubE.c rfl rfl ?_; refine SubE.c rfl rfl ?_; refine SubE.c rfl rfl ?_; exact SubE.n), ImpS.sb (by ((refine Sb.c (Tk.t (Tk.t (Tk.t Tk.h))) ?_; refine Sb.c (Tk.t (Tk.t (Tk.t Tk.h))) ?_; refine Sb.c (Tk.t (Tk.t (Tk.t Tk.h))) ?_; refine Sb.c (Tk.t (Tk.t (Tk.t Tk.h))) ?_; refine Sb.c (Tk.t (Tk.t (Tk.t Tk.h))) ?_; refine Sb.c Tk.h ?_; refine Sb.c Tk.h ?_; refine Sb.c Tk.h ?_); (exact Sb.r)))⟩
                  · skip
                    refine GO.storeW rfl rfl (Tk.t (Tk.t (Tk.t Tk.h))) ⟨rfl, rfl⟩ (by simp [Value.oneCell']; assumption) ?_
                    refine GO.nil ⟨rfl, .tuple #[], pt b16 (row [i64 (sideO sp.o : Nat), sp.r] 52) :: sp.P :: sp.Z :: q :: oth P ka :: F, rfl, ImpS.sb (by ((refine Sb.c (Tk.t Tk.h) ?_; refine Sb.c (Tk.t Tk.h) ?_; refine Sb.c (Tk.t Tk.h) ?_; refine Sb.c Tk.h ?_; refine Sb.c Tk.h ?_; refine Sb.c Tk.h ?_; refine Sb.c Tk.h ?_; refine Sb.c Tk.h ?_); (exact Sb.r))), ?_⟩
                    refine GW.one (i := 16) (by kernel_rfl) rfl ?_
                    refine GO.extract rfl rfl rfl ?_
                    refine GO.nil ⟨rfl, _, _, rfl, ImpS.refl, ?_⟩
                    refine GW.one (i := 19) (by kernel_rfl) rfl ?_
                    refine GO.assign rfl rfl ?_
                    refine GO.nil ⟨rfl, _, _, rfl, ImpS.refl, ?_⟩
                    refine GW.nil ⟨sp, b16, hsp, hso, by (refine SubE.c rfl rfl ?_; refine SubE.c rfl rfl ?_; refine SubE.c rfl rfl ?_; refine SubE.c rfl rfl ?_; refine SubE.c rfl rfl ?_; refine SubE.c rfl rfl ?_; refine SubE.c rfl rfl ?_; refine SubE.c rfl rfl ?_; refine SubE.c rfl rfl ?_; exact SubE.n), ImpS.sb (by ((refine Sb.c (Tk.t (Tk.t (Tk.t Tk.h))) ?_; refine Sb.c (Tk.t (Tk.t (Tk.t Tk.h))) ?_; refine Sb.c (Tk.t (Tk.t (Tk.t Tk.h))) ?_; refine Sb.c (Tk.t (Tk.t (Tk.t Tk.h))) ?_; refine Sb.c (Tk.t (Tk.t (Tk.t Tk.h))) ?_; refine Sb.c Tk.h ?_; refine Sb.c Tk.h ?_; refine Sb.c Tk.h ?_); (exact Sb.r)))⟩
                · skip
                  refine GO.extract rfl rfl rfl ?_
                  refine GO.nil ⟨rfl, _, _, rfl, ImpS.refl, ?_⟩
                  refine GW.one (i := 15) (by kernel_rfl) rfl ?_
                  refine GO.extract rfl rfl rfl ?_
                  refine GO.nil ⟨rfl, _, _, rfl, ImpS.refl, ?_⟩
                  refine GW.one (i := 18) (by kernel_rfl) rfl ?_
                  refine GO.storeW rfl rfl (Tk.t (Tk.t (Tk.t Tk.h))) ⟨rfl, rfl⟩ (by simp [Value.oneCell']; assumption) ?_
                  refine GO.nil ⟨rfl, .tuple #[], pt b16 (row [i64 (sideO sp.o : Nat), sp.r] 52) :: sp.P :: sp.Z :: q :: oth P ka :: F, rfl, ImpS.sb (by ((refine Sb.c (Tk.t Tk.h) ?_; refine Sb.c (Tk.t Tk.h) ?_; refine Sb.c (Tk.t Tk.h) ?_; refine Sb.c Tk.h ?_; refine Sb.c Tk.h ?_; refine Sb.c Tk.h ?_; refine Sb.c Tk.h ?_; refine Sb.c Tk.h ?_); (exact Sb.r))), ?_⟩
                  refine GW.one (i := 19) (by kernel_rfl) rfl ?_
                  refine GO.assign rfl rfl ?_
                  refine GO.nil ⟨rfl, _, _, rfl, ImpS.refl, ?_⟩
                  refine GW.nil ⟨sp, b16, hsp, hso, by (refine SubE.c rfl rfl ?_; refine SubE.c rfl rfl ?_; refine SubE.c rfl rfl ?_; refine SubE.c rfl rfl ?_; refine SubE.c rfl rfl ?_; refine SubE.c rfl rfl ?_; refine SubE.c rfl rfl ?_; refine SubE.c rfl rfl ?_; refine SubE.c rfl rfl ?_; exact SubE.n), ImpS.sb (by ((refine Sb.c (Tk.t (Tk.t (Tk.t Tk.h))) ?_; refine Sb.c (Tk.t (Tk.t (Tk.t Tk.h))) ?_; refine Sb.c (Tk.t (Tk.t (Tk.t Tk.h))) ?_; refine Sb.c (Tk.t (Tk.t (Tk.t Tk.h))) ?_; refine Sb.c (Tk.t (Tk.t (Tk.t Tk.h))) ?_; refine Sb.c Tk.h ?_; refine Sb.c Tk.h ?_; refine Sb.c Tk.h ?_); (exact Sb.r)))⟩
            · skip
              refine GO.alloc rfl fun b16 => ?_
              refine GO.nil ⟨rfl, _, pt b16 (row [i64 0, .slice none 0 0] 52) :: sp.P :: sp.Z :: q :: oth P ka :: F, rfl, ImpS.sb (by ((refine Sb.c (Tk.t Tk.h) ?_; refine Sb.c (Tk.t Tk.h) ?_; refine Sb.c (Tk.t Tk.h) ?_; refine Sb.c Tk.h ?_; refine Sb.c Tk.h ?_; refine Sb.c Tk.h ?_; refine Sb.c Tk.h ?_; refine Sb.c Tk.h ?_); (exact Sb.r))), ?_⟩
              refine GW.one (i := 14) (by kernel_rfl) rfl ?_
              refine GO.move rfl rfl ?_
              refine GO.nil ⟨rfl, _, _, rfl, ImpS.refl, ?_⟩
              refine GW.two (i1 := 15) (i2 := 16) (by kernel_rfl) rfl rfl ?_ ?_
              · skip
                refine GO.extract rfl rfl rfl ?_
                refine GO.nil ⟨rfl, _, _, rfl, ImpS.refl, ?_⟩
                refine GW.two (i1 := 16) (i2 := 18) (by kernel_rfl) rfl rfl ?_ ?_
                · skip
                  refine GO.extract rfl rfl rfl ?_
                  refine GO.nil ⟨rfl, _, _, rfl, ImpS.refl, ?_⟩
                  refine GW.one (i := 18) (by kernel_rfl) rfl ?_
                  refine GO.storeW rfl rfl (Tk.t (Tk.t (Tk.t Tk.h))) ⟨rfl, rfl⟩ (by simp [Value.oneCell']; assumption) ?_
                  refine GO.nil ⟨rfl, .tuple #[], pt b16 (row [i64 (sideO sp.o : Nat), sp.r] 52) :: sp.P :: sp.Z :: q :: oth P ka :: F, rfl, ImpS.sb (by ((refine Sb.c (Tk.t Tk.h) ?_; refine Sb.c (Tk.t Tk.h) ?_; refine Sb.c (Tk.t Tk.h) ?_; refine Sb.c Tk.h ?_; refine Sb.c Tk.h ?_; refine Sb.c Tk.h ?_; refine Sb.c Tk.h ?_; refine Sb.c Tk.h ?_); (exact Sb.r))), ?_⟩
                  refine GW.one (i := 19) (by kernel_rfl) rfl ?_
                  refine GO.assign rfl rfl ?_
                  refine GO.nil ⟨rfl, _, _, rfl, ImpS.refl, ?_⟩
                  refine GW.nil ⟨sp, b16, hsp, hso, by (refine SubE.c rfl rfl ?_; refine SubE.c rfl rfl ?_; refine SubE.c rfl rfl ?_; refine SubE.c rfl rfl ?_; refine SubE.c rfl rfl ?_; refine SubE.c rfl rfl ?_; refine SubE.c rfl rfl ?_; refine SubE.c rfl rfl ?_; refine SubE.c rfl rfl ?_; exact SubE.n), ImpS.sb (by ((refine Sb.c (Tk.t (Tk.t (Tk.t Tk.h))) ?_; refine Sb.c (Tk.t (Tk.t (Tk.t Tk.h))) ?_; refine Sb.c (Tk.t (Tk.t (Tk.t Tk.h))) ?_; refine Sb.c (Tk.t (Tk.t (Tk.t Tk.h))) ?_; refine Sb.c (Tk.t (Tk.t (Tk.t Tk.h))) ?_; refine Sb.c Tk.h ?_; refine Sb.c Tk.h ?_; refine Sb.c Tk.h ?_); (exact Sb.r)))⟩
                · skip
                  refine GO.storeW rfl rfl (Tk.t (Tk.t (Tk.t Tk.h))) ⟨rfl, rfl⟩ (by simp [Value.oneCell']; assumption) ?_
                  refine GO.nil ⟨rfl, .tuple #[], pt b16 (row [i64 (sideO sp.o : Nat), sp.r] 52) :: sp.P :: sp.Z :: q :: oth P ka :: F, rfl, ImpS.sb (by ((refine Sb.c (Tk.t Tk.h) ?_; refine Sb.c (Tk.t Tk.h) ?_; refine Sb.c (Tk.t Tk.h) ?_; refine Sb.c Tk.h ?_; refine Sb.c Tk.h ?_; refine Sb.c Tk.h ?_; refine Sb.c Tk.h ?_; refine Sb.c Tk.h ?_); (exact Sb.r))), ?_⟩
                  refine GW.one (i := 16) (by kernel_rfl) rfl ?_
                  refine GO.extract rfl rfl rfl ?_
                  refine GO.nil ⟨rfl, _, _, rfl, ImpS.refl, ?_⟩
                  refine GW.one (i := 19) (by kernel_rfl) rfl ?_
                  refine GO.assign rfl rfl ?_
                  refine GO.nil ⟨rfl, _, _, rfl, ImpS.refl, ?_⟩
                  refine GW.nil ⟨sp, b16, hsp, hso, by (refine SubE.c rfl rfl ?_; refine SubE.c rfl rfl ?_; refine SubE.c rfl rfl ?_; refine SubE.c rfl rfl ?_; refine SubE.c rfl rfl ?_; refine SubE.c rfl rfl ?_; refine SubE.c rfl rfl ?_; refine SubE.c rfl rfl ?_; refine SubE.c rfl rfl ?_; exact SubE.n), ImpS.sb (by ((refine Sb.c (Tk.t (Tk.t (Tk.t Tk.h))) ?_; refine Sb.c (Tk.t (Tk.t (Tk.t Tk.h))) ?_; refine Sb.c (Tk.t (Tk.t (Tk.t Tk.h))) ?_; refine Sb.c (Tk.t (Tk.t (Tk.t Tk.h))) ?_; refine Sb.c (Tk.t (Tk.t (Tk.t Tk.h))) ?_; refine Sb.c Tk.h ?_; refine Sb.c Tk.h ?_; refine Sb.c Tk.h ?_); (exact Sb.r)))⟩
              · skip
                refine GO.extract rfl rfl rfl ?_
                refine GO.nil ⟨rfl, _, _, rfl, ImpS.refl, ?_⟩
                refine GW.one (i := 15) (by kernel_rfl) rfl ?_
                refine GO.extract rfl rfl rfl ?_
                refine GO.nil ⟨rfl, _, _, rfl, ImpS.refl, ?_⟩
                refine GW.one (i := 18) (by kernel_rfl) rfl ?_
                refine GO.storeW rfl rfl (Tk.t (Tk.t (Tk.t Tk.h))) ⟨rfl, rfl⟩ (by simp [Value.oneCell']; assumption) ?_
                refine GO.nil ⟨rfl, .tuple #[], pt b16 (row [i64 (sideO sp.o : Nat), sp.r] 52) :: sp.P :: sp.Z :: q :: oth P ka :: F, rfl, ImpS.sb (by ((refine Sb.c (Tk.t Tk.h) ?_; refine Sb.c (Tk.t Tk.h) ?_; refine Sb.c (Tk.t Tk.h) ?_; refine Sb.c Tk.h ?_; refine Sb.c Tk.h ?_; refine Sb.c Tk.h ?_; refine Sb.c Tk.h ?_; refine Sb.c Tk.h ?_); (exact Sb.r))), ?_⟩
                refine GW.one (i := 19) (by kernel_rfl) rfl ?_
                refine GO.assign rfl rfl ?_
                refine GO.nil ⟨rfl, _, _, rfl, ImpS.refl, ?_⟩
                refine GW.nil ⟨sp, b16, hsp, hso, by (refine SubE.c rfl rfl ?_; refine SubE.c rfl rfl ?_; refine SubE.c rfl rfl ?_; refine SubE.c rfl rfl ?_; refine SubE.c rfl rfl ?_; refine SubE.c rfl rfl ?_; refine SubE.c rfl rfl ?_; refine SubE.c rfl rfl ?_; refine SubE.c rfl rfl ?_; exact SubE.n), ImpS.sb (by ((refine Sb.c (Tk.t (Tk.t (Tk.t Tk.h))) ?_; refine Sb.c (Tk.t (Tk.t (Tk.t Tk.h))) ?_; refine Sb.c (Tk.t (Tk.t (Tk.t Tk.h))) ?_; refine Sb.c (Tk.t (Tk.t (Tk.t Tk.h))) ?_; refine Sb.c (Tk.t (Tk.t (Tk.t Tk.h))) ?_; refine Sb.c Tk.h ?_; refine Sb.c Tk.h ?_; refine Sb.c Tk.h ?_); (exact Sb.r)))⟩
          · skip
            refine GO.alloc rfl fun b16 => ?_
            refine GO.nil ⟨rfl, _, pt b16 (row [i64 0, .slice none 0 0] 52) :: P ka :: oth P ka :: Z :: q :: F, rfl, ImpS.sb (by ((refine Sb.c (Tk.t Tk.h) ?_; refine Sb.c (Tk.t Tk.h) ?_; refine Sb.c (Tk.t Tk.h) ?_; refine Sb.c Tk.h ?_; refine Sb.c Tk.h ?_; refine Sb.c Tk.h ?_; refine Sb.c Tk.h ?_; refine Sb.c Tk.h ?_); (exact Sb.r))), ?_⟩
            refine GW.one (i := 13) (by kernel_rfl) rfl ?_
            refine GO.call5 rfl rfl rfl rfl rfl rfl (hD) (Tks.c (Tk.t (Tk.t (Tk.t (Tk.t Tk.h)))) (Tks.c (Tk.t (Tk.t (Tk.t (Tk.t (Tk.t Tk.h))))) (Tks.c (Tk.t (Tk.t (Tk.t (Tk.t (Tk.t Tk.h))))) Tks.n))) ?_
            rintro _ _ ⟨sp, hsp, hso, rfl, rfl⟩
            have hone9 := hsp.one
            refine GO.nil ⟨rfl, _, pt b16 (row [i64 0, .slice none 0 0] 52) :: sp.P :: sp.Z :: q :: oth P ka :: F, rfl, ImpS.sb (by ((refine Sb.c (Tk.t (Tk.t (Tk.t Tk.h))) ?_; refine Sb.c (Tk.t (Tk.t (Tk.t Tk.h))) ?_; refine Sb.c (Tk.t (Tk.t (Tk.t Tk.h))) ?_; refine Sb.c (Tk.t (Tk.t (Tk.t Tk.h))) ?_; refine Sb.c Tk.h ?_; refine Sb.c Tk.h ?_; refine Sb.c Tk.h ?_; refine Sb.c Tk.h ?_); (exact Sb.r))), ?_⟩
            refine GW.one (i := 14) (by kernel_rfl) rfl ?_
            refine GO.move rfl rfl ?_
            refine GO.nil ⟨rfl, _, _, rfl, ImpS.refl, ?_⟩
            refine GW.two (i1 := 15) (i2 := 16) (by kernel_rfl) rfl rfl ?_ ?_
            · skip
              refine GO.extract rfl rfl rfl ?_
              refine GO.nil ⟨rfl, _, _, rfl, ImpS.refl, ?_⟩
              refine GW.two (i1 := 16) (i2 := 18) (by kernel_rfl) rfl rfl ?_ ?_
              · skip
                refine GO.extract rfl rfl rfl ?_
                refine GO.nil ⟨rfl, _, _, rfl, ImpS.refl, ?_⟩
                refine GW.one (i := 18) (by kernel_rfl) rfl ?_
                refine GO.storeW rfl rfl (Tk.t (Tk.t (Tk.t Tk.h))) ⟨rfl, rfl⟩ (by simp [Value.oneCell']; assumption) ?_
                refine GO.nil ⟨rfl, .tuple #[], pt b16 (row [i64 (sideO sp.o : Nat), sp.r] 52) :: sp.P :: sp.Z :: q :: oth P ka :: F, rfl, ImpS.sb (by ((refine Sb.c (Tk.t Tk.h) ?_; refine Sb.c (Tk.t Tk.h) ?_; refine Sb.c (Tk.t Tk.h) ?_; refine Sb.c Tk.h ?_; refine Sb.c Tk.h ?_; refine Sb.c Tk.h ?_; refine Sb.c Tk.h ?_; refine Sb.c Tk.h ?_); (exact Sb.r))), ?_⟩
                refine GW.one (i := 19) (by kernel_rfl) rfl ?_
                refine GO.assign rfl rfl ?_
                refine GO.nil ⟨rfl, _, _, rfl, ImpS.refl, ?_⟩
                refine GW.nil ⟨sp, b16, hsp, hso, by (refine SubE.c rfl rfl ?_; refine SubE.c rfl rfl ?_; refine SubE.c rfl rfl ?_; refine SubE.c rfl rfl ?_; refine SubE.c rfl rfl ?_; refine SubE.c rfl rfl ?_; refine SubE.c rfl rfl ?_; refine SubE.c rfl rfl ?_; refine SubE.c rfl rfl ?_; exact SubE.n), ImpS.sb (by ((refine Sb.c (Tk.t (Tk.t (Tk.t Tk.h))) ?_; refine Sb.c (Tk.t (Tk.t (Tk.t Tk.h))) ?_; refine Sb.c (Tk.t (Tk.t (Tk.t Tk.h))) ?_; refine Sb.c (Tk.t (Tk.t (Tk.t Tk.h))) ?_; refine Sb.c (Tk.t (Tk.t (Tk.t Tk.h))) ?_; refine Sb.c Tk.h ?_; refine Sb.c Tk.h ?_; refine Sb.c Tk.h ?_); (exact Sb.r)))⟩
              · skip
                refine GO.storeW rfl rfl (Tk.t (Tk.t (Tk.t Tk.h))) ⟨rfl, rfl⟩ (by simp [Value.oneCell']; assumption) ?_
                refine GO.nil ⟨rfl, .tuple #[], pt b16 (row [i64 (sideO sp.o : Nat), sp.r] 52) :: sp.P :: sp.Z :: q :: oth P ka :: F, rfl, ImpS.sb (by ((refine Sb.c (Tk.t Tk.h) ?_; refine Sb.c (Tk.t Tk.h) ?_; refine Sb.c (Tk.t Tk.h) ?_; refine Sb.c Tk.h ?_; refine Sb.c Tk.h ?_; refine Sb.c Tk.h ?_; refine Sb.c Tk.h ?_; refine Sb.c Tk.h ?_); (exact Sb.r))), ?_⟩
                refine GW.one (i := 16) (by kernel_rfl) rfl ?_
                refine GO.extract rfl rfl rfl ?_
                refine GO.nil ⟨rfl, _, _, rfl, ImpS.refl, ?_⟩
                refine GW.one (i := 19) (by kernel_rfl) rfl ?_
                refine GO.assign rfl rfl ?_
                refine GO.nil ⟨rfl, _, _, rfl, ImpS.refl, ?_⟩
                refine GW.nil ⟨sp, b16, hsp, hso, by (refine SubE.c rfl rfl ?_; refine SubE.c rfl rfl ?_; refine SubE.c rfl rfl ?_; refine SubE.c rfl rfl ?_; refine SubE.c rfl rfl ?_; refine SubE.c rfl rfl ?_; refine SubE.c rfl rfl ?_; refine SubE.c rfl rfl ?_; refine SubE.c rfl rfl ?_; exact SubE.n), ImpS.sb (by ((refine Sb.c (Tk.t (Tk.t (Tk.t Tk.h))) ?_; refine Sb.c (Tk.t (Tk.t (Tk.t Tk.h))) ?_; refine Sb.c (Tk.t (Tk.t (Tk.t Tk.h))) ?_; refine Sb.c (Tk.t (Tk.t (Tk.t Tk.h))) ?_; refine Sb.c (Tk.t (Tk.t (Tk.t Tk.h))) ?_; refine Sb.c Tk.h ?_; refine Sb.c Tk.h ?_; refine Sb.c Tk.h ?_); (exact Sb.r)))⟩
            · skip
              refine GO.extract rfl rfl rfl ?_
              refine GO.nil ⟨rfl, _, _, rfl, ImpS.refl, ?_⟩
              refine GW.one (i := 15) (by kernel_rfl) rfl ?_
              refine GO.extract rfl rfl rfl ?_
              refine GO.nil ⟨rfl, _, _, rfl, ImpS.refl, ?_⟩
              refine GW.one (i := 18) (by kernel_rfl) rfl ?_
              refine GO.storeW rfl rfl (Tk.t (Tk.t (Tk.t Tk.h))) ⟨rfl, rfl⟩ (by simp [Value.oneCell']; assumption) ?_
              refine GO.nil ⟨rfl, .tuple #[], pt b16 (row [i64 (sideO sp.o : Nat), sp.r] 52) :: sp.P :: sp.Z :: q :: oth P ka :: F, rfl, ImpS.sb (by ((refine Sb.c (Tk.t Tk.h) ?_; refine Sb.c (Tk.t Tk.h) ?_; refine Sb.c (Tk.t Tk.h) ?_; refine Sb.c Tk.h ?_; refine Sb.c Tk.h ?_; refine Sb.c Tk.h ?_; refine Sb.c Tk.h ?_; refine Sb.c Tk.h ?_); (exact Sb.r))), ?_⟩
              refine GW.one (i := 19) (by kernel_rfl) rfl ?_
              refine GO.assign rfl rfl ?_
              refine GO.nil ⟨rfl, _, _, rfl, ImpS.refl, ?_⟩
              refine GW.nil ⟨sp, b16, hsp, hso, by (refine SubE.c rfl rfl ?_; refine SubE.c rfl rfl ?_; refine SubE.c rfl rfl ?_; refine SubE.c rfl rfl ?_; refine SubE.c rfl rfl ?_; refine SubE.c rfl rfl ?_; refine SubE.c rfl rfl ?_; refine SubE.c rfl rfl ?_; refine SubE.c rfl rfl ?_; exact SubE.n), ImpS.sb (by ((refine Sb.c (Tk.t (Tk.t (Tk.t Tk.h))) ?_; refine Sb.c (Tk.t (Tk.t (Tk.t Tk.h))) ?_; refine Sb.c (Tk.t (Tk.t (Tk.t Tk.h))) ?_; refine Sb.c (Tk.t (Tk.t (Tk.t Tk.h))) ?_; refine Sb.c (Tk.t (Tk.t (Tk.t Tk.h))) ?_; refine Sb.c Tk.h ?_; refine Sb.c Tk.h ?_; refine Sb.c Tk.h ?_); (exact Sb.r)))⟩
        · rintro L' H' ⟨sp, b16, hsp, hso, hL', hH'⟩
          have hone9 := hsp.one
          refine GO.keep hH' (GO.sub hL' Sb.r ?_)
          (refine GO.nil ?_; refine kthen_n ?_; refine G.seq ?_; refine G.seq ?_; refine G.region ?_; refine GO.move rfl rfl ?_; refine GO.not rfl rfl ?_; refine GO.nil ?_; refine kthen_n ?_; refine G.condF rfl rfl ?_; refine G.skip ?_; refine kthen_n ?_; refine G.seq ?_; refine G.seq ?_; refine G.region ?_; refine GO.move rfl rfl ?_; refine GO.move rfl rfl ?_; refine GO.eqT rfl rfl rfl rfl ?_; refine GO.move rfl rfl ?_; refine GO.gT rfl rfl rfl ?_; refine GO.fieldAddr rfl rfl ?_; refine GO.gT rfl rfl rfl ?_; refine GO.load1 rfl rfl rfl (Tk.t (Tk.t (Tk.t (Tk.t (Tk.t (Tk.t (Tk.t Tk.h))))))) rfl ?_; refine GO.gT rfl rfl rfl ?_; refine GO.eqT rfl rfl rfl rfl ?_; refine GO.pickT rfl rfl rfl ?_; refine GO.nil ?_; refine kthen_n ?_; refine G.condT rfl rfl ?_; refine G.region ?_; refine GO.move rfl rfl ?_; refine GO.idxA rfl rfl rfl ⟨rfl, by omega⟩ ?_)
          refine GO.loadM (vs := [i64 (sideO (o ka) : Nat), r ka]) rfl rfl rfl (Tk.t (Tk.t (Tk.t (Tk.t (Tk.t (Tk.t Tk.h)))))) rfl rwa ?_
          (refine GO.storeW rfl rfl Tk.h ⟨rfl, rfl⟩ (by simp [Value.oneCell']; assumption) ?_; refine GO.nil ?_; refine kthen_n ?_; refine G.region ?_; refine GO.move rfl rfl ?_; refine GO.loadW rfl rfl rfl Tk.h rfl ?_; refine GO.idxA rfl rfl rfl ⟨rfl, by omega⟩ ?_)
          refine GO.storeG (n := 2) (vs := [i64 (sideO (o ka) : Nat), r ka]) rfl rfl rfl rfl (Tk.t (Tk.t (Tk.t (Tk.t (Tk.t (Tk.t Tk.h)))))) (by rw [rarr_len]; omega) (by simp [Value.oneCell']; assumption) ?_
          rw [show (rarr o r).take (0 + ka * 2) ++ [i64 (sideO (o ka) : Nat), r ka] ++ (rarr o r).drop (0 + ka * 2 + 2) = rarr (put4 o ka (o ka)) (put4 r ka (r ka)) by rw [Nat.zero_add]; exact rarr_put o r _ _ ha]
          (refine GO.nil ?_; refine kblock_n ?_; refine kblock_n ?_; refine kthen_n ?_; refine G.region ?_; refine GO.move rfl rfl ?_; refine GO.addi rfl rfl rfl (by omega) ?_; refine GO.assign rfl rfl ?_; refine GO.nil ?_; refine kthen_n ?_)
          refine ⟨⟨n + 1, put4 P ka sp.P, sp.Z, put4 m ka (m ka), put4 o ka (o ka), put4 r ka (r ka)⟩, ⟨by dsimp only; omega, FourOK.put (s := ⟨n, P, Z, m, o, r⟩) hok hsp.sup ka (n + 1) ⟨hso ▸ hsp.mat, (hm ka).wf, (hm ka).ref.sup hsp.sup, (hm ka).one⟩⟩, by dsimp only; omega, ?_, ?_⟩
          · (refine SubE.c rfl rfl ?_; refine SubE.c rfl rfl ?_; refine SubE.c rfl rfl ?_; refine SubE.c rfl rfl ?_; exact SubE.n)
          · dsimp only
            rw [put4_same m ka]
            refine ImpS.trans (ImpS.sb (M := sp.P :: oth P ka :: sp.Z :: pt b3 (row (marr m) 50) :: pt b4 (row (rarr (put4 o ka (o ka)) (put4 r ka (r ka))) 53) :: q :: F) ?_) (ImpS.fourSet P sp.P ha _)
            ((refine Sb.c (Tk.t (Tk.t Tk.h)) ?_; refine Sb.c (Tk.t (Tk.t (Tk.t (Tk.t Tk.h)))) ?_; refine Sb.c (Tk.t (Tk.t Tk.h)) ?_; refine Sb.c (Tk.t (Tk.t (Tk.t Tk.h))) ?_; refine Sb.c Tk.h ?_; refine Sb.c (Tk.t Tk.h) ?_); (refine Sb.s ?_; refine Sb.s ?_; exact Sb.r))
      · have hD := doneJoin q (P ka) (P kb) Z (m ka) (m kb) (refV (sideO (o ka)) (r ka)) (refV (sideO (o kb)) (r kb)) (o ka) (o kb) (hm ka).mat (hm kb).mat (hm ka).ref (hm kb).ref (hm ka).wf (hm kb).wf a bb i j u hu1
        have e7 : decide ((ka : Int) = (kb : Int)) = false := decide_eq_false (by omega)
        (refine GO.nil ?_; refine kthen_n ?_; refine G.seq ?_; refine G.region ?_; refine GO.fieldAddr rfl rfl ?_; refine GO.load1 rfl rfl rfl Tk.h rfl ?_; refine GO.nil ?_; refine kthen_n ?_; refine G.block ?_; refine G.seq ?_; refine G.seq ?_; refine G.region ?_; refine GO.eqi rfl rfl rfl ?_; refine GO.assign rfl rfl ?_; refine GO.nil ?_; refine kthen_n ?_; refine G.condF rfl rfl ?_; refine G.region ?_; refine GO.eqi rfl rfl rfl ?_; refine GO.assign rfl rfl ?_; refine GO.nil ?_; refine kthen_n ?_; refine G.condF rfl rfl ?_; refine G.seq ?_; refine G.region ?_; refine GO.eqi rfl rfl rfl ?_; refine GO.assign rfl rfl ?_; refine GO.nil ?_; refine kthen_n ?_; refine G.condF rfl rfl ?_; refine G.seq ?_; refine G.region ?_; refine GO.eqi rfl rfl rfl ?_; refine GO.assign rfl rfl ?_; refine GO.nil ?_; refine kthen_n ?_; refine G.condF rfl rfl ?_; refine G.seq ?_; refine G.region ?_; refine GO.eqi rfl rfl rfl ?_; refine GO.assign rfl rfl ?_; refine GO.nil ?_; refine kthen_n ?_; refine G.condF rfl rfl ?_; refine G.seq ?_; refine G.region ?_; refine GO.eqi rfl rfl rfl ?_; refine GO.assign rfl rfl ?_; refine GO.nil ?_; refine kthen_n ?_; refine G.condF rfl rfl ?_; refine G.seq ?_)
        refine G.impS (ImpS.trans (ImpS.sb (M := fourP P :: Z :: pt b3 (row (marr m) 50) :: pt b4 (row (rarr o r) 53) :: q :: pt b6 (row [i64 7, i64 a, i64 bb, i64 i, i64 j, u] 55) :: F) (by ((refine Sb.c (Tk.t Tk.h) ?_; refine Sb.c (Tk.t Tk.h) ?_; refine Sb.c (Tk.t Tk.h) ?_; refine Sb.c (Tk.t Tk.h) ?_; refine Sb.c (Tk.t Tk.h) ?_; refine Sb.c Tk.h ?_); (exact Sb.r)))) (ImpS.trans (ImpS.fourOut P ha _) (ImpS.under (ImpS.twoOut P ha hb hab _)))) ?_
        refine G.drawW 20 1040384 7 [pt b3 (row (marr m) 50), pt b4 (row (rarr o r) 53), pt b6 (row [i64 7, i64 a, i64 bb, i64 i, i64 j, u] 55)] (P ka :: P kb :: oth2 P ka kb :: Z :: q :: F)
          (fun L' H' => ∃ (sp : PairS) (b16 : Nat), PairOK (m ka) Z sp ∧ SubE [(0, .slice (some ⟨b0, oo, none⟩) l.length cap0), (3, ptrV b3), (4, ptrV b4), (5, i64 (n : Nat)), (6, ptrV b6), (7, i64 (ka : Nat)), (8, i64 (kb : Nat)), (16, ptrV b16), (17, .bool true)] L' ∧ ImpS H' (pt b16 (row [i64 (sideO sp.o : Nat), sp.r] 52) :: sp.P :: P kb :: sp.Z :: q :: oth2 P ka kb :: pt b3 (row (marr m) 50) :: pt b4 (row (rarr o r) 53) :: pt b6 (row [i64 7, i64 a, i64 bb, i64 i, i64 j, u] 55) :: F)) (by kernel_rfl) (by kernel_rfl) (keys_of rfl) (ImpS.sb (by ((refine Sb.c (Tk.t (Tk.t (Tk.t (Tk.t Tk.h)))) ?_; refine Sb.c (Tk.t (Tk.t (Tk.t (Tk.t Tk.h)))) ?_; refine Sb.c (Tk.t (Tk.t (Tk.t (Tk.t (Tk.t Tk.h))))) ?_; refine Sb.c Tk.h ?_; refine Sb.c Tk.h ?_; refine Sb.c Tk.h ?_; refine Sb.c Tk.h ?_; refine Sb.c Tk.h ?_); (exact Sb.r)))) ?_ ?_
        · ((apply GR.step rfl; focus (intro Z; refine GO.move rfl rfl ?_; exact KQ.z)); (apply GR.step rfl; focus (intro Z; refine GO.idxA rfl rfl rfl ⟨rfl, by omega⟩ ?_; exact KQ.z)); (apply GR.step rfl; focus (intro Z; refine GO.loadQ rfl rfl rfl Tk.h (by assumption) ?_; exact KQ.z)); (apply GR.step rfl; focus (intro Z; refine GO.move rfl rfl ?_; exact KQ.z)); (apply GR.step rfl; focus (intro Z; refine GO.idxA rfl rfl rfl ⟨rfl, by omega⟩ ?_; exact KQ.z)); (apply GR.step rfl; focus (intro Z; refine GO.loadQ rfl rfl rfl Tk.h (by assumption) ?_; exact KQ.z)); (apply GR.step rfl; focus (intro Z; refine GO.move rfl rfl ?_; exact KQ.z)); (apply GR.step rfl; focus (intro Z; refine GO.idxA rfl rfl rfl ⟨rfl, by omega⟩ ?_; exact KQ.z)))
          apply GR.step rfl; focus (intro Z9; refine GO.loadM (vs := [i64 (sideO (o ka) : Nat), r ka]) rfl rfl rfl (Tk.t Tk.h) rfl rwa ?_; exact KQ.z)
          ((apply GR.step rfl; focus (intro Z; refine GO.move rfl rfl ?_; exact KQ.z)); (apply GR.step rfl; focus (intro Z; refine GO.idxA rfl rfl rfl ⟨rfl, by omega⟩ ?_; exact KQ.z)))
          apply GR.step rfl; focus (intro Z9; refine GO.loadM (vs := [i64 (sideO (o kb) : Nat), r kb]) rfl rfl rfl (Tk.t Tk.h) rfl rwb ?_; exact KQ.z)
          ((apply GR.step rfl; focus (intro Z; refine GO.loadW rfl rfl rfl (Tk.t (Tk.t Tk.h)) rfl ?_; exact KQ.z)); refine GR.skip rfl ?_; refine GR.skip rfl ?_; refine GR.skip rfl ?_; refine GR.skip rfl ?_; refine GR.skip rfl ?_; refine GR.skip rfl ?_; refine GR.skip rfl ?_; refine GR.nil ?_)
          refine GW.two (i1 := 13) (i2 := 17) (by kernel_rfl) rfl rfl ?_ ?_
          · skip
            refine GO.call5 rfl rfl rfl rfl rfl rfl (hD) (Tks.c (Tk.t (Tk.t (Tk.t Tk.h))) (Tks.c (Tk.t (Tk.t (Tk.t Tk.h))) (Tks.c (Tk.t (Tk.t (Tk.t (Tk.t Tk.h)))) (Tks.c (Tk.t (Tk.t (Tk.t (Tk.t Tk.h)))) Tks.n)))) ?_
            rintro _ _ ⟨sp, hsp, rfl, rfl⟩
            have hone9 := hsp.one
            refine GO.nil ⟨rfl, _, sp.P :: P kb :: sp.Z :: q :: oth2 P ka kb :: F, rfl, ImpS.sb (by ((refine Sb.c (Tk.t (Tk.t (Tk.t (Tk.t Tk.h)))) ?_; refine Sb.c (Tk.t (Tk.t (Tk.t (Tk.t Tk.h)))) ?_; refine Sb.c (Tk.t (Tk.t (Tk.t (Tk.t Tk.h)))) ?_; refine Sb.c Tk.h ?_; refine Sb.c Tk.h ?_; refine Sb.c Tk.h ?_; refine Sb.c Tk.h ?_; refine Sb.c Tk.h ?_); (exact Sb.r))), ?_⟩
            refine GW.two (i1 := 14) (i2 := 17) (by kernel_rfl) rfl rfl ?_ ?_
            · skip
              refine GO.move rfl rfl ?_
              refine GO.nil ⟨rfl, _, _, rfl, ImpS.refl, ?_⟩
              refine GW.three (i1 := 15) (i2 := 16) (i3 := 17) (by kernel_rfl) rfl rfl rfl ?_ ?_ ?_
              · skip
                refine GO.extract rfl rfl rfl ?_
                refine GO.nil ⟨rfl, _, _, rfl, ImpS.refl, ?_⟩
                refine GW.two (i1 := 16) (i2 := 17) (by kernel_rfl) rfl rfl ?_ ?_
                · skip
                  refine GO.extract rfl rfl rfl ?_
                  refine GO.nil ⟨rfl, _, _, rfl, ImpS.refl, ?_⟩
                  refine GW.one (i := 17) (by kernel_rfl) rfl ?_
                  refine GO.alloc rfl fun b16 => ?_
                  refine GO.nil ⟨rfl, _, pt b16 (row [i64 0, .slice none 0 0] 52) :: sp.P :: P kb :: sp.Z :: q :: oth2 P ka kb :: F, rfl, ImpS.sb (by ((refine Sb.c (Tk.t Tk.h) ?_; refine Sb.c (Tk.t Tk.h) ?_; refine Sb.c (Tk.t Tk.h) ?_; refine Sb.c Tk.h ?_; refine Sb.c Tk.h ?_; refine Sb.c Tk.h ?_; refine Sb.c Tk.h ?_; refine Sb.c Tk.h ?_; refine Sb.c Tk.h ?_); (exact Sb.r))), ?_⟩
                  refine GW.one (i := 18) (by kernel_rfl) rfl ?_
                  refine GO.storeW rfl rfl (Tk.t (Tk.t (Tk.t Tk.h))) ⟨rfl, rfl⟩ (by simp [Value.oneCell']; assumption) ?_
                  refine GO.nil ⟨rfl, .tuple #[], pt b16 (row [i64 (sideO sp.o : Nat), sp.r] 52) :: sp.P :: P kb :: sp.Z :: q :: oth2 P ka kb :: F, rfl, ImpS.sb (by ((refine Sb.c (Tk.t Tk.h) ?_; refine Sb.c (Tk.t Tk.h) ?_; refine Sb.c (Tk.t Tk.h) ?_; refine Sb.c Tk.h ?_; refine Sb.c Tk.h ?_; refine Sb.c Tk.h ?_; refine Sb.c Tk.h ?_; refine Sb.c Tk.h ?_; refine Sb.c Tk.h ?_); (exact Sb.r))), ?_⟩
                  refine GW.one (i := 19) (by kernel_rfl) rfl ?_
                  refine GO.assign rfl rfl ?_
                  refine GO.nil ⟨rfl, _, _, rfl, ImpS.refl, ?_⟩
                  refine GW.nil ⟨sp, b16, hsp, by (refine SubE.c rfl rfl ?_; refine SubE.c rfl rfl ?_; refine SubE.c rfl rfl ?_; refine SubE.c rfl rfl ?_; refine SubE.c rfl rfl ?_; refine SubE.c rfl rfl ?_; refine SubE.c rfl rfl ?_; refine SubE.c rfl rfl ?_; refine SubE.c rfl rfl ?_; exact SubE.n), ImpS.sb (by ((refine Sb.c (Tk.t (Tk.t (Tk.t Tk.h))) ?_; refine Sb.c (Tk.t (Tk.t (Tk.t Tk.h))) ?_; refine Sb.c (Tk.t (Tk.t (Tk.t Tk.h))) ?_; refine Sb.c (Tk.t (Tk.t (Tk.t Tk.h))) ?_; refine Sb.c (Tk.t (Tk.t (Tk.t Tk.h))) ?_; refine Sb.c (Tk.t (Tk.t (Tk.t Tk.h))) ?_; refine Sb.c Tk.h ?_; refine Sb.c Tk.h ?_; refine Sb.c Tk.h ?_); (exact Sb.r)))⟩
                · skip
                  refine GO.alloc rfl fun b16 => ?_
                  refine GO.nil ⟨rfl, _, pt b16 (row [i64 0, .slice none 0 0] 52) :: sp.P :: P kb :: sp.Z :: q :: oth2 P ka kb :: F, rfl, ImpS.sb (by ((refine Sb.c (Tk.t Tk.h) ?_; refine Sb.c (Tk.t Tk.h) ?_; refine Sb.c (Tk.t Tk.h) ?_; refine Sb.c Tk.h ?_; refine Sb.c Tk.h ?_; refine Sb.c Tk.h ?_; refine Sb.c Tk.h ?_; refine Sb.c Tk.h ?_; refine Sb.c Tk.h ?_); (exact Sb.r))), ?_⟩
                  refine GW.two (i1 := 16) (i2 := 18) (by kernel_rfl) rfl rfl ?_ ?_
                  · skip
                    refine GO.extract rfl rfl rfl ?_
                    refine GO.nil ⟨rfl, _, _, rfl, ImpS.refl, ?_⟩
                    refine GW.one (i := 18) (by kernel_rfl) rfl ?_
                    refine GO.storeW rfl rfl (Tk.t (Tk.t (Tk.t Tk.h))) ⟨rfl, rfl⟩ (by simp [Value.oneCell']; assumption) ?_
                    refine GO.nil ⟨rfl, .tuple #[], pt b16 (row [i64 (sideO sp.o : Nat), sp.r] 52) :: sp.P :: P kb :: sp.Z :: q :: oth2 P ka kb :: F, rfl, ImpS.sb (by ((refine Sb.c (Tk.t Tk.h) ?_; refine Sb.c (Tk.t Tk.h) ?_; refine Sb.c (Tk.t Tk.h) ?_; refine Sb.c Tk.h ?_; refine Sb.c Tk.h ?_; refine Sb.c Tk.h ?_; refine Sb.c Tk.h ?_; refine Sb.c Tk.h ?_; refine Sb.c Tk.h ?_); (exact Sb.r))), ?_⟩
                    refine GW.one (i := 19) (by kernel_rfl) rfl ?_
                    refine GO.assign rfl rfl ?_
                    refine GO.nil ⟨rfl, _, _, rfl, ImpS.refl, ?_⟩
                    refine GW.nil ⟨sp, b16, hsp, by (refine SubE.c rfl rfl ?_; refine SubE.c rfl rfl ?_; refine SubE.c rfl rfl ?_; refine SubE.c rfl rfl ?_; refine SubE.c rfl rfl ?_; refine SubE.c rfl rfl ?_; refine SubE.c rfl rfl ?_; refine SubE.c rfl rfl ?_; refine SubE.c rfl rfl ?_; exact SubE.n), ImpS.sb (by ((refine Sb.c (Tk.t (Tk.t (Tk.t Tk.h))) ?_; refine Sb.c (Tk.t (Tk.t (Tk.t Tk.h))) ?_; refine Sb.c (Tk.t (Tk.t (Tk.t Tk.h))) ?_; refine Sb.c (Tk.t (Tk.t (Tk.t Tk.h))) ?_; refine Sb.c (Tk.t (Tk.t (Tk.t Tk.h))) ?_; refine Sb.c (Tk.t (Tk.t (Tk.t Tk.h))) ?_; refine Sb.c Tk.h ?_; refine Sb.c Tk.h ?_; refine Sb.c Tk.h ?_); (exact Sb.r)))⟩
                  · skip
                    refine GO.storeW rfl rfl (Tk.t (Tk.t (Tk.t Tk.h))) ⟨rfl, rfl⟩ (by simp [Value.oneCell']; assumption) ?_
                    refine GO.nil ⟨rfl, .tuple #[], pt b16 (row [i64 (sideO sp.o : Nat), sp.r] 52) :: sp.P :: P kb :: sp.Z :: q :: oth2 P ka kb :: F, rfl, ImpS.sb (by ((refine Sb.c (Tk.t Tk.h) ?_; refine Sb.c (Tk.t Tk.h) ?_; refine Sb.c (Tk.t Tk.h) ?_; refine Sb.c Tk.h ?_; refine Sb.c Tk.h ?_; refine Sb.c Tk.h ?_; refine Sb.c Tk.h ?_; refine Sb.c Tk.h ?_; refine Sb.c Tk.h ?_); (exact Sb.r))), ?_⟩
                    refine GW.one (i := 16) (by kernel_rfl) rfl ?_
                    refine GO.extract rfl rfl rfl ?_
                    refine GO.nil ⟨rfl, _, _, rfl, ImpS.refl, ?_⟩
                    refine GW.one (i := 19) (by kernel_rfl) rfl ?_
                    refine GO.assign rfl rfl ?_
                    refine GO.nil ⟨rfl, _, _, rfl, ImpS.refl, ?_⟩
                    refine GW.nil ⟨sp, b16, hsp, by (refine SubE.c rfl rfl ?_; refine SubE.c rfl rfl ?_; refine SubE.c rfl rfl ?_; refine SubE.c rfl rfl ?_; refine SubE.c rfl rfl ?_; refine SubE.c rfl rfl ?_; refine SubE.c rfl rfl ?_; refine SubE.c rfl rfl ?_; refine SubE.c rfl rfl ?_; exact SubE.n), ImpS.sb (by ((refine Sb.c (Tk.t (Tk.t (Tk.t Tk.h))) ?_; refine Sb.c (Tk.t (Tk.t (Tk.t Tk.h))) ?_; refine Sb.c (Tk.t (Tk.t (Tk.t Tk.h))) ?_; refine Sb.c (Tk.t (Tk.t (Tk.t Tk.h))) ?_; refine Sb.c (Tk.t (Tk.t (Tk.t Tk.h))) ?_; refine Sb.c (Tk.t (Tk.t (Tk.t Tk.h))) ?_; refine Sb.c Tk.h ?_; refine Sb.c Tk.h ?_; refine Sb.c Tk.h ?_); (exact Sb.r)))⟩
              · skip
                refine GO.extract rfl rfl rfl ?_
                refine GO.nil ⟨rfl, _, _, rfl, ImpS.refl, ?_⟩
                refine GW.two (i1 := 15) (i2 := 17) (by kernel_rfl) rfl rfl ?_ ?_
                · skip
                  refine GO.extract rfl rfl rfl ?_
                  refine GO.nil ⟨rfl, _, _, rfl, ImpS.refl, ?_⟩
                  refine GW.one (i := 17) (by kernel_rfl) rfl ?_
                  refine GO.alloc rfl fun b16 => ?_
                  refine GO.nil ⟨rfl, _, pt b16 (row [i64 0, .slice none 0 0] 52) :: sp.P :: P kb :: sp.Z :: q :: oth2 P ka kb :: F, rfl, ImpS.sb (by ((refine Sb.c (Tk.t Tk.h) ?_; refine Sb.c (Tk.t Tk.h) ?_; refine Sb.c (Tk.t Tk.h) ?_; refine Sb.c Tk.h ?_; refine Sb.c Tk.h ?_; refine Sb.c Tk.h ?_; refine Sb.c Tk.h ?_; refine Sb.c Tk.h ?_; refine Sb.c Tk.h ?_); (exact Sb.r))), ?_⟩
                  refine GW.one (i := 18) (by kernel_rfl) rfl ?_
                  refine GO.storeW rfl rfl (Tk.t (Tk.t (Tk.t Tk.h))) ⟨rfl, rfl⟩ (by simp [Value.oneCell']; assumption) ?_
                  refine GO.nil ⟨rfl, .tuple #[], pt b16 (row [i64 (sideO sp.o : Nat), sp.r] 52) :: sp.P :: P kb :: sp.Z :: q :: oth2 P ka kb :: F, rfl, ImpS.sb (by ((refine Sb.c (Tk.t Tk.h) ?_; refine Sb.c (Tk.t Tk.h) ?_; refine Sb.c (Tk.t Tk.h) ?_; refine Sb.c Tk.h ?_; refine Sb.c Tk.h ?_; refine Sb.c Tk.h ?_; refine Sb.c Tk.h ?_; refine Sb.c Tk.h ?_; refine Sb.c Tk.h ?_); (exact Sb.r))), ?_⟩
                  refine GW.one (i := 19) (by kernel_rfl) rfl ?_
                  refine GO.assign rfl rfl ?_
                  refine GO.nil ⟨rfl, _, _, rfl, ImpS.refl, ?_⟩
                  refine GW.nil ⟨sp, b16, hsp, by (refine SubE.c rfl rfl ?_; refine SubE.c rfl rfl ?_; refine SubE.c rfl rfl ?_; refine SubE.c rfl rfl ?_; refine SubE.c rfl rfl ?_; refine SubE.c rfl rfl ?_; refine SubE.c rfl rfl ?_; refine SubE.c rfl rfl ?_; refine SubE.c rfl rfl ?_; exact SubE.n), ImpS.sb (by ((refine Sb.c (Tk.t (Tk.t (Tk.t Tk.h))) ?_; refine Sb.c (Tk.t (Tk.t (Tk.t Tk.h))) ?_; refine Sb.c (Tk.t (Tk.t (Tk.t Tk.h))) ?_; refine Sb.c (Tk.t (Tk.t (Tk.t Tk.h))) ?_; refine Sb.c (Tk.t (Tk.t (Tk.t Tk.h))) ?_; refine Sb.c (Tk.t (Tk.t (Tk.t Tk.h))) ?_; refine Sb.c Tk.h ?_; refine Sb.c Tk.h ?_; refine Sb.c Tk.h ?_); (exact Sb.r)))⟩
                · skip
                  refine GO.alloc rfl fun b16 => ?_
                  refine GO.nil ⟨rfl, _, pt b16 (row [i64 0, .slice none 0 0] 52) :: sp.P :: P kb :: sp.Z :: q :: oth2 P ka kb :: F, rfl, ImpS.sb (by ((refine Sb.c (Tk.t Tk.h) ?_; refine Sb.c (Tk.t Tk.h) ?_; refine Sb.c (Tk.t Tk.h) ?_; refine Sb.c Tk.h ?_; refine Sb.c Tk.h ?_; refine Sb.c Tk.h ?_; refine Sb.c Tk.h ?_; refine Sb.c Tk.h ?_; refine Sb.c Tk.h ?_); (exact Sb.r))), ?_⟩
                  refine GW.one (i := 15) (by kernel_rfl) rfl ?_
                  refine GO.extract rfl rfl rfl ?_
                  refine GO.nil ⟨rfl, _, _, rfl, ImpS.refl, ?_⟩
                  refine GW.one (i := 18) (by kernel_rfl) rfl ?_
                  refine GO.storeW rfl rfl (Tk.t (Tk.t (Tk.t Tk.h))) ⟨rfl, rfl⟩ (by simp [Value.oneCell']; assumption) ?_
                  refine GO.nil ⟨rfl, .tuple #[], pt b16 (row [i64 (sideO sp.o : Nat), sp.r] 52) :: sp.P :: P kb :: sp.Z :: q :: oth2 P ka kb :: F, rfl, ImpS.sb (by ((refine Sb.c (Tk.t Tk.h) ?_; refine Sb.c (Tk.t Tk.h) ?_; refine Sb.c (Tk.t Tk.h) ?_; refine Sb.c Tk.h ?_; refine Sb.c Tk.h ?_; refine Sb.c Tk.h ?_; refine Sb.c Tk.h ?_; refine Sb.c Tk.h ?_; refine Sb.c Tk.h ?_); (exact Sb.r))), ?_⟩
                  refine GW.one (i := 19) (by kernel_rfl) rfl ?_
                  refine GO.assign rfl rfl ?_
                  refine GO.nil ⟨rfl, _, _, rfl, ImpS.refl, ?_⟩
                  refine GW.nil ⟨sp, b16, hsp, by (refine SubE.c rfl rfl ?_; refine SubE.c rfl rfl ?_; refine SubE.c rfl rfl ?_; refine SubE.c rfl rfl ?_; refine SubE.c rfl rfl ?_; refine SubE.c rfl rfl ?_; refine SubE.c rfl rfl ?_; refine SubE.c rfl rfl ?_; refine SubE.c rfl rfl ?_; exact SubE.n), ImpS.sb (by ((refine Sb.c (Tk.t (Tk.t (Tk.t Tk.h))) ?_; refine Sb.c (Tk.t (Tk.t (Tk.t Tk.h))) ?_; refine Sb.c (Tk.t (Tk.t (Tk.t Tk.h))) ?_; refine Sb.c (Tk.t (Tk.t (Tk.t Tk.h))) ?_; refine Sb.c (Tk.t (Tk.t (Tk.t Tk.h))) ?_; refine Sb.c (Tk.t (Tk.t (Tk.t Tk.h))) ?_; refine Sb.c Tk.h ?_; refine Sb.c Tk.h ?_; refine Sb.c Tk.h ?_); (exact Sb.r)))⟩
              · skip
                refine GO.alloc rfl fun b16 => ?_
                refine GO.nil ⟨rfl, _, pt b16 (row [i64 0, .slice none 0 0] 52) :: sp.P :: P kb :: sp.Z :: q :: oth2 P ka kb :: F, rfl, ImpS.sb (by ((refine Sb.c (Tk.t Tk.h) ?_; refine Sb.c (Tk.t Tk.h) ?_; refine Sb.c (Tk.t Tk.h) ?_; refine Sb.c Tk.h ?_; refine Sb.c Tk.h ?_; refine Sb.c Tk.h ?_; refine Sb.c Tk.h ?_; refine Sb.c Tk.h ?_; refine Sb.c Tk.h ?_); (exact Sb.r))), ?_⟩
                refine GW.two (i1 := 15) (i2 := 16) (by kernel_rfl) rfl rfl ?_ ?_
                · skip
                  refine GO.extract rfl rfl rfl ?_
                  refine GO.nil ⟨rfl, _, _, rfl, ImpS.refl, ?_⟩
                  refine GW.two (i1 := 16) (i2 := 18) (by kernel_rfl) rfl rfl ?_ ?_
                  · skip
                    refine GO.extract rfl rfl rfl ?_
                    refine GO.nil ⟨rfl, _, _, rfl, ImpS.refl, ?_⟩
                    refine GW.one (i := 18) (by kernel_rfl) rfl ?_
                    refine GO.storeW rfl rfl (Tk.t (Tk.t (Tk.t Tk.h))) ⟨rfl, rfl⟩ (by simp [Value.oneCell']; assumption) ?_
                    refine GO.nil ⟨rfl, .tuple #[], pt b16 (row [i64 (sideO sp.o : Nat), sp.r] 52) :: sp.P :: P kb :: sp.Z :: q :: oth2 P ka kb :: F, rfl, ImpS.sb (by ((refine Sb.c (Tk.t Tk.h) ?_; refine Sb.c (Tk.t Tk.h) ?_; refine Sb.c (Tk.t Tk.h) ?_; refine Sb.c Tk.h ?_; refine Sb.c Tk.h ?_; refine Sb.c Tk.h ?_; refine Sb.c Tk.h ?_; refine Sb.c Tk.h ?_; refine Sb.c Tk.h ?_); (exact Sb.r))), ?_⟩
                    refine GW.one (i := 19) (by kernel_rfl) rfl ?_
                    refine GO.assign rfl rfl ?_
                    refine GO.nil ⟨rfl, _, _, rfl, ImpS.refl, ?_⟩
                    refine GW.nil ⟨sp, b16, hsp, by (refine SubE.c rfl rfl ?_; refine SubE.c rfl rfl ?_; refine SubE.c rfl rfl ?_; refine SubE.c rfl rfl ?_; refine SubE.c rfl rfl ?_; refine SubE.c rfl rfl ?_; refine SubE.c rfl rfl ?_; refine SubE.c rfl rfl ?_; refine SubE.c rfl rfl ?_; exact SubE.n), ImpS.sb (by ((refine Sb.c (Tk.t (Tk.t (Tk.t Tk.h))) ?_; refine Sb.c (Tk.t (Tk.t (Tk.t Tk.h))) ?_; refine Sb.c (Tk.t (Tk.t (Tk.t Tk.h))) ?_; refine Sb.c (Tk.t (Tk.t (Tk.t Tk.h))) ?_; refine Sb.c (Tk.t (Tk.t (Tk.t Tk.h))) ?_; refine Sb.c (Tk.t (Tk.t (Tk.t Tk.h))) ?_; refine Sb.c Tk.h ?_; refine Sb.c Tk.h ?_; refine Sb.c Tk.h ?_); (exact Sb.r)))⟩
                  · skip
                    refine GO.storeW rfl rfl (Tk.t (Tk.t (Tk.t Tk.h))) ⟨rfl, rfl⟩ (by simp [Value.oneCell']; assumption) ?_
                    refine GO.nil ⟨rfl, .tuple #[], pt b16 (row [i64 (sideO sp.o : Nat), sp.r] 52) :: sp.P :: P kb :: sp.Z :: q :: oth2 P ka kb :: F, rfl, ImpS.sb (by ((refine Sb.c (Tk.t Tk.h) ?_; refine Sb.c (Tk.t Tk.h) ?_; refine Sb.c (Tk.t Tk.h) ?_; refine Sb.c Tk.h ?_; refine Sb.c Tk.h ?_; refine Sb.c Tk.h ?_; refine Sb.c Tk.h ?_; refine Sb.c Tk.h ?_; refine Sb.c Tk.h ?_); (exact Sb.r))), ?_⟩
                    refine GW.one (i := 16) (by kernel_rfl) rfl ?_
                    refine GO.extract rfl rfl rfl ?_
                    refine GO.nil ⟨rfl, _, _, rfl, ImpS.refl, ?_⟩
                    refine GW.one (i := 19) (by kernel_rfl) rfl ?_
                    refine GO.assign rfl rfl ?_
                    refine GO.nil ⟨rfl, _, _, rfl, ImpS.refl, ?_⟩
                    refine GW.nil ⟨sp, b16, hsp, by (refine SubE.c rfl rfl ?_; refine SubE.c rfl rfl ?_; refine SubE.c rfl rfl ?_; refine SubE.c rfl rfl ?_; refine SubE.c rfl rfl ?_; refine SubE.c rfl rfl ?_; refine SubE.c rfl rfl ?_; refine SubE.c rfl rfl ?_; refine SubE.c rfl rfl ?_; exact SubE.n), ImpS.sb (by ((refine Sb.c (Tk.t (Tk.t (Tk.t Tk.h))) ?_; refine Sb.c (Tk.t (Tk.t (Tk.t Tk.h))) ?_; refine Sb.c (Tk.t (Tk.t (Tk.t Tk.h))) ?_; refine Sb.c (Tk.t (Tk.t (Tk.t Tk.h))) ?_; refine Sb.c (Tk.t (Tk.t (Tk.t Tk.h))) ?_; refine Sb.c (Tk.t (Tk.t (Tk.t Tk.h))) ?_; refine Sb.c Tk.h ?_; refine Sb.c Tk.h ?_; refine Sb.c Tk.h ?_); (exact Sb.r)))⟩
                · skip
                  refine GO.extract rfl rfl rfl ?_
                  refine GO.nil ⟨rfl, _, _, rfl, ImpS.refl, ?_⟩
                  refine GW.one (i := 15) (by kernel_rfl) rfl ?_
                  refine GO.extract rfl rfl rfl ?_
                  refine GO.nil ⟨rfl, _, _, rfl, ImpS.refl, ?_⟩
                  refine GW.one (i := 18) (by kernel_rfl) rfl ?_
                  refine GO.storeW rfl rfl (Tk.t (Tk.t (Tk.t Tk.h))) ⟨rfl, rfl⟩ (by simp [Value.oneCell']; assumption) ?_
                  refine GO.nil ⟨rfl, .tuple #[], pt b16 (row [i64 (sideO sp.o : Nat), sp.r] 52) :: sp.P :: P kb :: sp.Z :: q :: oth2 P ka kb :: F, rfl, ImpS.sb (by ((refine Sb.c (Tk.t Tk.h) ?_; refine Sb.c (Tk.t Tk.h) ?_; refine Sb.c (Tk.t Tk.h) ?_; refine Sb.c Tk.h ?_; refine Sb.c Tk.h ?_; refine Sb.c Tk.h ?_; refine Sb.c Tk.h ?_; refine Sb.c Tk.h ?_; refine Sb.c Tk.h ?_); (exact Sb.r))), ?_⟩
                  refine GW.one (i := 19) (by kernel_rfl) rfl ?_
                  refine GO.assign rfl rfl ?_
                  refine GO.nil ⟨rfl, _, _, rfl, ImpS.refl, ?_⟩
                  refine GW.nil ⟨sp, b16, hsp, by (refine SubE.c rfl rfl ?_; refine SubE.c rfl rfl ?_; refine SubE.c rfl rfl ?_; refine SubE.c rfl rfl ?_; refine SubE.c rfl rfl ?_; refine SubE.c rfl rfl ?_; refine SubE.c rfl rfl ?_; refine SubE.c rfl rfl ?_; refine SubE.c rfl rfl ?_; exact SubE.n), ImpS.sb (by ((refine Sb.c (Tk.t (Tk.t (Tk.t Tk.h))) ?_; refine Sb.c (Tk.t (Tk.t (Tk.t Tk.h))) ?_; refine Sb.c (Tk.t (Tk.t (Tk.t Tk.h))) ?_; refine Sb.c (Tk.t (Tk.t (Tk.t Tk.h))) ?_; refine Sb.c (Tk.t (Tk.t (Tk.t Tk.h))) ?_; refine Sb.c (Tk.t (Tk.t (Tk.t Tk.h))) ?_; refine Sb.c Tk.h ?_; refine Sb.c Tk.h ?_; refine Sb.c Tk.h ?_); (exact Sb.r)))⟩
            · skip
              refine GO.alloc rfl fun b16 => ?_
              refine GO.nil ⟨rfl, _, pt b16 (row [i64 0, .slice none 0 0] 52) :: sp.P :: P kb :: sp.Z :: q :: oth2 P ka kb :: F, rfl, ImpS.sb (by ((refine Sb.c (Tk.t Tk.h) ?_; refine Sb.c (Tk.t Tk.h) ?_; refine Sb.c (Tk.t Tk.h) ?_; refine Sb.c Tk.h ?_; refine Sb.c Tk.h ?_; refine Sb.c Tk.h ?_; refine Sb.c Tk.h ?_; refine Sb.c Tk.h ?_; refine Sb.c Tk.h ?_); (exact Sb.r))), ?_⟩
              refine GW.one (i := 14) (by kernel_rfl) rfl ?_
              refine GO.move rfl rfl ?_
              refine GO.nil ⟨rfl, _, _, rfl, ImpS.refl, ?_⟩
              refine GW.two (i1 := 15) (i2 := 16) (by kernel_rfl) rfl rfl ?_ ?_
              · skip
                refine GO.extract rfl rfl rfl ?_
                refine GO.nil ⟨rfl, _, _, rfl, ImpS.refl, ?_⟩
                refine GW.two (i1 := 16) (i2 := 18) (by kernel_rfl) rfl rfl ?_ ?_
                · skip
                  refine GO.extract rfl rfl rfl ?_
                  refine GO.nil ⟨rfl, _, _, rfl, ImpS.refl, ?_⟩
                  refine GW.one (i := 18) (by kernel_rfl) rfl ?_
                  refine GO.storeW rfl rfl (Tk.t (Tk.t (Tk.t Tk.h))) ⟨rfl, rfl⟩ (by simp [Value.oneCell']; assumption) ?_
                  refine GO.nil ⟨rfl, .tuple #[], pt b16 (row [i64 (sideO sp.o : Nat), sp.r] 52) :: sp.P :: P kb :: sp.Z :: q :: oth2 P ka kb :: F, rfl, ImpS.sb (by ((refine Sb.c (Tk.t Tk.h) ?_; refine Sb.c (Tk.t Tk.h) ?_; refine Sb.c (Tk.t Tk.h) ?_; refine Sb.c Tk.h ?_; refine Sb.c Tk.h ?_; refine Sb.c Tk.h ?_; refine Sb.c Tk.h ?_; refine Sb.c Tk.h ?_; refine Sb.c Tk.h ?_); (exact Sb.r))), ?_⟩
                  refine GW.one (i := 19) (by kernel_rfl) rfl ?_
                  refine GO.assign rfl rfl ?_
                  refine GO.nil ⟨rfl, _, _, rfl, ImpS.refl, ?_⟩
                  refine GW.nil ⟨sp, b16, hsp, by (refine SubE.c rfl rfl ?_; refine SubE.c rfl rfl ?_; refine SubE.c rfl rfl ?_; refine SubE.c rfl rfl ?_; refine SubE.c rfl rfl ?_; refine SubE.c rfl rfl ?_; refine SubE.c rfl rfl ?_; refine SubE.c rfl rfl ?_; refine SubE.c rfl rfl ?_; exact SubE.n), ImpS.sb (by ((refine Sb.c (Tk.t (Tk.t (Tk.t Tk.h))) ?_; refine Sb.c (Tk.t (Tk.t (Tk.t Tk.h))) ?_; refine Sb.c (Tk.t (Tk.t (Tk.t Tk.h))) ?_; refine Sb.c (Tk.t (Tk.t (Tk.t Tk.h))) ?_; refine Sb.c (Tk.t (Tk.t (Tk.t Tk.h))) ?_; refine Sb.c (Tk.t (Tk.t (Tk.t Tk.h))) ?_; refine Sb.c Tk.h ?_; refine Sb.c Tk.h ?_; refine Sb.c Tk.h ?_); (exact Sb.r)))⟩
                · skip
                  refine GO.storeW rfl rfl (Tk.t (Tk.t (Tk.t Tk.h))) ⟨rfl, rfl⟩ (by simp [Value.oneCell']; assumption) ?_
                  refine GO.nil ⟨rfl, .tuple #[], pt b16 (row [i64 (sideO sp.o : Nat), sp.r] 52) :: sp.P :: P kb :: sp.Z :: q :: oth2 P ka kb :: F, rfl, ImpS.sb (by ((refine Sb.c (Tk.t Tk.h) ?_; refine Sb.c (Tk.t Tk.h) ?_; refine Sb.c (Tk.t Tk.h) ?_; refine Sb.c Tk.h ?_; refine Sb.c Tk.h ?_; refine Sb.c Tk.h ?_; refine Sb.c Tk.h ?_; refine Sb.c Tk.h ?_; refine Sb.c Tk.h ?_); (exact Sb.r))), ?_⟩
                  refine GW.one (i := 16) (by kernel_rfl) rfl ?_
                  refine GO.extract rfl rfl rfl ?_
                  refine GO.nil ⟨rfl, _, _, rfl, ImpS.refl, ?_⟩
                  refine GW.one (i := 19) (by kernel_rfl) rfl ?_
                  refine GO.assign rfl rfl ?_
                  refine GO.nil ⟨rfl, _, _, rfl, ImpS.refl, ?_⟩
                  refine GW.nil ⟨sp, b16, hsp, by (refine SubE.c rfl rfl ?_; refine SubE.c rfl rfl ?_; refine SubE.c rfl rfl ?_; refine SubE.c rfl rfl ?_; refine SubE.c rfl rfl ?_; refine SubE.c rfl rfl ?_; refine SubE.c rfl rfl ?_; refine SubE.c rfl rfl ?_; refine SubE.c rfl rfl ?_; exact SubE.n), ImpS.sb (by ((refine Sb.c (Tk.t (Tk.t (Tk.t Tk.h))) ?_; refine Sb.c (Tk.t (Tk.t (Tk.t Tk.h))) ?_; refine Sb.c (Tk.t (Tk.t (Tk.t Tk.h))) ?_; refine Sb.c (Tk.t (Tk.t (Tk.t Tk.h))) ?_; refine Sb.c (Tk.t (Tk.t (Tk.t Tk.h))) ?_; refine Sb.c (Tk.t (Tk.t (Tk.t Tk.h))) ?_; refine Sb.c Tk.h ?_; refine Sb.c Tk.h ?_; refine Sb.c Tk.h ?_); (exact Sb.r)))⟩
              · skip
                refine GO.extract rfl rfl rfl ?_
                refine GO.nil ⟨rfl, _, _, rfl, ImpS.refl, ?_⟩
                refine GW.one (i := 15) (by kernel_rfl) rfl ?_
                refine GO.extract rfl rfl rfl ?_
                refine GO.nil ⟨rfl, _, _, rfl, ImpS.refl, ?_⟩
                refine GW.one (i := 18) (by kernel_rfl) rfl ?_
                refine GO.storeW rfl rfl (Tk.t (Tk.t (Tk.t Tk.h))) ⟨rfl, rfl⟩ (by simp [Value.oneCell']; assumption) ?_
                refine GO.nil ⟨rfl, .tuple #[], pt b16 (row [i64 (sideO sp.o : Nat), sp.r] 52) :: sp.P :: P kb :: sp.Z :: q :: oth2 P ka kb :: F, rfl, ImpS.sb (by ((refine Sb.c (Tk.t Tk.h) ?_; refine Sb.c (Tk.t Tk.h) ?_; refine Sb.c (Tk.t Tk.h) ?_; refine Sb.c Tk.h ?_; refine Sb.c Tk.h ?_; refine Sb.c Tk.h ?_; refine Sb.c Tk.h ?_; refine Sb.c Tk.h ?_; refine Sb.c Tk.h ?_); (exact Sb.r))), ?_⟩
                refine GW.one (i := 19) (by kernel_rfl) rfl ?_
                refine GO.assign rfl rfl ?_
                refine GO.nil ⟨rfl, _, _, rfl, ImpS.refl, ?_⟩
                refine GW.nil ⟨sp, b16, hsp, by (refine SubE.c rfl rfl ?_; refine SubE.c rfl rfl ?_; refine SubE.c rfl rfl ?_; refine SubE.c rfl rfl ?_; refine SubE.c rfl rfl ?_; refine SubE.c rfl rfl ?_; refine SubE.c rfl rfl ?_; refine SubE.c rfl rfl ?_; refine SubE.c rfl rfl ?_; exact SubE.n), ImpS.sb (by ((refine Sb.c (Tk.t (Tk.t (Tk.t Tk.h))) ?_; refine Sb.c (Tk.t (Tk.t (Tk.t Tk.h))) ?_; refine Sb.c (Tk.t (Tk.t (Tk.t Tk.h))) ?_; refine Sb.c (Tk.t (Tk.t (Tk.t Tk.h))) ?_; refine Sb.c (Tk.t (Tk.t (Tk.t Tk.h))) ?_; refine Sb.c (Tk.t (Tk.t (Tk.t Tk.h))) ?_; refine Sb.c Tk.h ?_; refine Sb.c Tk.h ?_; refine Sb.c Tk.h ?_); (exact Sb.r)))⟩
          · skip
            refine GO.alloc rfl fun b16 => ?_
            refine GO.nil ⟨rfl, _, pt b16 (row [i64 0, .slice none 0 0] 52) :: P ka :: P kb :: oth2 P ka kb :: Z :: q :: F, rfl, ImpS.sb (by ((refine Sb.c (Tk.t Tk.h) ?_; refine Sb.c (Tk.t Tk.h) ?_; refine Sb.c (Tk.t Tk.h) ?_; refine Sb.c Tk.h ?_; refine Sb.c Tk.h ?_; refine Sb.c Tk.h ?_; refine Sb.c Tk.h ?_; refine Sb.c Tk.h ?_; refine Sb.c Tk.h ?_); (exact Sb.r))), ?_⟩
            refine GW.one (i := 13) (by kernel_rfl) rfl ?_
            refine GO.call5 rfl rfl rfl rfl rfl rfl (hD) (Tks.c (Tk.t (Tk.t (Tk.t (Tk.t Tk.h)))) (Tks.c (Tk.t (Tk.t (Tk.t (Tk.t Tk.h)))) (Tks.c (Tk.t (Tk.t (Tk.t (Tk.t (Tk.t Tk.h))))) (Tks.c (Tk.t (Tk.t (Tk.t (Tk.t (Tk.t Tk.h))))) Tks.n)))) ?_
            rintro _ _ ⟨sp, hsp, rfl, rfl⟩
            have hone9 := hsp.one
            refine GO.nil ⟨rfl, _, pt b16 (row [i64 0, .slice none 0 0] 52) :: sp.P :: P kb :: sp.Z :: q :: oth2 P ka kb :: F, rfl, ImpS.sb (by ((refine Sb.c (Tk.t (Tk.t (Tk.t (Tk.t Tk.h)))) ?_; refine Sb.c (Tk.t (Tk.t (Tk.t (Tk.t Tk.h)))) ?_; refine Sb.c (Tk.t (Tk.t (Tk.t (Tk.t Tk.h)))) ?_; refine Sb.c (Tk.t (Tk.t (Tk.t (Tk.t Tk.h)))) ?_; refine Sb.c Tk.h ?_; refine Sb.c Tk.h ?_; refine Sb.c Tk.h ?_; refine Sb.c Tk.h ?_; refine Sb.c Tk.h ?_); (exact Sb.r))), ?_⟩
            refine GW.one (i := 14) (by kernel_rfl) rfl ?_
            refine GO.move rfl rfl ?_
            refine GO.nil ⟨rfl, _, _, rfl, ImpS.refl, ?_⟩
            refine GW.two (i1 := 15) (i2 := 16) (by kernel_rfl) rfl rfl ?_ ?_
            · skip
              refine GO.extract rfl rfl rfl ?_
              refine GO.nil ⟨rfl, _, _, rfl, ImpS.refl, ?_⟩
              refine GW.two (i1 := 16) (i2 := 18) (by kernel_rfl) rfl rfl ?_ ?_
              · skip
                refine GO.extract rfl rfl rfl ?_
                refine GO.nil ⟨rfl, _, _, rfl, ImpS.refl, ?_⟩
                refine GW.one (i := 18) (by kernel_rfl) rfl ?_
                refine GO.storeW rfl rfl (Tk.t (Tk.t (Tk.t Tk.h))) ⟨rfl, rfl⟩ (by simp [Value.oneCell']; assumption) ?_
                refine GO.nil ⟨rfl, .tuple #[], pt b16 (row [i64 (sideO sp.o : Nat), sp.r] 52) :: sp.P :: P kb :: sp.Z :: q :: oth2 P ka kb :: F, rfl, ImpS.sb (by ((refine Sb.c (Tk.t Tk.h) ?_; refine Sb.c (Tk.t Tk.h) ?_; refine Sb.c (Tk.t Tk.h) ?_; refine Sb.c Tk.h ?_; refine Sb.c Tk.h ?_; refine Sb.c Tk.h ?_; refine Sb.c Tk.h ?_; refine Sb.c Tk.h ?_; refine Sb.c Tk.h ?_); (exact Sb.r))), ?_⟩
                refine GW.one (i := 19) (by kernel_rfl) rfl ?_
                refine GO.assign rfl rfl ?_
                refine GO.nil ⟨rfl, _, _, rfl, ImpS.refl, ?_⟩
                refine GW.nil ⟨sp, b16, hsp, by (refine SubE.c rfl rfl ?_; refine SubE.c rfl rfl ?_; refine SubE.c rfl rfl ?_; refine SubE.c rfl rfl ?_; refine SubE.c rfl rfl ?_; refine SubE.c rfl rfl ?_; refine SubE.c rfl rfl ?_; refine SubE.c rfl rfl ?_; refine SubE.c rfl rfl ?_; exact SubE.n), ImpS.sb (by ((refine Sb.c (Tk.t (Tk.t (Tk.t Tk.h))) ?_; refine Sb.c (Tk.t (Tk.t (Tk.t Tk.h))) ?_; refine Sb.c (Tk.t (Tk.t (Tk.t Tk.h))) ?_; refine Sb.c (Tk.t (Tk.t (Tk.t Tk.h))) ?_; refine Sb.c (Tk.t (Tk.t (Tk.t Tk.h))) ?_; refine Sb.c (Tk.t (Tk.t (Tk.t Tk.h))) ?_; refine Sb.c Tk.h ?_; refine Sb.c Tk.h ?_; refine Sb.c Tk.h ?_); (exact Sb.r)))⟩
              · skip
                refine GO.storeW rfl rfl (Tk.t (Tk.t (Tk.t Tk.h))) ⟨rfl, rfl⟩ (by simp [Value.oneCell']; assumption) ?_
                refine GO.nil ⟨rfl, .tuple #[], pt b16 (row [i64 (sideO sp.o : Nat), sp.r] 52) :: sp.P :: P kb :: sp.Z :: q :: oth2 P ka kb :: F, rfl, ImpS.sb (by ((refine Sb.c (Tk.t Tk.h) ?_; refine Sb.c (Tk.t Tk.h) ?_; refine Sb.c (Tk.t Tk.h) ?_; refine Sb.c Tk.h ?_; refine Sb.c Tk.h ?_; refine Sb.c Tk.h ?_; refine Sb.c Tk.h ?_; refine Sb.c Tk.h ?_; refine Sb.c Tk.h ?_); (exact Sb.r))), ?_⟩
                refine GW.one (i := 16) (by kernel_rfl) rfl ?_
                refine GO.extract rfl rfl rfl ?_
                refine GO.nil ⟨rfl, _, _, rfl, ImpS.refl, ?_⟩
                refine GW.one (i := 19) (by kernel_rfl) rfl ?_
                refine GO.assign rfl rfl ?_
                refine GO.nil ⟨rfl, _, _, rfl, ImpS.refl, ?_⟩
                refine GW.nil ⟨sp, b16, hsp, by (refine SubE.c rfl rfl ?_; refine SubE.c rfl rfl ?_; refine SubE.c rfl rfl ?_; refine SubE.c rfl rfl ?_; refine SubE.c rfl rfl ?_; refine SubE.c rfl rfl ?_; refine SubE.c rfl rfl ?_; refine SubE.c rfl rfl ?_; refine SubE.c rfl rfl ?_; exact SubE.n), ImpS.sb (by ((refine Sb.c (Tk.t (Tk.t (Tk.t Tk.h))) ?_; refine Sb.c (Tk.t (Tk.t (Tk.t Tk.h))) ?_; refine Sb.c (Tk.t (Tk.t (Tk.t Tk.h))) ?_; refine Sb.c (Tk.t (Tk.t (Tk.t Tk.h))) ?_; refine Sb.c (Tk.t (Tk.t (Tk.t Tk.h))) ?_; refine Sb.c (Tk.t (Tk.t (Tk.t Tk.h))) ?_; refine Sb.c Tk.h ?_; refine Sb.c Tk.h ?_; refine Sb.c Tk.h ?_); (exact Sb.r)))⟩
            · skip
              refine GO.extract rfl rfl rfl ?_
              refine GO.nil ⟨rfl, _, _, rfl, ImpS.refl, ?_⟩
              refine GW.one (i := 15) (by kernel_rfl) rfl ?_
              refine GO.extract rfl rfl rfl ?_
              refine GO.nil ⟨rfl, _, _, rfl, ImpS.refl, ?_⟩
              refine GW.one (i := 18) (by kernel_rfl) rfl ?_
              refine GO.storeW rfl rfl (Tk.t (Tk.t (Tk.t Tk.h))) ⟨rfl, rfl⟩ (by simp [Value.oneCell']; assumption) ?_
              refine GO.nil ⟨rfl, .tuple #[], pt b16 (row [i64 (sideO sp.o : Nat), sp.r] 52) :: sp.P :: P kb :: sp.Z :: q :: oth2 P ka kb :: F, rfl, ImpS.sb (by ((refine Sb.c (Tk.t Tk.h) ?_; refine Sb.c (Tk.t Tk.h) ?_; refine Sb.c (Tk.t Tk.h) ?_; refine Sb.c Tk.h ?_; refine Sb.c Tk.h ?_; refine Sb.c Tk.h ?_; refine Sb.c Tk.h ?_; refine Sb.c Tk.h ?_; refine Sb.c Tk.h ?_); (exact Sb.r))), ?_⟩
              refine GW.one (i := 19) (by kernel_rfl) rfl ?_
              refine GO.assign rfl rfl ?_
              refine GO.nil ⟨rfl, _, _, rfl, ImpS.refl, ?_⟩
              refine GW.nil ⟨sp, b16, hsp, by (refine SubE.c rfl rfl ?_; refine SubE.c rfl rfl ?_; refine SubE.c rfl rfl ?_; refine SubE.c rfl rfl ?_; refine SubE.c rfl rfl ?_; refine SubE.c rfl rfl ?_; refine SubE.c rfl rfl ?_; refine SubE.c rfl rfl ?_; refine SubE.c rfl rfl ?_; exact SubE.n), ImpS.sb (by ((refine Sb.c (Tk.t (Tk.t (Tk.t Tk.h))) ?_; refine Sb.c (Tk.t (Tk.t (Tk.t Tk.h))) ?_; refine Sb.c (Tk.t (Tk.t (Tk.t Tk.h))) ?_; refine Sb.c (Tk.t (Tk.t (Tk.t Tk.h))) ?_; refine Sb.c (Tk.t (Tk.t (Tk.t Tk.h))) ?_; refine Sb.c (Tk.t (Tk.t (Tk.t Tk.h))) ?_; refine Sb.c Tk.h ?_; refine Sb.c Tk.h ?_; refine Sb.c Tk.h ?_); (exact Sb.r)))⟩
        · rintro L' H' ⟨sp, b16, hsp, hL', hH'⟩
          have hone9 := hsp.one
          refine GO.keep hH' (GO.sub hL' Sb.r ?_)
          (refine GO.nil ?_; refine kthen_n ?_; refine G.seq ?_; refine G.seq ?_; refine G.region ?_; refine GO.move rfl rfl ?_; refine GO.not rfl rfl ?_; refine GO.nil ?_; refine kthen_n ?_; refine G.condF rfl rfl ?_; refine G.skip ?_; refine kthen_n ?_; refine G.seq ?_; refine G.seq ?_; refine G.region ?_; refine GO.move rfl rfl ?_; refine GO.move rfl rfl ?_; refine GO.eqi rfl rfl rfl ?_; refine GO.move rfl rfl ?_; refine GO.gF rfl rfl rfl (by assumption) ?_; refine GO.gF rfl rfl rfl (by assumption) ?_; refine GO.gF rfl rfl rfl (by assumption) ?_; refine GO.pickFa rfl rfl (by assumption) rfl ?_; refine GO.nil ?_; refine kthen_n ?_; refine G.condF rfl rfl ?_; refine G.skip ?_; refine kthen_n ?_; refine G.region ?_; refine GO.move rfl rfl ?_; refine GO.loadW rfl rfl rfl Tk.h rfl ?_; refine GO.idxA rfl rfl rfl ⟨rfl, by omega⟩ ?_)
          refine GO.storeG (n := 2) (vs := [i64 (sideO (sp.o) : Nat), sp.r]) rfl rfl rfl rfl (Tk.t (Tk.t (Tk.t (Tk.t (Tk.t (Tk.t (Tk.t Tk.h))))))) (by rw [rarr_len]; omega) (by simp [Value.oneCell']; assumption) ?_
          rw [show (rarr o r).take (0 + ka * 2) ++ [i64 (sideO (sp.o) : Nat), sp.r] ++ (rarr o r).drop (0 + ka * 2 + 2) = rarr (put4 o ka (sp.o)) (put4 r ka (sp.r)) by rw [Nat.zero_add]; exact rarr_put o r _ _ ha]
          (refine GO.nil ?_; refine kblock_n ?_; refine kblock_n ?_; refine kthen_n ?_; refine G.region ?_; refine GO.move rfl rfl ?_; refine GO.addi rfl rfl rfl (by omega) ?_; refine GO.assign rfl rfl ?_; refine GO.nil ?_; refine kthen_n ?_)
          refine ⟨⟨n + 1, put4 P ka sp.P, sp.Z, put4 m ka (m ka), put4 o ka (sp.o), put4 r ka (sp.r)⟩, ⟨by dsimp only; omega, FourOK.put (s := ⟨n, P, Z, m, o, r⟩) hok hsp.sup ka (n + 1) ⟨hsp.mat, hsp.wf, hsp.ref, hsp.one⟩⟩, by dsimp only; omega, ?_, ?_⟩
          · (refine SubE.c rfl rfl ?_; refine SubE.c rfl rfl ?_; refine SubE.c rfl rfl ?_; refine SubE.c rfl rfl ?_; exact SubE.n)
          · dsimp only
            rw [put4_same m ka]
            refine ImpS.trans (ImpS.sb (M := sp.P :: P kb :: oth2 P ka kb :: sp.Z :: pt b3 (row (marr m) 50) :: pt b4 (row (rarr (put4 o ka (sp.o)) (put4 r ka (sp.r))) 53) :: q :: F) ?_) (ImpS.trans (ImpS.under (ImpS.twoIn P ha hb hab _)) (ImpS.fourSet P sp.P ha _))
            ((refine Sb.c (Tk.t (Tk.t Tk.h)) ?_; refine Sb.c (Tk.t (Tk.t Tk.h)) ?_; refine Sb.c (Tk.t (Tk.t (Tk.t (Tk.t Tk.h)))) ?_; refine Sb.c (Tk.t (Tk.t Tk.h)) ?_; refine Sb.c (Tk.t (Tk.t (Tk.t Tk.h))) ?_; refine Sb.c Tk.h ?_; refine Sb.c (Tk.t Tk.h) ?_); (refine Sb.s ?_; refine Sb.s ?_; exact Sb.r))
    have hpb := (hm kb).ptr
    obtain ⟨pb, hpb⟩ := hpb
    have hD := done_spec d hd7 q (P ka) Z hq (m ka) (refV (sideO (o ka)) (r ka)) (o ka) (hm ka).mat (hm ka).ref (hm ka).wf a bb i j (sideO (o kb) : Nat) u (r kb) L pb hup (by omega) (hm kb).one
    rw [← hpb] at hD
    have d7 : decide (d = 7) = false := decide_eq_false hd7
    (refine GO.nil ?_; refine kthen_n ?_; refine G.seq ?_; refine G.region ?_; refine GO.fieldAddr rfl rfl ?_; refine GO.load1 rfl rfl rfl Tk.h rfl ?_; refine GO.nil ?_; refine kthen_n ?_; refine G.block ?_; refine G.seq ?_; refine G.seq ?_; refine G.region ?_; refine GO.eqi rfl rfl rfl ?_; refine GO.assign rfl rfl ?_; refine GO.nil ?_; refine kthen_n ?_; refine G.condF rfl (by assumption) ?_; refine G.region ?_; refine GO.eqi rfl rfl rfl ?_; refine GO.assign rfl rfl ?_; refine GO.nil ?_; refine kthen_n ?_; refine G.condF rfl (by assumption) ?_; refine G.seq ?_; refine G.region ?_; refine GO.eqi rfl rfl rfl ?_; refine GO.assign rfl rfl ?_; refine GO.nil ?_; refine kthen_n ?_; refine G.condF rfl (by assumption) ?_; refine G.seq ?_; refine G.region ?_; refine GO.eqi rfl rfl rfl ?_; refine GO.assign rfl rfl ?_; refine GO.nil ?_; refine kthen_n ?_; refine G.condF rfl (by assumption) ?_; refine G.seq ?_; refine G.region ?_; refine GO.eqi rfl rfl rfl ?_; refine GO.assign rfl rfl ?_; refine GO.nil ?_; refine kthen_n ?_; refine G.condF rfl (by assumption) ?_; refine G.seq ?_; refine G.region ?_; refine GO.eqi rfl rfl rfl ?_; refine GO.assign rfl rfl ?_; refine GO.nil ?_; refine kthen_n ?_; refine G.condF rfl (by assumption) ?_; refine G.seq ?_)
    refine G.impS (ImpS.trans (ImpS.sb (M := fourP P :: Z :: pt b3 (row (marr m) 50) :: pt b4 (row (rarr o r) 53) :: q :: pt b6 (row [i64 d, i64 a, i64 bb, i64 i, i64 j, u] 55) :: F) (by ((refine Sb.c (Tk.t Tk.h) ?_; refine Sb.c (Tk.t Tk.h) ?_; refine Sb.c (Tk.t Tk.h) ?_; refine Sb.c (Tk.t Tk.h) ?_; refine Sb.c (Tk.t Tk.h) ?_; refine Sb.c Tk.h ?_); (exact Sb.r)))) (ImpS.fourOut P ha _)) ?_
    refine G.drawW 20 1040384 7 [pt b3 (row (marr m) 50), pt b4 (row (rarr o r) 53), pt b6 (row [i64 d, i64 a, i64 bb, i64 i, i64 j, u] 55)] (P ka :: oth P ka :: Z :: q :: F)
      (fun L' H' => ∃ (sp : PairS) (b16 : Nat), PairOK (m ka) Z sp ∧ SubE [(0, .slice (some ⟨b0, oo, none⟩) l.length cap0), (3, ptrV b3), (4, ptrV b4), (5, i64 (n : Nat)), (6, ptrV b6), (7, i64 (ka : Nat)), (8, i64 (kb : Nat)), (16, ptrV b16), (17, .bool true)] L' ∧ ImpS H' (pt b16 (row [i64 (sideO sp.o : Nat), sp.r] 52) :: sp.P :: sp.Z :: q :: oth P ka :: pt b3 (row (marr m) 50) :: pt b4 (row (rarr o r) 53) :: pt b6 (row [i64 d, i64 a, i64 bb, i64 i, i64 j, u] 55) :: F)) (by kernel_rfl) (by kernel_rfl) (keys_of rfl) (ImpS.sb (by ((refine Sb.c (Tk.t (Tk.t (Tk.t Tk.h))) ?_; refine Sb.c (Tk.t (Tk.t (Tk.t Tk.h))) ?_; refine Sb.c (Tk.t (Tk.t (Tk.t (Tk.t Tk.h)))) ?_; refine Sb.c Tk.h ?_; refine Sb.c Tk.h ?_; refine Sb.c Tk.h ?_; refine Sb.c Tk.h ?_); (exact Sb.r)))) ?_ ?_
    · ((apply GR.step rfl; focus (intro Z; refine GO.move rfl rfl ?_; exact KQ.z)); (apply GR.step rfl; focus (intro Z; refine GO.idxA rfl rfl rfl ⟨rfl, by omega⟩ ?_; exact KQ.z)); (apply GR.step rfl; focus (intro Z; refine GO.loadQ rfl rfl rfl Tk.h (by assumption) ?_; exact KQ.z)); (apply GR.step rfl; focus (intro Z; refine GO.move rfl rfl ?_; exact KQ.z)); (apply GR.step rfl; focus (intro Z; refine GO.idxA rfl rfl rfl ⟨rfl, by omega⟩ ?_; exact KQ.z)); (apply GR.step rfl; focus (intro Z; refine GO.loadQ rfl rfl rfl Tk.h (by assumption) ?_; exact KQ.z)); (apply GR.step rfl; focus (intro Z; refine GO.move rfl rfl ?_; exact KQ.z)); (apply GR.step rfl; focus (intro Z; refine GO.idxA rfl rfl rfl ⟨rfl, by omega⟩ ?_; exact KQ.z)))
      apply GR.step rfl; focus (intro Z9; refine GO.loadM (vs := [i64 (sideO (o ka) : Nat), r ka]) rfl rfl rfl (Tk.t Tk.h) rfl rwa ?_; exact KQ.z)
      ((apply GR.step rfl; focus (intro Z; refine GO.move rfl rfl ?_; exact KQ.z)); (apply GR.step rfl; focus (intro Z; refine GO.idxA rfl rfl rfl ⟨rfl, by omega⟩ ?_; exact KQ.z)))
      apply GR.step rfl; focus (intro Z9; refine GO.loadM (vs := [i64 (sideO (o kb) : Nat), r kb]) rfl rfl rfl (Tk.t Tk.h) rfl rwb ?_; exact KQ.z)
      ((apply GR.step rfl; focus (intro Z; refine GO.loadW rfl rfl rfl (Tk.t (Tk.t Tk.h)) rfl ?_; exact KQ.z)); refine GR.skip rfl ?_; refine GR.skip rfl ?_; refine GR.skip rfl ?_; refine GR.skip rfl ?_; refine GR.skip rfl ?_; refine GR.skip rfl ?_; refine GR.skip rfl ?_; refine GR.nil ?_)
      refine GW.two (i1 := 13) (i2 := 17) (by kernel_rfl) rfl rfl ?_ ?_
      · skip
        refine GO.call5 rfl rfl rfl rfl rfl rfl (hD) (Tks.c (Tk.t (Tk.t (Tk.t Tk.h))) (Tks.c (Tk.t (Tk.t (Tk.t (Tk.t Tk.h)))) (Tks.c (Tk.t (Tk.t (Tk.t (Tk.t Tk.h)))) Tks.n))) ?_
        rintro _ _ ⟨sp, hsp, rfl, rfl⟩
        have hone9 := hsp.one
        refine GO.nil ⟨rfl, _, sp.P :: sp.Z :: q :: oth P ka :: F, rfl, ImpS.sb (by ((refine Sb.c (Tk.t (Tk.t (Tk.t Tk.h))) ?_; refine Sb.c (Tk.t (Tk.t (Tk.t Tk.h))) ?_; refine Sb.c (Tk.t (Tk.t (Tk.t Tk.h))) ?_; refine Sb.c Tk.h ?_; refine Sb.c Tk.h ?_; refine Sb.c Tk.h ?_; refine Sb.c Tk.h ?_); (exact Sb.r))), ?_⟩
        refine GW.two (i1 := 14) (i2 := 17) (by kernel_rfl) rfl rfl ?_ ?_
        · skip
          refine GO.move rfl rfl ?_
          refine GO.nil ⟨rfl, _, _, rfl, ImpS.refl, ?_⟩
          refine GW.three (i1 := 15) (i2 := 16) (i3 := 17) (by kernel_rfl) rfl rfl rfl ?_ ?_ ?_
          · skip
            refine GO.extract rfl rfl rfl ?_
            refine GO.nil ⟨rfl, _, _, rfl, ImpS.refl, ?_⟩
            refine GW.two (i1 := 16) (i2 := 17) (by kernel_rfl) rfl rfl ?_ ?_
            · skip
              refine GO.extract rfl rfl rfl ?_
              refine GO.nil ⟨rfl, _, _, rfl, ImpS.refl, ?_⟩
              refine GW.one (i := 17) (by kernel_rfl) rfl ?_
              refine GO.alloc rfl fun b16 => ?_
              refine GO.nil ⟨rfl, _, pt b16 (row [i64 0, .slice none 0 0] 52) :: sp.P :: sp.Z :: q :: oth P ka :: F, rfl, ImpS.sb (by ((refine Sb.c (Tk.t Tk.h) ?_; refine Sb.c (Tk.t Tk.h) ?_; refine Sb.c (Tk.t Tk.h) ?_; refine Sb.c Tk.h ?_; refine Sb.c Tk.h ?_; refine Sb.c Tk.h ?_; refine Sb.c Tk.h ?_; refine Sb.c Tk.h ?_); (exact Sb.r))), ?_⟩
              refine GW.one (i := 18) (by kernel_rfl) rfl ?_
              refine GO.storeW rfl rfl (Tk.t (Tk.t (Tk.t Tk.h))) ⟨rfl, rfl⟩ (by simp [Value.oneCell']; assumption) ?_
              refine GO.nil ⟨rfl, .tuple #[], pt b16 (row [i64 (sideO sp.o : Nat), sp.r] 52) :: sp.P :: sp.Z :: q :: oth P ka :: F, rfl, ImpS.sb (by ((refine Sb.c (Tk.t Tk.h) ?_; refine Sb.c (Tk.t Tk.h) ?_; refine Sb.c (Tk.t Tk.h) ?_; refine Sb.c Tk.h ?_; refine Sb.c Tk.h ?_; refine Sb.c Tk.h ?_; refine Sb.c Tk.h ?_; refine Sb.c Tk.h ?_); (exact Sb.r))), ?_⟩
              refine GW.one (i := 19) (by kernel_rfl) rfl ?_
              refine GO.assign rfl rfl ?_
              refine GO.nil ⟨rfl, _, _, rfl, ImpS.refl, ?_⟩
              refine GW.nil ⟨sp, b16, hsp, by (refine SubE.c rfl rfl ?_; refine SubE.c rfl rfl ?_; refine SubE.c rfl rfl ?_; refine SubE.c rfl rfl ?_; refine SubE.c rfl rfl ?_; refine SubE.c rfl rfl ?_; refine SubE.c rfl rfl ?_; refine SubE.c rfl rfl ?_; refine SubE.c rfl rfl ?_; exact SubE.n), ImpS.sb (by ((refine Sb.c (Tk.t (Tk.t (Tk.t Tk.h))) ?_; refine Sb.c (Tk.t (Tk.t (Tk.t Tk.h))) ?_; refine Sb.c (Tk.t (Tk.t (Tk.t Tk.h))) ?_; refine Sb.c (Tk.t (Tk.t (Tk.t Tk.h))) ?_; refine Sb.c (Tk.t (Tk.t (Tk.t Tk.h))) ?_; refine Sb.c Tk.h ?_; refine Sb.c Tk.h ?_; refine Sb.c Tk.h ?_); (exact Sb.r)))⟩
            · skip
              refine GO.alloc rfl fun b16 => ?_
              refine GO.nil ⟨rfl, _, pt b16 (row [i64 0, .slice none 0 0] 52) :: sp.P :: sp.Z :: q :: oth P ka :: F, rfl, ImpS.sb (by ((refine Sb.c (Tk.t Tk.h) ?_; refine Sb.c (Tk.t Tk.h) ?_; refine Sb.c (Tk.t Tk.h) ?_; refine Sb.c Tk.h ?_; refine Sb.c Tk.h ?_; refine Sb.c Tk.h ?_; refine Sb.c Tk.h ?_; refine Sb.c Tk.h ?_); (exact Sb.r))), ?_⟩
              refine GW.two (i1 := 16) (i2 := 18) (by kernel_rfl) rfl rfl ?_ ?_
              · skip
                refine GO.extract rfl rfl rfl ?_
                refine GO.nil ⟨rfl, _, _, rfl, ImpS.refl, ?_⟩
                refine GW.one (i := 18) (by kernel_rfl) rfl ?_
                refine GO.storeW rfl rfl (Tk.t (Tk.t (Tk.t Tk.h))) ⟨rfl, rfl⟩ (by simp [Value.oneCell']; assumption) ?_
                refine GO.nil ⟨rfl, .tuple #[], pt b16 (row [i64 (sideO sp.o : Nat), sp.r] 52) :: sp.P :: sp.Z :: q :: oth P ka :: F, rfl, ImpS.sb (by ((refine Sb.c (Tk.t Tk.h) ?_; refine Sb.c (Tk.t Tk.h) ?_; refine Sb.c (Tk.t Tk.h) ?_; refine Sb.c Tk.h ?_; refine Sb.c Tk.h ?_; refine Sb.c Tk.h ?_; refine Sb.c Tk.h ?_; refine Sb.c Tk.h ?_); (exact Sb.r))), ?_⟩
                refine GW.one (i := 19) (by kernel_rfl) rfl ?_
                refine GO.assign rfl rfl ?_
                refine GO.nil ⟨rfl, _, _, rfl, ImpS.refl, ?_⟩
                refine GW.nil ⟨sp, b16, hsp, by (refine SubE.c rfl rfl ?_; refine SubE.c rfl rfl ?_; refine SubE.c rfl rfl ?_; refine SubE.c rfl rfl ?_; refine SubE.c rfl rfl ?_; refine SubE.c rfl rfl ?_; refine SubE.c rfl rfl ?_; refine SubE.c rfl rfl ?_; refine SubE.c rfl rfl ?_; exact SubE.n), ImpS.sb (by ((refine Sb.c (Tk.t (Tk.t (Tk.t Tk.h))) ?_; refine Sb.c (Tk.t (Tk.t (Tk.t Tk.h))) ?_; refine Sb.c (Tk.t (Tk.t (Tk.t Tk.h))) ?_; refine Sb.c (Tk.t (Tk.t (Tk.t Tk.h))) ?_; refine Sb.c (Tk.t (Tk.t (Tk.t Tk.h))) ?_; refine Sb.c Tk.h ?_; refine Sb.c Tk.h ?_; refine Sb.c Tk.h ?_); (exact Sb.r)))⟩
              · skip
                refine GO.storeW rfl rfl (Tk.t (Tk.t (Tk.t Tk.h))) ⟨rfl, rfl⟩ (by simp [Value.oneCell']; assumption) ?_
                refine GO.nil ⟨rfl, .tuple #[], pt b16 (row [i64 (sideO sp.o : Nat), sp.r] 52) :: sp.P :: sp.Z :: q :: oth P ka :: F, rfl, ImpS.sb (by ((refine Sb.c (Tk.t Tk.h) ?_; refine Sb.c (Tk.t Tk.h) ?_; refine Sb.c (Tk.t Tk.h) ?_; refine Sb.c Tk.h ?_; refine Sb.c Tk.h ?_; refine Sb.c Tk.h ?_; refine Sb.c Tk.h ?_; refine Sb.c Tk.h ?_); (exact Sb.r))), ?_⟩
                refine GW.one (i := 16) (by kernel_rfl) rfl ?_
                refine GO.extract rfl rfl rfl ?_
                refine GO.nil ⟨rfl, _, _, rfl, ImpS.refl, ?_⟩
                refine GW.one (i := 19) (by kernel_rfl) rfl ?_
                refine GO.assign rfl rfl ?_
                refine GO.nil ⟨rfl, _, _, rfl, ImpS.refl, ?_⟩
                refine GW.nil ⟨sp, b16, hsp, by (refine SubE.c rfl rfl ?_; refine SubE.c rfl rfl ?_; refine SubE.c rfl rfl ?_; refine SubE.c rfl rfl ?_; refine SubE.c rfl rfl ?_; refine SubE.c rfl rfl ?_; refine SubE.c rfl rfl ?_; refine SubE.c rfl rfl ?_; refine SubE.c rfl rfl ?_; exact SubE.n), ImpS.sb (by ((refine Sb.c (Tk.t (Tk.t (Tk.t Tk.h))) ?_; refine Sb.c (Tk.t (Tk.t (Tk.t Tk.h))) ?_; refine Sb.c (Tk.t (Tk.t (Tk.t Tk.h))) ?_; refine Sb.c (Tk.t (Tk.t (Tk.t Tk.h))) ?_; refine Sb.c (Tk.t (Tk.t (Tk.t Tk.h))) ?_; refine Sb.c Tk.h ?_; refine Sb.c Tk.h ?_; refine Sb.c Tk.h ?_); (exact Sb.r)))⟩
          · skip
            refine GO.extract rfl rfl rfl ?_
            refine GO.nil ⟨rfl, _, _, rfl, ImpS.refl, ?_⟩
            refine GW.two (i1 := 15) (i2 := 17) (by kernel_rfl) rfl rfl ?_ ?_
            · skip
              refine GO.extract rfl rfl rfl ?_
              refine GO.nil ⟨rfl, _, _, rfl, ImpS.refl, ?_⟩
              refine GW.one (i := 17) (by kernel_rfl) rfl ?_
              refine GO.alloc rfl fun b16 => ?_
              refine GO.nil ⟨rfl, _, pt b16 (row [i64 0, .slice none 0 0] 52) :: sp.P :: sp.Z :: q :: oth P ka :: F, rfl, ImpS.sb (by ((refine Sb.c (Tk.t Tk.h) ?_; refine Sb.c (Tk.t Tk.h) ?_; refine Sb.c (Tk.t Tk.h) ?_; refine Sb.c Tk.h ?_; refine Sb.c Tk.h ?_; refine Sb.c Tk.h ?_; refine Sb.c Tk.h ?_; refine Sb.c Tk.h ?_); (exact Sb.r))), ?_⟩
              refine GW.one (i := 18) (by kernel_rfl) rfl ?_
              refine GO.storeW rfl rfl (Tk.t (Tk.t (Tk.t Tk.h))) ⟨rfl, rfl⟩ (by simp [Value.oneCell']; assumption) ?_
              refine GO.nil ⟨rfl, .tuple #[], pt b16 (row [i64 (sideO sp.o : Nat), sp.r] 52) :: sp.P :: sp.Z :: q :: oth P ka :: F, rfl, ImpS.sb (by ((refine Sb.c (Tk.t Tk.h) ?_; refine Sb.c (Tk.t Tk.h) ?_; refine Sb.c (Tk.t Tk.h) ?_; refine Sb.c Tk.h ?_; refine Sb.c Tk.h ?_; refine Sb.c Tk.h ?_; refine Sb.c Tk.h ?_; refine Sb.c Tk.h ?_); (exact Sb.r))), ?_⟩
              refine GW.one (i := 19) (by kernel_rfl) rfl ?_
              refine GO.assign rfl rfl ?_
              refine GO.nil ⟨rfl, _, _, rfl, ImpS.refl, ?_⟩
              refine GW.nil ⟨sp, b16, hsp, by (refine SubE.c rfl rfl ?_; refine SubE.c rfl rfl ?_; refine SubE.c rfl rfl ?_; refine SubE.c rfl rfl ?_; refine SubE.c rfl rfl ?_; refine SubE.c rfl rfl ?_; refine SubE.c rfl rfl ?_; refine SubE.c rfl rfl ?_; refine SubE.c rfl rfl ?_; exact SubE.n), ImpS.sb (by ((refine Sb.c (Tk.t (Tk.t (Tk.t Tk.h))) ?_; refine Sb.c (Tk.t (Tk.t (Tk.t Tk.h))) ?_; refine Sb.c (Tk.t (Tk.t (Tk.t Tk.h))) ?_; refine Sb.c (Tk.t (Tk.t (Tk.t Tk.h))) ?_; refine Sb.c (Tk.t (Tk.t (Tk.t Tk.h))) ?_; refine Sb.c Tk.h ?_; refine Sb.c Tk.h ?_; refine Sb.c Tk.h ?_); (exact Sb.r)))⟩
            · skip
              refine GO.alloc rfl fun b16 => ?_
              refine GO.nil ⟨rfl, _, pt b16 (row [i64 0, .slice none 0 0] 52) :: sp.P :: sp.Z :: q :: oth P ka :: F, rfl, ImpS.sb (by ((refine Sb.c (Tk.t Tk.h) ?_; refine Sb.c (Tk.t Tk.h) ?_; refine Sb.c (Tk.t Tk.h) ?_; refine Sb.c Tk.h ?_; refine Sb.c Tk.h ?_; refine Sb.c Tk.h ?_; refine Sb.c Tk.h ?_; refine Sb.c Tk.h ?_); (exact Sb.r))), ?_⟩
              refine GW.one (i := 15) (by kernel_rfl) rfl ?_
              refine GO.extract rfl rfl rfl ?_
              refine GO.nil ⟨rfl, _, _, rfl, ImpS.refl, ?_⟩
              refine GW.one (i := 18) (by kernel_rfl) rfl ?_
              refine GO.storeW rfl rfl (Tk.t (Tk.t (Tk.t Tk.h))) ⟨rfl, rfl⟩ (by simp [Value.oneCell']; assumption) ?_
              refine GO.nil ⟨rfl, .tuple #[], pt b16 (row [i64 (sideO sp.o : Nat), sp.r] 52) :: sp.P :: sp.Z :: q :: oth P ka :: F, rfl, ImpS.sb (by ((refine Sb.c (Tk.t Tk.h) ?_; refine Sb.c (Tk.t Tk.h) ?_; refine Sb.c (Tk.t Tk.h) ?_; refine Sb.c Tk.h ?_; refine Sb.c Tk.h ?_; refine Sb.c Tk.h ?_; refine Sb.c Tk.h ?_; refine Sb.c Tk.h ?_); (exact Sb.r))), ?_⟩
              refine GW.one (i := 19) (by kernel_rfl) rfl ?_
              refine GO.assign rfl rfl ?_
              refine GO.nil ⟨rfl, _, _, rfl, ImpS.refl, ?_⟩
              refine GW.nil ⟨sp, b16, hsp, by (refine SubE.c rfl rfl ?_; refine SubE.c rfl rfl ?_; refine SubE.c rfl rfl ?_; refine SubE.c rfl rfl ?_; refine SubE.c rfl rfl ?_; refine SubE.c rfl rfl ?_; refine SubE.c rfl rfl ?_; refine SubE.c rfl rfl ?_; refine SubE.c rfl rfl ?_; exact SubE.n), ImpS.sb (by ((refine Sb.c (Tk.t (Tk.t (Tk.t Tk.h))) ?_; refine Sb.c (Tk.t (Tk.t (Tk.t Tk.h))) ?_; refine Sb.c (Tk.t (Tk.t (Tk.t Tk.h))) ?_; refine Sb.c (Tk.t (Tk.t (Tk.t Tk.h))) ?_; refine Sb.c (Tk.t (Tk.t (Tk.t Tk.h))) ?_; refine Sb.c Tk.h ?_; refine Sb.c Tk.h ?_; refine Sb.c Tk.h ?_); (exact Sb.r)))⟩
          · skip
            refine GO.alloc rfl fun b16 => ?_
            refine GO.nil ⟨rfl, _, pt b16 (row [i64 0, .slice none 0 0] 52) :: sp.P :: sp.Z :: q :: oth P ka :: F, rfl, ImpS.sb (by ((refine Sb.c (Tk.t Tk.h) ?_; refine Sb.c (Tk.t Tk.h) ?_; refine Sb.c (Tk.t Tk.h) ?_; refine Sb.c Tk.h ?_; refine Sb.c Tk.h ?_; refine Sb.c Tk.h ?_; refine Sb.c Tk.h ?_; refine Sb.c Tk.h ?_); (exact Sb.r))), ?_⟩
            refine GW.two (i1 := 15) (i2 := 16) (by kernel_rfl) rfl rfl ?_ ?_
            · skip
              refine GO.extract rfl rfl rfl ?_
              refine GO.nil ⟨rfl, _, _, rfl, ImpS.refl, ?_⟩
              refine GW.two (i1 := 16) (i2 := 18) (by kernel_rfl) rfl rfl ?_ ?_
              · skip
                refine GO.extract rfl rfl rfl ?_
                refine GO.nil ⟨rfl, _, _, rfl, ImpS.refl, ?_⟩
                refine GW.one (i := 18) (by kernel_rfl) rfl ?_
                refine GO.storeW rfl rfl (Tk.t (Tk.t (Tk.t Tk.h))) ⟨rfl, rfl⟩ (by simp [Value.oneCell']; assumption) ?_
                refine GO.nil ⟨rfl, .tuple #[], pt b16 (row [i64 (sideO sp.o : Nat), sp.r] 52) :: sp.P :: sp.Z :: q :: oth P ka :: F, rfl, ImpS.sb (by ((refine Sb.c (Tk.t Tk.h) ?_; refine Sb.c (Tk.t Tk.h) ?_; refine Sb.c (Tk.t Tk.h) ?_; refine Sb.c Tk.h ?_; refine Sb.c Tk.h ?_; refine Sb.c Tk.h ?_; refine Sb.c Tk.h ?_; refine Sb.c Tk.h ?_); (exact Sb.r))), ?_⟩
                refine GW.one (i := 19) (by kernel_rfl) rfl ?_
                refine GO.assign rfl rfl ?_
                refine GO.nil ⟨rfl, _, _, rfl, ImpS.refl, ?_⟩
                refine GW.nil ⟨sp, b16, hsp, by (refine SubE.c rfl rfl ?_; refine SubE.c rfl rfl ?_; refine SubE.c rfl rfl ?_; refine SubE.c rfl rfl ?_; refine SubE.c rfl rfl ?_; refine SubE.c rfl rfl ?_; refine SubE.c rfl rfl ?_; refine SubE.c rfl rfl ?_; refine SubE.c rfl rfl ?_; exact SubE.n), ImpS.sb (by ((refine Sb.c (Tk.t (Tk.t (Tk.t Tk.h))) ?_; refine Sb.c (Tk.t (Tk.t (Tk.t Tk.h))) ?_; refine Sb.c (Tk.t (Tk.t (Tk.t Tk.h))) ?_; refine Sb.c (Tk.t (Tk.t (Tk.t Tk.h))) ?_; refine Sb.c (Tk.t (Tk.t (Tk.t Tk.h))) ?_; refine Sb.c Tk.h ?_; refine Sb.c Tk.h ?_; refine Sb.c Tk.h ?_); (exact Sb.r)))⟩
              · skip
                refine GO.storeW rfl rfl (Tk.t (Tk.t (Tk.t Tk.h))) ⟨rfl, rfl⟩ (by simp [Value.oneCell']; assumption) ?_
                refine GO.nil ⟨rfl, .tuple #[], pt b16 (row [i64 (sideO sp.o : Nat), sp.r] 52) :: sp.P :: sp.Z :: q :: oth P ka :: F, rfl, ImpS.sb (by ((refine Sb.c (Tk.t Tk.h) ?_; refine Sb.c (Tk.t Tk.h) ?_; refine Sb.c (Tk.t Tk.h) ?_; refine Sb.c Tk.h ?_; refine Sb.c Tk.h ?_; refine Sb.c Tk.h ?_; refine Sb.c Tk.h ?_; refine Sb.c Tk.h ?_); (exact Sb.r))), ?_⟩
                refine GW.one (i := 16) (by kernel_rfl) rfl ?_
                refine GO.extract rfl rfl rfl ?_
                refine GO.nil ⟨rfl, _, _, rfl, ImpS.refl, ?_⟩
                refine GW.one (i := 19) (by kernel_rfl) rfl ?_
                refine GO.assign rfl rfl ?_
                refine GO.nil ⟨rfl, _, _, rfl, ImpS.refl, ?_⟩
                refine GW.nil ⟨sp, b16, hsp, by (refine SubE.c rfl rfl ?_; refine SubE.c rfl rfl ?_; refine SubE.c rfl rfl ?_; refine SubE.c rfl rfl ?_; refine SubE.c rfl rfl ?_; refine SubE.c rfl rfl ?_; refine SubE.c rfl rfl ?_; refine SubE.c rfl rfl ?_; refine SubE.c rfl rfl ?_; exact SubE.n), ImpS.sb (by ((refine Sb.c (Tk.t (Tk.t (Tk.t Tk.h))) ?_; refine Sb.c (Tk.t (Tk.t (Tk.t Tk.h))) ?_; refine Sb.c (Tk.t (Tk.t (Tk.t Tk.h))) ?_; refine Sb.c (Tk.t (Tk.t (Tk.t Tk.h))) ?_; refine Sb.c (Tk.t (Tk.t (Tk.t Tk.h))) ?_; refine Sb.c Tk.h ?_; refine Sb.c Tk.h ?_; refine Sb.c Tk.h ?_); (exact Sb.r)))⟩
            · skip
              refine GO.extract rfl rfl rfl ?_
              refine GO.nil ⟨rfl, _, _, rfl, ImpS.refl, ?_⟩
              refine GW.one (i := 15) (by kernel_rfl) rfl ?_
              refine GO.extract rfl rfl rfl ?_
              refine GO.nil ⟨rfl, _, _, rfl, ImpS.refl, ?_⟩
              refine GW.one (i := 18) (by kernel_rfl) rfl ?_
              refine GO.storeW rfl rfl (Tk.t (Tk.t (Tk.t Tk.h))) ⟨rfl, rfl⟩ (by simp [Value.oneCell']; assumption) ?_
              refine GO.nil ⟨rfl, .tuple #[], pt b16 (row [i64 (sideO sp.o : Nat), sp.r] 52) :: sp.P :: sp.Z :: q :: oth P ka :: F, rfl, ImpS.sb (by ((refine Sb.c (Tk.t Tk.h) ?_; refine Sb.c (Tk.t Tk.h) ?_; refine Sb.c (Tk.t Tk.h) ?_; refine Sb.c Tk.h ?_; refine Sb.c Tk.h ?_; refine Sb.c Tk.h ?_; refine Sb.c Tk.h ?_; refine Sb.c Tk.h ?_); (exact Sb.r))), ?_⟩
              refine GW.one (i := 19) (by kernel_rfl) rfl ?_
              refine GO.assign rfl rfl ?_
              refine GO.nil ⟨rfl, _, _, rfl, ImpS.refl, ?_⟩
              refine GW.nil ⟨sp, b16, hsp, by (refine SubE.c rfl rfl ?_; refine SubE.c rfl rfl ?_; refine SubE.c rfl rfl ?_; refine SubE.c rfl rfl ?_; refine SubE.c rfl rfl ?_; refine SubE.c rfl rfl ?_; refine SubE.c rfl rfl ?_; refine SubE.c rfl rfl ?_; refine SubE.c rfl rfl ?_; exact SubE.n), ImpS.sb (by ((refine Sb.c (Tk.t (Tk.t (Tk.t Tk.h))) ?_; refine Sb.c (Tk.t (Tk.t (Tk.t Tk.h))) ?_; refine Sb.c (Tk.t (Tk.t (Tk.t Tk.h))) ?_; refine Sb.c (Tk.t (Tk.t (Tk.t Tk.h))) ?_; refine Sb.c (Tk.t (Tk.t (Tk.t Tk.h))) ?_; refine Sb.c Tk.h ?_; refine Sb.c Tk.h ?_; refine Sb.c Tk.h ?_); (exact Sb.r)))⟩
        · skip
          refine GO.alloc rfl fun b16 => ?_
          refine GO.nil ⟨rfl, _, pt b16 (row [i64 0, .slice none 0 0] 52) :: sp.P :: sp.Z :: q :: oth P ka :: F, rfl, ImpS.sb (by ((refine Sb.c (Tk.t Tk.h) ?_; refine Sb.c (Tk.t Tk.h) ?_; refine Sb.c (Tk.t Tk.h) ?_; refine Sb.c Tk.h ?_; refine Sb.c Tk.h ?_; refine Sb.c Tk.h ?_; refine Sb.c Tk.h ?_; refine Sb.c Tk.h ?_); (exact Sb.r))), ?_⟩
          refine GW.one (i := 14) (by kernel_rfl) rfl ?_
          refine GO.move rfl rfl ?_
          refine GO.nil ⟨rfl, _, _, rfl, ImpS.refl, ?_⟩
          refine GW.two (i1 := 15) (i2 := 16) (by kernel_rfl) rfl rfl ?_ ?_
          · skip
            refine GO.extract rfl rfl rfl ?_
            refine GO.nil ⟨rfl, _, _, rfl, ImpS.refl, ?_⟩
            refine GW.two (i1 := 16) (i2 := 18) (by kernel_rfl) rfl rfl ?_ ?_
            · skip
              refine GO.extract rfl rfl rfl ?_
              refine GO.nil ⟨rfl, _, _, rfl, ImpS.refl, ?_⟩
              refine GW.one (i := 18) (by kernel_rfl) rfl ?_
              refine GO.storeW rfl rfl (Tk.t (Tk.t (Tk.t Tk.h))) ⟨rfl, rfl⟩ (by simp [Value.oneCell']; assumption) ?_
              refine GO.nil ⟨rfl, .tuple #[], pt b16 (row [i64 (sideO sp.o : Nat), sp.r] 52) :: sp.P :: sp.Z :: q :: oth P ka :: F, rfl, ImpS.sb (by ((refine Sb.c (Tk.t Tk.h) ?_; refine Sb.c (Tk.t Tk.h) ?_; refine Sb.c (Tk.t Tk.h) ?_; refine Sb.c Tk.h ?_; refine Sb.c Tk.h ?_; refine Sb.c Tk.h ?_; refine Sb.c Tk.h ?_; refine Sb.c Tk.h ?_); (exact Sb.r))), ?_⟩
              refine GW.one (i := 19) (by kernel_rfl) rfl ?_
              refine GO.assign rfl rfl ?_
              refine GO.nil ⟨rfl, _, _, rfl, ImpS.refl, ?_⟩
              refine GW.nil ⟨sp, b16, hsp, by (refine SubE.c rfl rfl ?_; refine SubE.c rfl rfl ?_; refine SubE.c rfl rfl ?_; refine SubE.c rfl rfl ?_; refine SubE.c rfl rfl ?_; refine SubE.c rfl rfl ?_; refine SubE.c rfl rfl ?_; refine SubE.c rfl rfl ?_; refine SubE.c rfl rfl ?_; exact SubE.n), ImpS.sb (by ((refine Sb.c (Tk.t (Tk.t (Tk.t Tk.h))) ?_; refine Sb.c (Tk.t (Tk.t (Tk.t Tk.h))) ?_; refine Sb.c (Tk.t (Tk.t (Tk.t Tk.h))) ?_; refine Sb.c (Tk.t (Tk.t (Tk.t Tk.h))) ?_; refine Sb.c (Tk.t (Tk.t (Tk.t Tk.h))) ?_; refine Sb.c Tk.h ?_; refine Sb.c Tk.h ?_; refine Sb.c Tk.h ?_); (exact Sb.r)))⟩
            · skip
              refine GO.storeW rfl rfl (Tk.t (Tk.t (Tk.t Tk.h))) ⟨rfl, rfl⟩ (by simp [Value.oneCell']; assumption) ?_
              refine GO.nil ⟨rfl, .tuple #[], pt b16 (row [i64 (sideO sp.o : Nat), sp.r] 52) :: sp.P :: sp.Z :: q :: oth P ka :: F, rfl, ImpS.sb (by ((refine Sb.c (Tk.t Tk.h) ?_; refine Sb.c (Tk.t Tk.h) ?_; refine Sb.c (Tk.t Tk.h) ?_; refine Sb.c Tk.h ?_; refine Sb.c Tk.h ?_; refine Sb.c Tk.h ?_; refine Sb.c Tk.h ?_; refine Sb.c Tk.h ?_); (exact Sb.r))), ?_⟩
              refine GW.one (i := 16) (by kernel_rfl) rfl ?_
              refine GO.extract rfl rfl rfl ?_
              refine GO.nil ⟨rfl, _, _, rfl, ImpS.refl, ?_⟩
              refine GW.one (i := 19) (by kernel_rfl) rfl ?_
              refine GO.assign rfl rfl ?_
              refine GO.nil ⟨rfl, _, _, rfl, ImpS.refl, ?_⟩
              refine GW.nil ⟨sp, b16, hsp, by (refine SubE.c rfl rfl ?_; refine SubE.c rfl rfl ?_; refine SubE.c rfl rfl ?_; refine SubE.c rfl rfl ?_; refine SubE.c rfl rfl ?_; refine SubE.c rfl rfl ?_; refine SubE.c rfl rfl ?_; refine SubE.c rfl rfl ?_; refine SubE.c rfl rfl ?_; exact SubE.n), ImpS.sb (by ((refine Sb.c (Tk.t (Tk.t (Tk.t Tk.h))) ?_; refine Sb.c (Tk.t (Tk.t (Tk.t Tk.h))) ?_; refine Sb.c (Tk.t (Tk.t (Tk.t Tk.h))) ?_; refine Sb.c (Tk.t (Tk.t (Tk.t Tk.h))) ?_; refine Sb.c (Tk.t (Tk.t (Tk.t Tk.h))) ?_; refine Sb.c Tk.h ?_; refine Sb.c Tk.h ?_; refine Sb.c Tk.h ?_); (exact Sb.r)))⟩
          · skip
            refine GO.extract rfl rfl rfl ?_
            refine GO.nil ⟨rfl, _, _, rfl, ImpS.refl, ?_⟩
            refine GW.one (i := 15) (by kernel_rfl) rfl ?_
            refine GO.extract rfl rfl rfl ?_
            refine GO.nil ⟨rfl, _, _, rfl, ImpS.refl, ?_⟩
            refine GW.one (i := 18) (by kernel_rfl) rfl ?_
            refine GO.storeW rfl rfl (Tk.t (Tk.t (Tk.t Tk.h))) ⟨rfl, rfl⟩ (by simp [Value.oneCell']; assumption) ?_
            refine GO.nil ⟨rfl, .tuple #[], pt b16 (row [i64 (sideO sp.o : Nat), sp.r] 52) :: sp.P :: sp.Z :: q :: oth P ka :: F, rfl, ImpS.sb (by ((refine Sb.c (Tk.t Tk.h) ?_; refine Sb.c (Tk.t Tk.h) ?_; refine Sb.c (Tk.t Tk.h) ?_; refine Sb.c Tk.h ?_; refine Sb.c Tk.h ?_; refine Sb.c Tk.h ?_; refine Sb.c Tk.h ?_; refine Sb.c Tk.h ?_); (exact Sb.r))), ?_⟩
            refine GW.one (i := 19) (by kernel_rfl) rfl ?_
            refine GO.assign rfl rfl ?_
            refine GO.nil ⟨rfl, _, _, rfl, ImpS.refl, ?_⟩
            refine GW.nil ⟨sp, b16, hsp, by (refine SubE.c rfl rfl ?_; refine SubE.c rfl rfl ?_; refine SubE.c rfl rfl ?_; refine SubE.c rfl rfl ?_; refine SubE.c rfl rfl ?_; refine SubE.c rfl rfl ?_; refine SubE.c rfl rfl ?_; refine SubE.c rfl rfl ?_; refine SubE.c rfl rfl ?_; exact SubE.n), ImpS.sb (by ((refine Sb.c (Tk.t (Tk.t (Tk.t Tk.h))) ?_; refine Sb.c (Tk.t (Tk.t (Tk.t Tk.h))) ?_; refine Sb.c (Tk.t (Tk.t (Tk.t Tk.h))) ?_; refine Sb.c (Tk.t (Tk.t (Tk.t Tk.h))) ?_; refine Sb.c (Tk.t (Tk.t (Tk.t Tk.h))) ?_; refine Sb.c Tk.h ?_; refine Sb.c Tk.h ?_; refine Sb.c Tk.h ?_); (exact Sb.r)))⟩
      · skip
        refine GO.alloc rfl fun b16 => ?_
        refine GO.nil ⟨rfl, _, pt b16 (row [i64 0, .slice none 0 0] 52) :: P ka :: oth P ka :: Z :: q :: F, rfl, ImpS.sb (by ((refine Sb.c (Tk.t Tk.h) ?_; refine Sb.c (Tk.t Tk.h) ?_; refine Sb.c (Tk.t Tk.h) ?_; refine Sb.c Tk.h ?_; refine Sb.c Tk.h ?_; refine Sb.c Tk.h ?_; refine Sb.c Tk.h ?_; refine Sb.c Tk.h ?_); (exact Sb.r))), ?_⟩
        refine GW.one (i := 13) (by kernel_rfl) rfl ?_
        refine GO.call5 rfl rfl rfl rfl rfl rfl (hD) (Tks.c (Tk.t (Tk.t (Tk.t (Tk.t Tk.h)))) (Tks.c (Tk.t (Tk.t (Tk.t (Tk.t (Tk.t Tk.h))))) (Tks.c (Tk.t (Tk.t (Tk.t (Tk.t (Tk.t Tk.h))))) Tks.n))) ?_
        rintro _ _ ⟨sp, hsp, rfl, rfl⟩
        have hone9 := hsp.one
        refine GO.nil ⟨rfl, _, pt b16 (row [i64 0, .slice none 0 0] 52) :: sp.P :: sp.Z :: q :: oth P ka :: F, rfl, ImpS.sb (by ((refine Sb.c (Tk.t (Tk.t (Tk.t Tk.h))) ?_; refine Sb.c (Tk.t (Tk.t (Tk.t Tk.h))) ?_; refine Sb.c (Tk.t (Tk.t (Tk.t Tk.h))) ?_; refine Sb.c (Tk.t (Tk.t (Tk.t Tk.h))) ?_; refine Sb.c Tk.h ?_; refine Sb.c Tk.h ?_; refine Sb.c Tk.h ?_; refine Sb.c Tk.h ?_); (exact Sb.r))), ?_⟩
        refine GW.one (i := 14) (by kernel_rfl) rfl ?_
        refine GO.move rfl rfl ?_
        refine GO.nil ⟨rfl, _, _, rfl, ImpS.refl, ?_⟩
        refine GW.two (i1 := 15) (i2 := 16) (by kernel_rfl) rfl rfl ?_ ?_
        · skip
          refine GO.extract rfl rfl rfl ?_
          refine GO.nil ⟨rfl, _, _, rfl, ImpS.refl, ?_⟩
          refine GW.two (i1 := 16) (i2 := 18) (by kernel_rfl) rfl rfl ?_ ?_
          · skip
            refine GO.extract rfl rfl rfl ?_
            refine GO.nil ⟨rfl, _, _, rfl, ImpS.refl, ?_⟩
            refine GW.one (i := 18) (by kernel_rfl) rfl ?_
            refine GO.storeW rfl rfl (Tk.t (Tk.t (Tk.t Tk.h))) ⟨rfl, rfl⟩ (by simp [Value.oneCell']; assumption) ?_
            refine GO.nil ⟨rfl, .tuple #[], pt b16 (row [i64 (sideO sp.o : Nat), sp.r] 52) :: sp.P :: sp.Z :: q :: oth P ka :: F, rfl, ImpS.sb (by ((refine Sb.c (Tk.t Tk.h) ?_; refine Sb.c (Tk.t Tk.h) ?_; refine Sb.c (Tk.t Tk.h) ?_; refine Sb.c Tk.h ?_; refine Sb.c Tk.h ?_; refine Sb.c Tk.h ?_; refine Sb.c Tk.h ?_; refine Sb.c Tk.h ?_); (exact Sb.r))), ?_⟩
            refine GW.one (i := 19) (by kernel_rfl) rfl ?_
            refine GO.assign rfl rfl ?_
            refine GO.nil ⟨rfl, _, _, rfl, ImpS.refl, ?_⟩
            refine GW.nil ⟨sp, b16, hsp, by (refine SubE.c rfl rfl ?_; refine SubE.c rfl rfl ?_; refine SubE.c rfl rfl ?_; refine SubE.c rfl rfl ?_; refine SubE.c rfl rfl ?_; refine SubE.c rfl rfl ?_; refine SubE.c rfl rfl ?_; refine SubE.c rfl rfl ?_; refine SubE.c rfl rfl ?_; exact SubE.n), ImpS.sb (by ((refine Sb.c (Tk.t (Tk.t (Tk.t Tk.h))) ?_; refine Sb.c (Tk.t (Tk.t (Tk.t Tk.h))) ?_; refine Sb.c (Tk.t (Tk.t (Tk.t Tk.h))) ?_; refine Sb.c (Tk.t (Tk.t (Tk.t Tk.h))) ?_; refine Sb.c (Tk.t (Tk.t (Tk.t Tk.h))) ?_; refine Sb.c Tk.h ?_; refine Sb.c Tk.h ?_; refine Sb.c Tk.h ?_); (exact Sb.r)))⟩
          · skip
            refine GO.storeW rfl rfl (Tk.t (Tk.t (Tk.t Tk.h))) ⟨rfl, rfl⟩ (by simp [Value.oneCell']; assumption) ?_
            refine GO.nil ⟨rfl, .tuple #[], pt b16 (row [i64 (sideO sp.o : Nat), sp.r] 52) :: sp.P :: sp.Z :: q :: oth P ka :: F, rfl, ImpS.sb (by ((refine Sb.c (Tk.t Tk.h) ?_; refine Sb.c (Tk.t Tk.h) ?_; refine Sb.c (Tk.t Tk.h) ?_; refine Sb.c Tk.h ?_; refine Sb.c Tk.h ?_; refine Sb.c Tk.h ?_; refine Sb.c Tk.h ?_; refine Sb.c Tk.h ?_); (exact Sb.r))), ?_⟩
            refine GW.one (i := 16) (by kernel_rfl) rfl ?_
            refine GO.extract rfl rfl rfl ?_
            refine GO.nil ⟨rfl, _, _, rfl, ImpS.refl, ?_⟩
            refine GW.one (i := 19) (by kernel_rfl) rfl ?_
            refine GO.assign rfl rfl ?_
            refine GO.nil ⟨rfl, _, _, rfl, ImpS.refl, ?_⟩
            refine GW.nil ⟨sp, b16, hsp, by (refine SubE.c rfl rfl ?_; refine SubE.c rfl rfl ?_; refine SubE.c rfl rfl ?_; refine SubE.c rfl rfl ?_; refine SubE.c rfl rfl ?_; refine SubE.c rfl rfl ?_; refine SubE.c rfl rfl ?_; refine SubE.c rfl rfl ?_; refine SubE.c rfl rfl ?_; exact SubE.n), ImpS.sb (by ((refine Sb.c (Tk.t (Tk.t (Tk.t Tk.h))) ?_; refine Sb.c (Tk.t (Tk.t (Tk.t Tk.h))) ?_; refine Sb.c (Tk.t (Tk.t (Tk.t Tk.h))) ?_; refine Sb.c (Tk.t (Tk.t (Tk.t Tk.h))) ?_; refine Sb.c (Tk.t (Tk.t (Tk.t Tk.h))) ?_; refine Sb.c Tk.h ?_; refine Sb.c Tk.h ?_; refine Sb.c Tk.h ?_); (exact Sb.r)))⟩
        · skip
          refine GO.extract rfl rfl rfl ?_
          refine GO.nil ⟨rfl, _, _, rfl, ImpS.refl, ?_⟩
          refine GW.one (i := 15) (by kernel_rfl) rfl ?_
          refine GO.extract rfl rfl rfl ?_
          refine GO.nil ⟨rfl, _, _, rfl, ImpS.refl, ?_⟩
          refine GW.one (i := 18) (by kernel_rfl) rfl ?_
          refine GO.storeW rfl rfl (Tk.t (Tk.t (Tk.t Tk.h))) ⟨rfl, rfl⟩ (by simp [Value.oneCell']; assumption) ?_
          refine GO.nil ⟨rfl, .tuple #[], pt b16 (row [i64 (sideO sp.o : Nat), sp.r] 52) :: sp.P :: sp.Z :: q :: oth P ka :: F, rfl, ImpS.sb (by ((refine Sb.c (Tk.t Tk.h) ?_; refine Sb.c (Tk.t Tk.h) ?_; refine Sb.c (Tk.t Tk.h) ?_; refine Sb.c Tk.h ?_; refine Sb.c Tk.h ?_; refine Sb.c Tk.h ?_; refine Sb.c Tk.h ?_; refine Sb.c Tk.h ?_); (exact Sb.r))), ?_⟩
          refine GW.one (i := 19) (by kernel_rfl) rfl ?_
          refine GO.assign rfl rfl ?_
          refine GO.nil ⟨rfl, _, _, rfl, ImpS.refl, ?_⟩
          refine GW.nil ⟨sp, b16, hsp, by (refine SubE.c rfl rfl ?_; refine SubE.c rfl rfl ?_; refine SubE.c rfl rfl ?_; refine SubE.c rfl rfl ?_; refine SubE.c rfl rfl ?_; refine SubE.c rfl rfl ?_; refine SubE.c rfl rfl ?_; refine SubE.c rfl rfl ?_; refine SubE.c rfl rfl ?_; exact SubE.n), ImpS.sb (by ((refine Sb.c (Tk.t (Tk.t (Tk.t Tk.h))) ?_; refine Sb.c (Tk.t (Tk.t (Tk.t Tk.h))) ?_; refine Sb.c (Tk.t (Tk.t (Tk.t Tk.h))) ?_; refine Sb.c (Tk.t (Tk.t (Tk.t Tk.h))) ?_; refine Sb.c (Tk.t (Tk.t (Tk.t Tk.h))) ?_; refine Sb.c Tk.h ?_; refine Sb.c Tk.h ?_; refine Sb.c Tk.h ?_); (exact Sb.r)))⟩
    · rintro L' H' ⟨sp, b16, hsp, hL', hH'⟩
      have hone9 := hsp.one
      refine GO.keep hH' (GO.sub hL' Sb.r ?_)
      cases hk : decide ((ka : Int) = (kb : Int)) with
      | true =>
        (refine GO.nil ?_; refine kthen_n ?_; refine G.seq ?_; refine G.seq ?_; refine G.region ?_; refine GO.move rfl rfl ?_; refine GO.not rfl rfl ?_; refine GO.nil ?_; refine kthen_n ?_; refine G.condF rfl rfl ?_; refine G.skip ?_; refine kthen_n ?_; refine G.seq ?_; refine G.seq ?_; refine G.region ?_; refine GO.move rfl rfl ?_; refine GO.move rfl rfl ?_; refine GO.eqi rfl rfl rfl ?_; refine GO.move rfl rfl ?_; refine GO.gT rfl rfl (by assumption) ?_; refine GO.fieldAddr rfl rfl ?_; refine GO.gT rfl rfl (by assumption) ?_; refine GO.load1 rfl rfl rfl (Tk.t (Tk.t (Tk.t (Tk.t (Tk.t (Tk.t (Tk.t Tk.h))))))) rfl ?_; refine GO.gT rfl rfl (by assumption) ?_; refine GO.eqi rfl rfl rfl ?_; refine GO.pickTa rfl rfl (by assumption) rfl ?_; refine GO.nil ?_; refine kthen_n ?_; refine G.condF rfl (by assumption) ?_; refine G.skip ?_; refine kthen_n ?_; refine G.region ?_; refine GO.move rfl rfl ?_; refine GO.loadW rfl rfl rfl Tk.h rfl ?_; refine GO.idxA rfl rfl rfl ⟨rfl, by omega⟩ ?_)
        refine GO.storeG (n := 2) (vs := [i64 (sideO sp.o : Nat), sp.r]) rfl rfl rfl rfl (Tk.t (Tk.t (Tk.t (Tk.t (Tk.t (Tk.t Tk.h)))))) (by rw [rarr_len]; omega) (by simp [Value.oneCell']; assumption) ?_
        rw [show (rarr o r).take (0 + ka * 2) ++ [i64 (sideO sp.o : Nat), sp.r] ++ (rarr o r).drop (0 + ka * 2 + 2) = rarr (put4 o ka sp.o) (put4 r ka sp.r) by rw [Nat.zero_add]; exact rarr_put o r _ _ ha]
        (refine GO.nil ?_; refine kblock_n ?_; refine kblock_n ?_; refine kthen_n ?_; refine G.region ?_; refine GO.move rfl rfl ?_; refine GO.addi rfl rfl rfl (by omega) ?_; refine GO.assign rfl rfl ?_; refine GO.nil ?_; refine kthen_n ?_)
        refine ⟨⟨n + 1, put4 P ka sp.P, sp.Z, put4 m ka (m ka), put4 o ka sp.o, put4 r ka sp.r⟩, ⟨by dsimp only; omega, FourOK.put (s := ⟨n, P, Z, m, o, r⟩) hok hsp.sup ka (n + 1) ⟨hsp.mat, hsp.wf, hsp.ref, hsp.one⟩⟩, by dsimp only; omega, ?_, ?_⟩
        · (refine SubE.c rfl rfl ?_; refine SubE.c rfl rfl ?_; refine SubE.c rfl rfl ?_; refine SubE.c rfl rfl ?_; exact SubE.n)
        · dsimp only
          rw [put4_same m ka]
          refine ImpS.trans (ImpS.sb (M := sp.P :: oth P ka :: sp.Z :: pt b3 (row (marr m) 50) :: pt b4 (row (rarr (put4 o ka sp.o) (put4 r ka sp.r)) 53) :: q :: F) ?_) (ImpS.fourSet P sp.P ha _)
          ((refine Sb.c (Tk.t (Tk.t Tk.h)) ?_; refine Sb.c (Tk.t (Tk.t (Tk.t (Tk.t Tk.h)))) ?_; refine Sb.c (Tk.t (Tk.t Tk.h)) ?_; refine Sb.c (Tk.t (Tk.t (Tk.t Tk.h))) ?_; refine Sb.c Tk.h ?_; refine Sb.c (Tk.t Tk.h) ?_); (refine Sb.s ?_; refine Sb.s ?_; exact Sb.r))
      | false =>
        (refine GO.nil ?_; refine kthen_n ?_; refine G.seq ?_; refine G.seq ?_; refine G.region ?_; refine GO.move rfl rfl ?_; refine GO.not rfl rfl ?_; refine GO.nil ?_; refine kthen_n ?_; refine G.condF rfl rfl ?_; refine G.skip ?_; refine kthen_n ?_; refine G.seq ?_; refine G.seq ?_; refine G.region ?_; refine GO.move rfl rfl ?_; refine GO.move rfl rfl ?_; refine GO.eqi rfl rfl rfl ?_; refine GO.move rfl rfl ?_; refine GO.gF rfl rfl rfl (by assumption) ?_; refine GO.gF rfl rfl rfl (by assumption) ?_; refine GO.gF rfl rfl rfl (by assumption) ?_; refine GO.pickFa rfl rfl (by assumption) rfl ?_; refine GO.nil ?_; refine kthen_n ?_; refine G.condF rfl rfl ?_; refine G.skip ?_; refine kthen_n ?_; refine G.region ?_; refine GO.move rfl rfl ?_; refine GO.loadW rfl rfl rfl Tk.h rfl ?_; refine GO.idxA rfl rfl rfl ⟨rfl, by omega⟩ ?_)
        refine GO.storeG (n := 2) (vs := [i64 (sideO sp.o : Nat), sp.r]) rfl rfl rfl rfl (Tk.t (Tk.t (Tk.t (Tk.t (Tk.t (Tk.t Tk.h)))))) (by rw [rarr_len]; omega) (by simp [Value.oneCell']; assumption) ?_
        rw [show (rarr o r).take (0 + ka * 2) ++ [i64 (sideO sp.o : Nat), sp.r] ++ (rarr o r).drop (0 + ka * 2 + 2) = rarr (put4 o ka sp.o) (put4 r ka sp.r) by rw [Nat.zero_add]; exact rarr_put o r _ _ ha]
        (refine GO.nil ?_; refine kblock_n ?_; refine kblock_n ?_; refine kthen_n ?_; refine G.region ?_; refine GO.move rfl rfl ?_; refine GO.addi rfl rfl rfl (by omega) ?_; refine GO.assign rfl rfl ?_; refine GO.nil ?_; refine kthen_n ?_)
        refine ⟨⟨n + 1, put4 P ka sp.P, sp.Z, put4 m ka (m ka), put4 o ka sp.o, put4 r ka sp.r⟩, ⟨by dsimp only; omega, FourOK.put (s := ⟨n, P, Z, m, o, r⟩) hok hsp.sup ka (n + 1) ⟨hsp.mat, hsp.wf, hsp.ref, hsp.one⟩⟩, by dsimp only; omega, ?_, ?_⟩
        · (refine SubE.c rfl rfl ?_; refine SubE.c rfl rfl ?_; refine SubE.c rfl rfl ?_; refine SubE.c rfl rfl ?_; exact SubE.n)
        · dsimp only
          rw [put4_same m ka]
          refine ImpS.trans (ImpS.sb (M := sp.P :: oth P ka :: sp.Z :: pt b3 (row (marr m) 50) :: pt b4 (row (rarr (put4 o ka sp.o) (put4 r ka sp.r)) 53) :: q :: F) ?_) (ImpS.fourSet P sp.P ha _)
          ((refine Sb.c (Tk.t (Tk.t Tk.h)) ?_; refine Sb.c (Tk.t (Tk.t (Tk.t (Tk.t Tk.h)))) ?_; refine Sb.c (Tk.t (Tk.t Tk.h)) ?_; refine Sb.c (Tk.t (Tk.t (Tk.t Tk.h))) ?_; refine Sb.c Tk.h ?_; refine Sb.c (Tk.t Tk.h) ?_); (refine Sb.s ?_; refine Sb.s ?_; exact Sb.r))
  · (refine G.exit ?_; refine kthen_x ?_; refine kthen_x ?_; refine kblock_x ?_; refine kthen_n ?_; refine G.seq ?_; refine G.seq ?_; refine G.region ?_; refine GO.assign rfl rfl ?_; refine GO.nil ?_; refine kthen_n ?_; refine G.block ?_)
    refine G.loop (fun k : Nat => [(3, ptrV b3), (4, ptrV b4), (18, i64 (k : Nat))])
      (fun _ => fourP P :: Z :: pt b3 (row (marr m) 50) :: pt b4 (row (rarr o r) 53) :: q :: F)
      (fun k => k ≤ 4) (fun k => 4 - k) 0 (Nat.zero_le _) ?_ ?_ ?_
    · (refine SubE.c rfl rfl ?_; refine SubE.c rfl rfl ?_; refine SubE.c rfl rfl ?_; exact SubE.n)
    · ((refine Sb.c Tk.h ?_; refine Sb.c Tk.h ?_; refine Sb.c Tk.h ?_; refine Sb.c Tk.h ?_; refine Sb.c Tk.h ?_); (exact Sb.r))
    rintro k hk
    (refine G.seq ?_; refine G.seq ?_; refine G.region ?_; refine GO.move rfl rfl ?_; refine GO.lti rfl rfl rfl ?_; refine GO.nil ?_; refine kthen_n ?_)
    refine G.condD rfl (fun hlt2 => ?_) (fun hge2 => ?_)
    · have hk4 : k < 4 := by omega
      have r1 : Rd (pt b3 (row (marr m) 50)) ⟨b3, 0 + k * 1, none⟩ (m k) := Rd.row (by rw [Nat.zero_add, Nat.mul_one]; exact marr_get m hk4)
      have r2 : ∀ j u, [i64 (sideO (o k) : Nat), r k][j]? = some u → Rd (pt b4 (row (rarr o r) 53)) ⟨b4, 0 + k * 2 + j, none⟩ u := fun j u hj => by
        obtain ⟨g1, g2⟩ := rarr_get o r hk4
        refine Rd.row ?_
        rw [Nat.zero_add]
        match j, hj with
        | 0, hj => rw [Nat.add_zero, g1]; exact hj
        | 1, hj => rw [g2]; exact hj
      have hs := osame_spec (P k) Z q hq (m k) (refV (sideO (o k)) (r k)) (o k) (hm k).mat.has (hm k).ref (hm k).wf.wf (cells_fit _)
      refine G.impS (ImpS.fourOut P hk4 _) ?_
      (refine G.skip ?_; refine kthen_n ?_; refine G.seq ?_; refine G.block ?_; refine G.seq ?_)
      refine G.draw 7 (by kernel_rfl) ?_
      ((apply GQ.step; focus (intro Z; refine GO.move rfl rfl ?_; exact KQ.z)); (apply GQ.step; focus (intro Z; refine GO.idxA rfl rfl rfl ⟨rfl, by omega⟩ ?_; exact KQ.z)); (apply GQ.step; focus (intro Z; refine GO.loadQ rfl rfl rfl (Tk.t (Tk.t (Tk.t Tk.h))) (by assumption) ?_; exact KQ.z)); (apply GQ.step; focus (intro Z; refine GO.move rfl rfl ?_; exact KQ.z)); (apply GQ.step; focus (intro Z; refine GO.idxA rfl rfl rfl ⟨rfl, by omega⟩ ?_; exact KQ.z)))
      apply GQ.step; focus (intro Z; refine GO.loadM (vs := [i64 (sideO (o k) : Nat), r k]) rfl rfl rfl (Tk.t (Tk.t (Tk.t (Tk.t Tk.h)))) rfl r2 ?_; exact KQ.z)
      apply GQ.step; focus (intro Z; refine GO.call2 rfl rfl rfl (hs) (Tks.c Tk.h (Tks.c (Tk.t Tk.h) (Tks.c (Tk.t (Tk.t (Tk.t Tk.h))) Tks.n))) ?_; rintro _ _ ⟨rfl, rfl⟩; refine GO.nil (KQ.s ?_); ((refine Sb.c Tk.h ?_; refine Sb.c (Tk.t (Tk.t Tk.h)) ?_; refine Sb.c Tk.h ?_; refine Sb.c (Tk.t Tk.h) ?_; refine Sb.c (Tk.t Tk.h) ?_; refine Sb.c Tk.h ?_); (exact Sb.r)))
      (refine GQ.nil ?_)
      refine GO.impS (ImpS.fourIn P hk4 _) ?_
      (refine GO.assign rfl rfl ?_; refine GO.nil ?_; refine kthen_n ?_; refine G.seq ?_; refine G.region ?_; refine GO.move rfl rfl ?_; refine GO.not rfl rfl ?_; refine GO.nil ?_; refine kthen_n ?_; refine G.condF rfl rfl ?_; refine G.skip ?_; refine kblock_n ?_; refine kthen_n ?_; refine G.region ?_; refine GO.move rfl rfl ?_; refine GO.addi rfl rfl rfl (by omega) ?_; refine GO.assign rfl rfl ?_; refine GO.nil ?_; refine kthen_n ?_)
      refine ⟨k + 1, by omega, by omega, ?_, ?_⟩
      · (refine SubE.c rfl rfl ?_; refine SubE.c rfl rfl ?_; refine SubE.c rfl rfl ?_; exact SubE.n)
      · ((refine Sb.c Tk.h ?_; refine Sb.c Tk.h ?_; refine Sb.c Tk.h ?_; refine Sb.c Tk.h ?_; refine Sb.c Tk.h ?_); (exact Sb.r))
    · (refine G.exit ?_; refine kthen_x ?_; refine kthen_x ?_; refine kblock_x ?_; refine kthen_n ?_; refine G.seq ?_; refine G.region ?_)
      refine GO.call0 rfl (mawake_spec) Tks.n ?_
      rintro _ _ ⟨rfl, rfl⟩
      (refine GO.assign rfl rfl ?_; refine GO.nil ?_; refine kthen_n ?_; refine G.ret ?_)
      refine KF2.r1 rfl (RV.t rfl) ⟨rfl, rfl⟩ (ImpS.sb ?_)
      ((refine Sb.c (Tk.t (Tk.t (Tk.t (Tk.t Tk.h)))) ?_); (refine Sb.s ?_; refine Sb.s ?_; refine Sb.s ?_; refine Sb.s ?_; exact Sb.r))
end Go.Proofs.YtfoahdfflchidaaDoor
namespace Go.Proofs.YtfoahdfflchidaaDoor
open Go Go.ChangeShapes Go.WideShapes Go.ChangeAt Go.RowKit Go.Deep
theorem weights_mem_all {H : Type} {P : Program} {e : TypeId} : ∀ {ds : List (DataW H)} {d : DataW H}, d ∈ ds → ∀ n ∈ d.weights P e, n ∈ DataW.weightsAll P e ds
  | [], _, h, _, _ => by simp at h
  | d0 :: r, d, h, n, hn => by
    simp only [DataW.weightsAll, List.mem_append]
    rcases List.mem_cons.1 h with rfl | h
    · exact .inl hn
    · exact .inr (weights_mem_all h n hn)
section
variable {H : Type} {enc : TypeId × Value → H} {w : World} {base : Nat} {spare : Nat → Bool} {held : Bool}
theorem open_cellsQ {fuel : Nat} {v : Value} {x : DataW H × List MemPlace} (h : DataW.trod enc Tryd.prog w base spare held fuel 22 [v] = some x) (hz : ∀ n ∈ x.1.weights Tryd.prog 22, n ≤ reachBytes) :
    ∃ cs : List (Int × Int), SlC (init w) v cs ∧ cs.length * 16 ≤ 140737488355328 := by
  obtain ⟨cs, ⟨a, cap, rfl, h1, h2⟩, _⟩ := open_cells h
  refine ⟨cs, ⟨a, cap, rfl, ?_, h2⟩, cells_sized (d := x.1) (p := x.2) h fun es sp he => hz _ (by rw [he]; simp [DataW.weights, Tryd.underlying22])⟩
  rcases open_slice_fields Tryd.underlying22 Tryd.underlying34 (by kernel_rfl) (by kernel_rfl) h with ⟨hc, _⟩ | ⟨a', len, cap', m, D, Pl, hc, _, hl, _⟩
  · simp only [List.cons.injEq, and_true] at hc
    injection hc with _ e1 e2
    omega
  · simp only [List.cons.injEq, and_true] at hc
    injection hc with _ e1 e2
    omega
theorem open_opsQ {fuel : Nat} {v : Value} {x : DataW H × List MemPlace} (h : DataW.trod enc Tryd.prog w base spare held fuel 49 [v] = some x) (hz : ∀ n ∈ x.1.weights Tryd.prog 49, n ≤ reachBytes) :
    ∃ (l : List OpQ) (cs : Nat → List Cl), OpsQR (init w) v l cs := by
  rcases open_slice_fields Tryd.underlying49 Tryd.underlying55 (by kernel_rfl) (by kernel_rfl) h with ⟨hc, _⟩ | ⟨a, len, cap, m, D, Pl, hc, _, hl, hm, hmm, hx, hi⟩
  · simp only [List.cons.injEq, and_true] at hc
    subst hc
    exact ⟨[], fun _ => [], ⟨⟨none, 0, rfl, rfl, fun h => by simp at h⟩, fun k p hk => by simp at hk⟩⟩
  · simp only [List.cons.injEq, and_true] at hc
    subst hc
    have hlm : len ≤ m := by rw [hmm]; split <;> omega
    subst hx
    have key : ∀ i, ∃ y : OpQ × List Cl, i < len → (∀ j u, y.1.vs[j]? = some u → w.cell? (a.add (i * 6 + j)) = some u) ∧ SlC (init w) y.1.u y.2 ∧ y.2.length * 16 ≤ 140737488355328 := by
      intro i
      by_cases hil : i < len
      · obtain ⟨ys, n, hD, _, hyl, hf⟩ := hi i (by omega)
        obtain ⟨u0, y0, a0, _, t0⟩ := hf 0 _ rfl
        obtain ⟨u1, y1, a1, _, t1⟩ := hf 1 _ rfl
        obtain ⟨u2, y2, a2, _, t2⟩ := hf 2 _ rfl
        obtain ⟨u3, y3, a3, _, t3⟩ := hf 3 _ rfl
        obtain ⟨u4, y4, a4, _, t4⟩ := hf 4 _ rfl
        obtain ⟨u5, y5, a5, g5, t5⟩ := hf 5 _ rfl
        obtain ⟨k0, e0, _⟩ := DataW.trod_int Tryd.underlying3 t0
        obtain ⟨k1, e1, _⟩ := DataW.trod_int Tryd.underlying3 t1
        obtain ⟨k2, e2, _⟩ := DataW.trod_int Tryd.underlying3 t2
        obtain ⟨k3, e3, _⟩ := DataW.trod_int Tryd.underlying3 t3
        obtain ⟨k4, e4, _⟩ := DataW.trod_int Tryd.underlying3 t4
        simp only [List.cons.injEq, and_true] at e0 e1 e2 e3 e4
        subst e0 e1 e2 e3 e4
        obtain ⟨l, hl5, hz5⟩ := open_cellsQ t5 (fun n hn => hz n (by
          have h1 : n ∈ (D i).weights Tryd.prog 55 := by
            rw [hD]
            simp only [DataW.weights, Tryd.underlying55]
            exact DataW.weights_mem_each (j := 5) rfl (by rw [List.getElem?_map, g5]; rfl) n hn
          have h2 : n ∈ DataW.weightsAll Tryd.prog 55 ((List.range len).map D) := weights_mem_all (List.mem_map.2 ⟨i, by simpa using hil, rfl⟩) n h1
          simp only [DataW.weights, Tryd.underlying49]
          exact List.mem_cons_of_mem _ (List.mem_append.2 (.inl h2))))
        refine ⟨(⟨k0, k1, k2, k3, k4, u5⟩, l), fun _ => ⟨fun j u hj => ?_, hl5, hz5⟩⟩
        match j, hj with
        | 0, hj => obtain rfl := Option.some.inj hj; exact a0
        | 1, hj => obtain rfl := Option.some.inj hj; exact a1
        | 2, hj => obtain rfl := Option.some.inj hj; exact a2
        | 3, hj => obtain rfl := Option.some.inj hj; exact a3
        | 4, hj => obtain rfl := Option.some.inj hj; exact a4
        | 5, hj => obtain rfl := Option.some.inj hj; exact a5
      · exact ⟨(⟨0, 0, 0, 0, 0, .slice none 0 0⟩, []), fun h => absurd h hil⟩
    obtain ⟨f, hf⟩ := Classical.axiomOfChoice key
    have hlen : ((List.range len).map fun i => (f i).1).length = len := by simp
    have hget : ∀ k, k < len → ((List.range len).map fun i => (f i).1)[k]? = some (f k).1 := fun k hk => by rw [List.getElem?_map, List.getElem?_range hk]; rfl
    refine ⟨(List.range len).map fun i => (f i).1, fun i => (f i).2, ⟨⟨some a, cap, by rw [hlen], opsQ_len _, fun hpos => ?_⟩, fun k p hk => ?_⟩⟩
    · rw [hlen] at hpos
      obtain ⟨b, o, sp⟩ := a
      have hsp : sp = none := by
        have := (hf 0 hpos).1 0 _ rfl
        simpa [Addr.add] using World.cell?_spot this
      subst hsp
      refine ⟨b, o, rfl, fun j u hj => ?_⟩
      have hjl : j < len * 6 := by
        have := (List.getElem?_eq_some_iff.1 hj).1
        rw [opsQ_len, hlen] at this; exact this
      have hg := opsQ_get (hget (j / 6) (by omega)) (Nat.mod_lt j (by decide))
      have hh := (hf (j / 6) (by omega)).1 (j % 6)
      rw [show j / 6 * 6 + j % 6 = j by omega] at hg hh
      rw [hg] at hj
      have hc := hh u hj
      rw [add_plain] at hc
      exact Rd.init hc
    · have hkl : k < len := by
        have := (List.getElem?_eq_some_iff.1 hk).1
        rw [hlen] at this; exact this
      rw [hget k hkl] at hk
      injection hk with hk
      subst hk
      exact (hf k hkl).2
end
end Go.Proofs.YtfoahdfflchidaaDoor
