/-
  The reference's Same: the same productions are the same.
-/
import Derived.Test.YtcemehocbemfmaaL2
namespace Go.Proofs.Ytcemehocbemfmaa
open Go
attribute [local irreducible] G GO GR GT Fn FnV pt init exs pur sat own ImpS
theorem EqR.symT {b : Bool} {m : Int} : EqR Try.prog 10000 63 (.agg [.bool b, i64 m].toArray) (.agg [.bool b, i64 m].toArray) true :=
  EqR.struct (P := Try.prog) (d := 9999) (t := 63) (l := [.bool b, i64 m]) (l' := [.bool b, i64 m])
    ⟨.bool b, .bool b, true, true, by decide, PartR.one rfl rfl, PartR.one rfl rfl, by have := (EqR.bool : EqR Try.prog 9999 4 (.bool b) (.bool b) _); rw [beq_self_eq_true] at this; exact this,
      ⟨i64 m, i64 m, true, true, by decide, PartR.one rfl rfl, PartR.one rfl rfl, by have := (EqR.int : EqR Try.prog 9999 3 (i64 m) (i64 m) _); rw [decide_eq_true rfl] at this; exact this, rfl, rfl⟩, rfl⟩
theorem GO.neqAF {P : Program} {c : Cx} {A : Array Oper} {rest : List Oper} {K : Kont} {L : Env} {H : List HP} {t : TypeId} {p : String} {e : Array Edge} {d : Nat} {ty ty' : TypeId} {x y : Operand} {l l' : Array Value} [hg : EG P ty] (h : EqR P 10000 ty (.agg l) (.agg l') true) (hN : Nat.blt d c.N = true) (hx : evl L x = some (.agg l)) (hy : evl L y = some (.agg l'))
    (k : GO P c A rest K ((d, .bool false) :: L) H) : GO P c A (⟨some d, .binOp .neq ty x y ty', t, p, e, none⟩ :: rest) K L H := GO.neqA h hN hx hy k
set_option maxHeartbeats 2000000 in
theorem sameBody_spec (qa qb : HP) (va vb : Value) (ss : List SymD) (ha : SymsR qa va ss) (hb : SymsR qb vb ss) (hn : ss.length ≤ 9223372036854775806) : Fn Try.prog 40 #[va, vb] [qa, qb] (fun r Q => r = .bool true ∧ Q = [qa, qb]) := by
  obtain ⟨a, cap, rfl⟩ := ha.form
  obtain ⟨a2, cap2, rfl⟩ := hb.form
  refine Fn.mk Try.func40 rfl rfl fun w0 F => ?_
  (refine G.seq ?_; refine G.region ?_; refine GO.assign rfl rfl ?_; refine GO.nil ?_; refine kthen_n ?_; refine G.seq ?_; refine G.seq ?_; refine G.region ?_; refine GO.move rfl rfl ?_; refine GO.lenS rfl rfl ?_; refine GO.move rfl rfl ?_; refine GO.lenS rfl rfl ?_; refine GO.neF rfl rfl rfl rfl ?_; refine GO.nil ?_; refine kthen_n ?_; refine G.condF rfl rfl ?_; refine G.skip ?_; refine kthen_n ?_; refine G.seq ?_; refine G.seq ?_; refine G.region ?_; refine GO.assign rfl rfl ?_; refine GO.nil ?_; refine kthen_n ?_; refine G.block ?_)
  refine G.loop (fun k : Nat => [(0, .slice a ss.length cap), (1, .slice a2 ss.length cap2), (5, i64 k)]) (fun _ => qa :: qb :: F) (fun k => k ≤ ss.length) (fun k => ss.length - k) 0 (by omega) ?_ ?_ ?_
  · (refine SubE.c rfl rfl ?_; refine SubE.c rfl rfl ?_; refine SubE.c rfl rfl ?_; exact SubE.n)
  · ((refine Sb.c Tk.h ?_; refine Sb.c Tk.h ?_); (exact Sb.r))
  rintro k hk
  (refine G.seq ?_; refine G.seq ?_; refine G.region ?_; refine GO.move rfl rfl ?_; refine GO.move rfl rfl ?_; refine GO.lenS rfl rfl ?_; refine GO.lti rfl rfl rfl ?_; refine GO.nil ?_; refine kthen_n ?_)
  refine G.condD rfl (fun hlt => ?_) (fun hge => ?_)
  · have hlt' : k < ss.length := by omega
    obtain ⟨s, hs⟩ : ∃ s : SymD, ss[k]? = some s := ⟨ss[k], by simp [hlt']⟩
    obtain ⟨b, o, rfl, _, r1, r2⟩ := ha.at hs
    obtain ⟨b', o', rfl, _, r3, r4⟩ := hb.at hs
    (refine G.skip ?_; refine kthen_n ?_; refine G.seq ?_; refine G.block ?_; refine G.seq ?_)
    refine G.draw 9 (by kernel_rfl) ?_
    ((apply GQ.step; focus (intro Z; refine GO.move rfl rfl ?_; exact KQ.z)); (apply GQ.step; focus (intro Z; refine GO.move rfl rfl ?_; exact KQ.z)); (apply GQ.step; focus (intro Z; refine GO.idxS rfl rfl rfl ⟨rfl, by omega⟩ ?_; exact KQ.z)); (apply GQ.step; focus (intro Z; refine GO.load2 rfl rfl rfl Tk.h (by assumption) (by assumption) ?_; exact KQ.z)); (apply GQ.step; focus (intro Z; refine GO.move rfl rfl ?_; exact KQ.z)); (apply GQ.step; focus (intro Z; refine GO.move rfl rfl ?_; exact KQ.z)); (apply GQ.step; focus (intro Z; refine GO.idxS rfl rfl rfl ⟨rfl, by omega⟩ ?_; exact KQ.z)); (apply GQ.step; focus (intro Z; refine GO.load2 rfl rfl rfl (Tk.t Tk.h) (by assumption) (by assumption) ?_; exact KQ.z)))
    apply GQ.step; focus (intro Z; refine GO.neqAF EqR.symT rfl rfl rfl ?_; exact KQ.z)
    (refine GQ.nil ?_)
    (refine GO.nil ?_; refine kthen_n ?_; refine G.condF rfl rfl ?_; refine G.skip ?_; refine kblock_n ?_; refine kthen_n ?_; refine G.region ?_; refine GO.move rfl rfl ?_; refine GO.addi rfl rfl rfl (by omega) ?_; refine GO.assign rfl rfl ?_; refine GO.nil ?_; refine kthen_n ?_)
    refine ⟨k + 1, by omega, by omega, ?_, ?_⟩
    · (refine SubE.c rfl rfl ?_; refine SubE.c rfl rfl ?_; refine SubE.c rfl rfl ?_; exact SubE.n)
    · ((refine Sb.c Tk.h ?_; refine Sb.c Tk.h ?_); (exact Sb.r))
  · (refine G.exit ?_; refine kthen_x ?_; refine kthen_x ?_; refine kblock_x ?_; refine kthen_n ?_; refine G.seq ?_; refine G.region ?_; refine GO.assign rfl rfl ?_; refine GO.nil ?_; refine kthen_n ?_; refine G.ret ?_)
    refine KF.r1 rfl (RV.t rfl) ⟨rfl, rfl⟩ ?_
    ((refine Sb.c Tk.h ?_; refine Sb.c Tk.h ?_); (exact Sb.r))
set_option maxHeartbeats 4000000 in
set_option maxRecDepth 20000 in
theorem same_spec (qa qb : HP) (va vb : Value) (C : CnfD) (ha : CnfR qa va C) (hb : CnfR qb vb C) (hz : Fits C) : Fn Try.prog 25 #[va, vb] [qa, qb] (fun r Q => r = .bool true ∧ Q = [qa, qb]) := by
  obtain ⟨pa, rfl, hpa⟩ := ha
  obtain ⟨pb, rfl, hpb⟩ := hb
  obtain ⟨a, cap, rfl⟩ := hpa.form
  obtain ⟨a2, cap2, rfl⟩ := hpb.form
  have hz1 := hz.1
  refine Fn.mk Try.func25 rfl rfl fun w0 F => ?_
  (refine G.seq ?_; refine G.region ?_; refine GO.box rfl rfl rfl fun b2 => ?_; refine GO.box rfl rfl rfl fun b3 => ?_; refine GO.assign rfl rfl ?_; refine GO.nil ?_; refine kthen_n ?_; refine G.seq ?_; refine G.seq ?_; refine G.region ?_; refine GO.fieldAddr rfl rfl ?_; refine GO.load1 rfl rfl rfl (Tk.t Tk.h) rfl ?_; refine GO.fieldAddr rfl rfl ?_; refine GO.load1 rfl rfl rfl Tk.h rfl ?_; refine GO.neF rfl rfl rfl rfl ?_; refine GO.move rfl rfl ?_; refine GO.gT rfl rfl rfl ?_; refine GO.fieldAddr rfl rfl ?_; refine GO.gT rfl rfl rfl ?_; refine GO.load1 rfl rfl rfl (Tk.t Tk.h) rfl ?_; refine GO.gT rfl rfl rfl ?_; refine GO.lenS rfl rfl ?_; refine GO.gT rfl rfl rfl ?_; refine GO.fieldAddr rfl rfl ?_; refine GO.gT rfl rfl rfl ?_; refine GO.load1 rfl rfl rfl Tk.h rfl ?_; refine GO.gT rfl rfl rfl ?_; refine GO.lenS rfl rfl ?_; refine GO.gT rfl rfl rfl ?_; refine GO.neF rfl rfl rfl rfl ?_; refine GO.pickF rfl rfl rfl ?_; refine GO.nil ?_; refine kthen_n ?_; refine G.condF rfl rfl ?_; refine G.skip ?_; refine kthen_n ?_; refine G.seq ?_; refine G.seq ?_; refine G.region ?_; refine GO.assign rfl rfl ?_; refine GO.nil ?_; refine kthen_n ?_; refine G.block ?_)
  refine G.loop (fun k : Nat => [(2, .pointer (some ⟨b2, 0, none⟩)), (3, .pointer (some ⟨b3, 0, none⟩)), (5, i64 k)]) (fun _ => pt b3 (row [i64 C.nts, .slice a2 C.prods.length cap2] 24) :: pt b2 (row [i64 C.nts, .slice a C.prods.length cap] 24) :: qa :: qb :: F) (fun k => k ≤ C.prods.length) (fun k => C.prods.length - k) 0 (by omega) ?_ ?_ ?_
  · (refine SubE.c rfl rfl ?_; refine SubE.c rfl rfl ?_; refine SubE.c rfl rfl ?_; exact SubE.n)
  · ((refine Sb.c Tk.h ?_; refine Sb.c Tk.h ?_; refine Sb.c Tk.h ?_; refine Sb.c Tk.h ?_); (exact Sb.r))
  rintro k hk
  (refine G.seq ?_; refine G.seq ?_; refine G.region ?_; refine GO.move rfl rfl ?_; refine GO.fieldAddr rfl rfl ?_; refine GO.load1 rfl rfl rfl (Tk.t Tk.h) rfl ?_; refine GO.lenS rfl rfl ?_; refine GO.lti rfl rfl rfl ?_; refine GO.nil ?_; refine kthen_n ?_)
  refine G.condD rfl (fun hlt => ?_) (fun hge => ?_)
  · have hlt' : k < C.prods.length := by omega
    obtain ⟨p, hpk⟩ : ∃ p, C.prods[k]? = some p := ⟨C.prods[k], by simp [hlt']⟩
    have hz2 := hz.2 p (List.mem_of_getElem? hpk)
    obtain ⟨b, o, bv, rfl, _, r1, r2, hs⟩ := hpa.at hpk
    obtain ⟨b', o', bv', rfl, _, r3, r4, hs'⟩ := hpb.at hpk
    (refine G.skip ?_; refine kthen_n ?_; refine G.seq ?_; refine G.block ?_; refine G.seq ?_)
    refine G.draw 29 (by kernel_rfl) ?_
    ((apply GQ.step; focus (intro Z; refine GO.fieldAddr rfl rfl ?_; exact KQ.z)); (apply GQ.step; focus (intro Z; refine GO.load1 rfl rfl rfl (Tk.t Tk.h) rfl ?_; exact KQ.z)); (apply GQ.step; focus (intro Z; refine GO.move rfl rfl ?_; exact KQ.z)); (apply GQ.step; focus (intro Z; refine GO.idxS rfl rfl rfl ⟨rfl, by omega⟩ ?_; exact KQ.z)); (apply GQ.step; focus (intro Z; refine GO.fieldAddr rfl rfl ?_; exact KQ.z)); (apply GQ.step; focus (intro Z; refine GO.loadQ rfl rfl rfl (Tk.t (Tk.t Tk.h)) (by assumption) ?_; exact KQ.z)); (apply GQ.step; focus (intro Z; refine GO.fieldAddr rfl rfl ?_; exact KQ.z)); (apply GQ.step; focus (intro Z; refine GO.load1 rfl rfl rfl Tk.h rfl ?_; exact KQ.z)); (apply GQ.step; focus (intro Z; refine GO.move rfl rfl ?_; exact KQ.z)); (apply GQ.step; focus (intro Z; refine GO.idxS rfl rfl rfl ⟨rfl, by omega⟩ ?_; exact KQ.z)); (apply GQ.step; focus (intro Z; refine GO.fieldAddr rfl rfl ?_; exact KQ.z)); (apply GQ.step; focus (intro Z; refine GO.loadQ rfl rfl rfl (Tk.t (Tk.t (Tk.t Tk.h))) (by assumption) ?_; exact KQ.z)); (apply GQ.step; focus (intro Z; refine GO.neF rfl rfl rfl rfl ?_; exact KQ.z)); (apply GQ.step; focus (intro Z; refine GO.move rfl rfl ?_; exact KQ.z)); (apply GQ.step; focus (intro Z; refine GO.gT rfl rfl rfl ?_; refine GO.fieldAddr rfl rfl ?_; exact KQ.z)); (apply GQ.step; focus (intro Z; refine GO.gT rfl rfl rfl ?_; refine GO.load1 rfl rfl rfl (Tk.t Tk.h) rfl ?_; exact KQ.z)); (apply GQ.step; focus (intro Z; refine GO.gT rfl rfl rfl ?_; refine GO.move rfl rfl ?_; exact KQ.z)); (apply GQ.step; focus (intro Z; refine GO.gT rfl rfl rfl ?_; refine GO.idxS rfl rfl rfl ⟨rfl, by omega⟩ ?_; exact KQ.z)); (apply GQ.step; focus (intro Z; refine GO.gT rfl rfl rfl ?_; refine GO.fieldAddr rfl rfl ?_; exact KQ.z)); (apply GQ.step; focus (intro Z; refine GO.gT rfl rfl rfl ?_; refine GO.loadQ rfl rfl rfl (Tk.t (Tk.t Tk.h)) (by assumption) ?_; exact KQ.z)); (apply GQ.step; focus (intro Z; refine GO.gT rfl rfl rfl ?_; refine GO.fieldAddr rfl rfl ?_; exact KQ.z)); (apply GQ.step; focus (intro Z; refine GO.gT rfl rfl rfl ?_; refine GO.load1 rfl rfl rfl Tk.h rfl ?_; exact KQ.z)); (apply GQ.step; focus (intro Z; refine GO.gT rfl rfl rfl ?_; refine GO.move rfl rfl ?_; exact KQ.z)); (apply GQ.step; focus (intro Z; refine GO.gT rfl rfl rfl ?_; refine GO.idxS rfl rfl rfl ⟨rfl, by omega⟩ ?_; exact KQ.z)); (apply GQ.step; focus (intro Z; refine GO.gT rfl rfl rfl ?_; refine GO.fieldAddr rfl rfl ?_; exact KQ.z)); (apply GQ.step; focus (intro Z; refine GO.gT rfl rfl rfl ?_; refine GO.loadQ rfl rfl rfl (Tk.t (Tk.t (Tk.t Tk.h))) (by assumption) ?_; exact KQ.z)))
    apply GQ.step; focus (intro Z; refine GO.gT rfl rfl rfl ?_; refine GO.call2 rfl rfl rfl (sameBody_spec qa qb _ _ p.2 hs hs' (by omega)) (Tks.c (Tk.t (Tk.t Tk.h)) (Tks.c (Tk.t (Tk.t Tk.h)) Tks.n)) ?_; rintro _ _ ⟨rfl, rfl⟩; refine GO.nil (KQ.s ?_); ((refine Sb.c (Tk.t (Tk.t Tk.h)) ?_; refine Sb.c (Tk.t (Tk.t Tk.h)) ?_; refine Sb.c Tk.h ?_; refine Sb.c Tk.h ?_); (exact Sb.r)))
    ((apply GQ.step; focus (intro Z; refine GO.gT rfl rfl rfl ?_; refine GO.not rfl rfl ?_; exact KQ.z)); (apply GQ.step; focus (intro Z; refine GO.pickF rfl rfl rfl ?_; exact KQ.z)); refine GQ.nil ?_)
    (refine GO.nil ?_; refine kthen_n ?_; refine G.condF rfl rfl ?_; refine G.skip ?_; refine kblock_n ?_; refine kthen_n ?_; refine G.region ?_; refine GO.move rfl rfl ?_; refine GO.addi rfl rfl rfl (by omega) ?_; refine GO.assign rfl rfl ?_; refine GO.nil ?_; refine kthen_n ?_)
    refine ⟨k + 1, by omega, by omega, ?_, ?_⟩
    · (refine SubE.c rfl rfl ?_; refine SubE.c rfl rfl ?_; refine SubE.c rfl rfl ?_; exact SubE.n)
    · ((refine Sb.c Tk.h ?_; refine Sb.c Tk.h ?_; refine Sb.c Tk.h ?_; refine Sb.c Tk.h ?_); (exact Sb.r))
  · (refine G.exit ?_; refine kthen_x ?_; refine kthen_x ?_; refine kblock_x ?_; refine kthen_n ?_; refine G.seq ?_; refine G.region ?_; refine GO.assign rfl rfl ?_; refine GO.nil ?_; refine kthen_n ?_; refine G.ret ?_)
    refine KF.r1 rfl (RV.t rfl) ⟨rfl, rfl⟩ ?_
    ((refine Sb.c (Tk.t (Tk.t Tk.h)) ?_; refine Sb.c (Tk.t (Tk.t Tk.h)) ?_); (refine Sb.s ?_; refine Sb.s ?_; exact Sb.r))
end Go.Proofs.Ytcemehocbemfmaa
