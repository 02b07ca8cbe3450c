/-
  The law TopTexts, part 4.
-/
import Derived.Test.YtpgfmfbpmkfbjaaGreatM3
import Derived.Lib.Bytealg
import Derived.Shelf.SlSortCmp.NoneTotal
import Derived.Test.YtpgfmfbpmkfbjaaGreatLaE
import Derived.Test.YtpgfmfbpmkfbjaaGreatLaF
namespace Go.Proofs.YtpgfmfbpmkfbjaaGreat
open Go
attribute [local irreducible] capN capM G GO GR GT Fn FnX FnV FnXV Dfr pt init exs pur sat own ImpS mapP mapIt checkG placeAt
set_option maxHeartbeats 64000000 in
set_option maxRecDepth 40000 in
theorem parse_spec (s : List UInt8) : Fn Tryz.prog 4 #[str s] [] (ParseR (parseF s)) := by
  refine Fn.mkD Tryz.func4 rfl rfl fun w0 F => ?_
  refine GZ.seq ?_
  (refine G.region ?_; refine GO.alloc rfl fun b2 => ?_; refine GO.alloc rfl fun b3 => ?_; refine GO.alloc rfl fun b4 => ?_; refine GO.nil ?_; refine kthen_n ?_)
  refine GZ.seq ?_
  by_cases hlen : 2048 < s.length
  · have e1 : decide ((2048 : Int) < (s.length : Int)) = true := decide_eq_true (by omega)
    have hr : parseF s = ([], 0, 3) := by unfold parseF; rw [if_pos hlen]
    rw [hr]
    (refine G.seq ?_; refine G.region ?_; refine GO.move rfl rfl ?_; refine GO.strLen rfl rfl ?_; refine GO.gti rfl rfl rfl ?_; refine GO.nil ?_; refine kthen_n ?_; refine G.condT rfl (by assumption) ?_; refine G.seq ?_; refine G.region ?_; refine GO.store1 rfl rfl rfl (Tk.t (Tk.t Tk.h)) (by decide) ?_; refine GO.store1 rfl rfl rfl (Tk.t (Tk.t Tk.h)) (by decide) ?_; refine GO.store1 rfl rfl rfl (Tk.t (Tk.t Tk.h)) (by decide) ?_; refine GO.nil ?_; refine kthen_n ?_; refine G.ret ?_; refine kthen_r ?_)
    refine KF2.r3 rfl (RV.c1 rfl rfl (Tk.t (Tk.t Tk.h)) rfl) (RV.c1 rfl rfl (Tk.t Tk.h) rfl) (RV.c1 rfl rfl Tk.h rfl) ⟨.slice none 0 0, _, rfl, RulesR.nil _, rfl⟩ (ImpS.trans (ImpS.sb (M := F) ?_) ImpS.tt)
    (skip; (refine Sb.s ?_; refine Sb.s ?_; refine Sb.s ?_; exact Sb.r))
  have e1 : decide ((2048 : Int) < (s.length : Int)) = false := decide_eq_false (by omega)
  have hlM := marksF_len s
  have hbl := badF_le s
  have hwh := scan_whole s (by omega)
  have hrd : parseF s = match rulesF s (marksF s) (badF s) ((marksF s).length + 1) [] 0 with
      | .error p => ([], p, 172)
      | .ok g => if badF s < s.length then ([], badF s, 172) else if g.any longR = true then ([], 0, 173) else if checkG g = 0 then (g, 0, 0) else ([], 0, checkG g) := by
    unfold parseF; rw [if_neg hlen]; cases rulesF s (marksF s) (badF s) ((marksF s).length + 1) [] 0 <;> rfl
  have hru : ∀ q v br, MarksR q v (marksF s) → _ := fun q v br hq => rules_spec q v (marksF s) hq br (badF s) s (by omega) (by omega) (placesOK s)
  have hfit : ∀ g, rulesF s (marksF s) (badF s) ((marksF s).length + 1) [] 0 = .ok g → FitG g := fun g h => rulesF_fitG hlen h
  have hsc := scan_spec s (by omega)
  generalize rulesF s (marksF s) (badF s) ((marksF s).length + 1) [] 0 = ex at *
  rw [hrd]
  generalize badF s = bad at *
  generalize marksF s = ms at *
  clear hrd
  (refine G.seq ?_; refine G.region ?_; refine GO.move rfl rfl ?_; refine GO.strLen rfl rfl ?_; refine GO.gti rfl rfl rfl ?_; refine GO.nil ?_; refine kthen_n ?_; refine G.condF rfl (by assumption) ?_; refine G.skip ?_; refine kthen_n ?_)
  refine GZ.defer (vs := [ptrV b2, ptrV b3, ptrV b4]) rfl ⟨rfl, rfl, rfl, trivial⟩ ?_
  (refine G.seq ?_; refine G.region ?_; refine GO.move rfl rfl ?_)
  refine GO.call1 rfl rfl (hsc) Tks.n ?_
  rintro _ _ (⟨hb, rfl, rfl⟩ | ⟨hb, v, rfl, hv1, rfl⟩)
  · have d1 : decide ((160 : Int) ≠ 0) = true := rfl
    (refine GO.move rfl rfl ?_; refine GO.extract rfl rfl rfl ?_; refine GO.extract rfl rfl rfl ?_; refine GO.extract rfl rfl rfl ?_; refine GO.assign rfl rfl ?_; refine GO.assign rfl rfl ?_; refine GO.assign rfl rfl ?_; refine GO.nil ?_; refine kthen_n ?_; refine G.seq ?_; refine G.region ?_; refine GO.move rfl rfl ?_; refine GO.move rfl rfl ?_; refine GO.move rfl rfl ?_; refine GO.strLen rfl rfl ?_)
    refine GO.buildPart3 (built_readerB s (.slice none 0 0) s.length none 0 0 rfl) rfl rfl rfl rfl ?_
    (refine GO.box rfl rfl rfl fun b25 => ?_; refine GO.assign rfl rfl ?_; refine GO.nil ?_; refine kthen_n ?_; refine G.seq ?_; refine G.seq ?_; refine G.region ?_; refine GO.move rfl rfl ?_; refine GO.nei rfl rfl rfl ?_; refine GO.nil ?_; refine kthen_n ?_; refine G.condT rfl rfl ?_; refine G.seq ?_; refine G.region ?_; refine GO.move rfl rfl ?_; refine GO.move rfl rfl ?_; refine GO.move rfl rfl ?_)
    refine GO.strHi rfl rfl rfl ⟨rfl, by omega⟩ ?_
    skip
    refine GO.call1 rfl rfl (hwh) Tks.n ?_
    rintro _ _ ⟨v, rfl, hv1, rfl⟩
    refine GO.ownRd (n := ms.length) (v := v) (xs := marksV ms) Tk.h fun q hq => ?_
    have hx := fun br => hru q v br hq
    obtain ⟨am, cm, rfl⟩ := marks_sl hq
    clear hq hru
    (refine GO.move rfl rfl ?_; refine GO.extract rfl rfl rfl ?_; refine GO.extract rfl rfl rfl ?_; refine GO.extract rfl rfl rfl ?_; refine GO.nilCheck rfl rfl ?_; refine GO.fieldAddr rfl rfl ?_; refine GO.store1 rfl rfl rfl (Tk.t Tk.h) (by simp) ?_; refine GO.nil ?_; refine kthen_n ?_; refine G.region ?_; refine GO.move rfl rfl ?_; refine GO.move rfl rfl ?_; refine GO.nilCheck rfl rfl ?_; refine GO.fieldAddr rfl rfl ?_; refine GO.store1 rfl rfl rfl Tk.h (by simp) ?_; refine GO.nil ?_; refine kthen_n ?_; refine G.seq ?_; refine G.region ?_; refine GO.move rfl rfl ?_)
    refine GO.callX1 rfl rfl (hx b25) (Tks.c Tk.h (Tks.c Tk.h Tks.n)) ?_ ?_
    · rintro _ _ ⟨p, hp, rfl, rfl⟩
      rw [hp]
      dsimp only
      (repeat (first | refine kthen_p ?_ | refine kblock_p ?_ | refine kscope_p ?_))
      refine KFD.p3 (parse1_caught b2 b3 b4 p _ _ _) (X := F) (ImpS.sb (by ((refine Sb.c (Tk.t (Tk.t Tk.h)) ?_; refine Sb.c (Tk.t Tk.h) ?_; refine Sb.c Tk.h ?_); (exact Sb.r)))) rfl (RV.c1 rfl rfl Tk.h rfl) (RV.c1 rfl rfl (Tk.t Tk.h) rfl) (RV.c1 rfl rfl (Tk.t (Tk.t Tk.h)) rfl) ⟨.slice none 0 0, _, rfl, RulesR.nil _, rfl⟩ (ImpS.trans (ImpS.sb (M := F) ?_) ImpS.tt)
      (skip; (refine Sb.s ?_; refine Sb.s ?_; refine Sb.s ?_; exact Sb.r))
    rintro r _ ⟨g, z, hg, hR, rfl⟩
    rw [hg]
    dsimp only
    rw [if_pos hb]
    obtain ⟨ag, cg, rfl⟩ := rules_sl hR
    (refine GO.store1 rfl rfl rfl (Tk.t (Tk.t (Tk.t Tk.h))) (by decide) ?_; refine GO.nil ?_; refine kthen_n ?_; refine G.seq ?_; refine G.block ?_; refine G.seq ?_; refine G.region ?_; refine GO.move rfl rfl ?_; refine GO.nei rfl rfl rfl ?_; refine GO.assign rfl rfl ?_; refine GO.nil ?_; refine kthen_n ?_; refine G.condT rfl rfl ?_; refine G.seq ?_; refine G.region ?_; refine GO.move rfl rfl ?_; refine GO.store1 rfl rfl rfl Tk.h (by simp) ?_; refine GO.store1 rfl rfl rfl (Tk.t (Tk.t (Tk.t Tk.h))) (by decide) ?_; refine GO.store1 rfl rfl rfl (Tk.t (Tk.t (Tk.t Tk.h))) (by decide) ?_; refine GO.nil ?_; refine kthen_n ?_; refine G.ret ?_; refine kblock_r ?_; refine kthen_r ?_)
    refine KFD.r3 (parse1_calm b2 b3 b4) rfl (RV.c1 rfl rfl (Tk.t (Tk.t Tk.h)) rfl) (RV.c1 rfl rfl (Tk.t Tk.h) rfl) (RV.c1 rfl rfl Tk.h rfl) ⟨.slice none 0 0, _, rfl, RulesR.nil _, rfl⟩ (ImpS.trans (ImpS.sb (M := F) ?_) ImpS.tt)
    (skip; (refine Sb.s ?_; refine Sb.s ?_; refine Sb.s ?_; refine Sb.s ?_; exact Sb.r))
  · subst hb
    have d1 : decide ((0 : Int) ≠ 0) = false := rfl
    refine GO.ownRd (n := ms.length) (v := v) (xs := marksV ms) Tk.h fun q hq => ?_
    have hx := fun br => hru q v br hq
    obtain ⟨am, cm, rfl⟩ := marks_sl hq
    clear hq hru
    (refine GO.move rfl rfl ?_; refine GO.extract rfl rfl rfl ?_; refine GO.extract rfl rfl rfl ?_; refine GO.extract rfl rfl rfl ?_; refine GO.assign rfl rfl ?_; refine GO.assign rfl rfl ?_; refine GO.assign rfl rfl ?_; refine GO.nil ?_; refine kthen_n ?_; refine G.seq ?_; refine G.region ?_; refine GO.move rfl rfl ?_; refine GO.move rfl rfl ?_; refine GO.move rfl rfl ?_; refine GO.strLen rfl rfl ?_)
    refine GO.buildPart3 (built_readerB s (.slice am ms.length cm) s.length am ms.length cm rfl) rfl rfl rfl rfl ?_
    (refine GO.box rfl rfl rfl fun b25 => ?_; refine GO.assign rfl rfl ?_; refine GO.nil ?_; refine kthen_n ?_; refine G.seq ?_; refine G.seq ?_; refine G.region ?_; refine GO.move rfl rfl ?_; refine GO.neF rfl rfl rfl rfl ?_; refine GO.nil ?_; refine kthen_n ?_; refine G.condF rfl rfl ?_; refine G.skip ?_; refine kthen_n ?_; refine G.seq ?_; refine G.region ?_; refine GO.move rfl rfl ?_)
    refine GO.callX1 rfl rfl (hx b25) (Tks.c Tk.h (Tks.c Tk.h Tks.n)) ?_ ?_
    · rintro _ _ ⟨p, hp, rfl, rfl⟩
      rw [hp]
      dsimp only
      (repeat (first | refine kthen_p ?_ | refine kblock_p ?_ | refine kscope_p ?_))
      refine KFD.p3 (parse1_caught b2 b3 b4 p _ _ _) (X := F) (ImpS.sb (by ((refine Sb.c (Tk.t (Tk.t Tk.h)) ?_; refine Sb.c (Tk.t Tk.h) ?_; refine Sb.c Tk.h ?_); (exact Sb.r)))) rfl (RV.c1 rfl rfl Tk.h rfl) (RV.c1 rfl rfl (Tk.t Tk.h) rfl) (RV.c1 rfl rfl (Tk.t (Tk.t Tk.h)) rfl) ⟨.slice none 0 0, _, rfl, RulesR.nil _, rfl⟩ (ImpS.trans (ImpS.sb (M := F) ?_) ImpS.tt)
      (skip; (refine Sb.s ?_; refine Sb.s ?_; refine Sb.s ?_; exact Sb.r))
    rintro r _ ⟨g, z, hg, hR, rfl⟩
    have hF := hfit g hg
    have hlo := long_spec z r g hR (by have := hF.len; omega) (fun x hx => by have := hF.body x hx; omega)
    have hch := checkG_spec z r g hR hF
    rw [hg]
    dsimp only
    rw [if_neg (Nat.lt_irrefl _)]
    obtain ⟨ag, cg, rfl⟩ := rules_sl hR
    (refine GO.store1 rfl rfl rfl (Tk.t (Tk.t (Tk.t Tk.h))) (by decide) ?_; refine GO.nil ?_; refine kthen_n ?_; refine G.seq ?_; refine G.block ?_; refine G.seq ?_; refine G.region ?_; refine GO.move rfl rfl ?_; refine GO.neF rfl rfl rfl rfl ?_; refine GO.assign rfl rfl ?_; refine GO.nil ?_; refine kthen_n ?_; refine G.condF rfl rfl ?_; refine G.seq ?_; refine G.region ?_; refine GO.load1 rfl rfl rfl Tk.h rfl ?_)
    refine GO.call1 rfl rfl (hlo) (Tks.c (Tk.t Tk.h) Tks.n) ?_
    rintro _ _ ⟨rfl, rfl⟩
    cases hlg : g.any longR
    · rw [if_neg (by decide)]
      (refine GO.assign rfl rfl ?_; refine GO.nil ?_; refine kthen_n ?_; refine G.condF rfl rfl ?_; refine G.skip ?_; refine kblock_n ?_; refine kthen_n ?_; refine G.seq ?_; refine G.seq ?_; refine G.region ?_; refine GO.load1 rfl rfl rfl (Tk.t Tk.h) rfl ?_)
      refine GO.call1 rfl rfl (hch) (Tks.c Tk.h Tks.n) ?_
      rintro _ _ ⟨rfl, rfl⟩
      by_cases hc : checkG g = 0
      · rw [if_pos hc]
        have d2 : decide ((checkG g : Int) ≠ 0) = false := decide_eq_false (by omega)
        (refine GO.assign rfl rfl ?_; refine GO.nil ?_; refine kthen_n ?_; refine G.seq ?_; refine G.region ?_; refine GO.move rfl rfl ?_; refine GO.nei rfl rfl rfl ?_; refine GO.nil ?_; refine kthen_n ?_; refine G.condF rfl (by assumption) ?_; refine G.skip ?_; refine kthen_n ?_; refine G.seq ?_; refine G.region ?_; refine GO.load1 rfl rfl rfl (Tk.t Tk.h) rfl ?_; refine GO.store1 rfl rfl rfl (Tk.t Tk.h) (by simp) ?_; refine GO.store1 rfl rfl rfl (Tk.t (Tk.t (Tk.t Tk.h))) (by decide) ?_; refine GO.store1 rfl rfl rfl (Tk.t (Tk.t (Tk.t Tk.h))) (by decide) ?_; refine GO.nil ?_; refine kthen_n ?_; refine G.ret ?_)
        refine KFD.r3 (parse1_calm b2 b3 b4) rfl (RV.c1 rfl rfl (Tk.t (Tk.t Tk.h)) rfl) (RV.c1 rfl rfl (Tk.t Tk.h) rfl) (RV.c1 rfl rfl Tk.h rfl) ⟨_, z, rfl, hR, rfl⟩ (ImpS.sb ?_)
        ((refine Sb.c (Tk.t (Tk.t (Tk.t Tk.h))) ?_); (refine Sb.s ?_; refine Sb.s ?_; refine Sb.s ?_; exact Sb.r))
      · rw [if_neg hc]
        have d2 : decide ((checkG g : Int) ≠ 0) = true := decide_eq_true (by omega)
        (refine GO.assign rfl rfl ?_; refine GO.nil ?_; refine kthen_n ?_; refine G.seq ?_; refine G.region ?_; refine GO.move rfl rfl ?_; refine GO.nei rfl rfl rfl ?_; refine GO.nil ?_; refine kthen_n ?_; refine G.condT rfl (by assumption) ?_; refine G.seq ?_; refine G.region ?_; refine GO.move rfl rfl ?_; refine GO.store1 rfl rfl rfl (Tk.t Tk.h) (by simp) ?_; refine GO.store1 rfl rfl rfl (Tk.t (Tk.t (Tk.t Tk.h))) (by decide) ?_; refine GO.store1 rfl rfl rfl (Tk.t (Tk.t (Tk.t Tk.h))) (by decide) ?_; refine GO.nil ?_; refine kthen_n ?_; refine G.ret ?_; refine kthen_r ?_)
        refine KFD.r3 (parse1_calm b2 b3 b4) rfl (RV.c1 rfl rfl (Tk.t (Tk.t Tk.h)) rfl) (RV.c1 rfl rfl (Tk.t Tk.h) rfl) (RV.c1 rfl rfl Tk.h rfl) ⟨.slice none 0 0, _, rfl, RulesR.nil _, rfl⟩ (ImpS.trans (ImpS.sb (M := F) ?_) ImpS.tt)
        (skip; (refine Sb.s ?_; refine Sb.s ?_; refine Sb.s ?_; refine Sb.s ?_; exact Sb.r))
    · rw [if_pos rfl]
      (refine GO.assign rfl rfl ?_; refine GO.nil ?_; refine kthen_n ?_; refine G.condT rfl rfl ?_; refine G.seq ?_; refine G.region ?_; refine GO.store1 rfl rfl rfl (Tk.t Tk.h) (by simp) ?_; refine GO.store1 rfl rfl rfl (Tk.t (Tk.t (Tk.t Tk.h))) (by decide) ?_; refine GO.store1 rfl rfl rfl (Tk.t (Tk.t (Tk.t Tk.h))) (by decide) ?_; refine GO.nil ?_; refine kthen_n ?_; refine G.ret ?_; refine kblock_r ?_; refine kthen_r ?_)
      refine KFD.r3 (parse1_calm b2 b3 b4) rfl (RV.c1 rfl rfl (Tk.t (Tk.t Tk.h)) rfl) (RV.c1 rfl rfl (Tk.t Tk.h) rfl) (RV.c1 rfl rfl Tk.h rfl) ⟨.slice none 0 0, _, rfl, RulesR.nil _, rfl⟩ (ImpS.trans (ImpS.sb (M := F) ?_) ImpS.tt)
      (skip; (refine Sb.s ?_; refine Sb.s ?_; refine Sb.s ?_; refine Sb.s ?_; exact Sb.r))
end Go.Proofs.YtpgfmfbpmkfbjaaGreat
namespace Go.Proofs.YtpgfmfbpmkfbjaaGreat
open Go
theorem eqR_str {P : Program} {d : Nat} {t : TypeId} {a b : List UInt8} [h : UL P t .string] : EqR P (d + 1) t (str a) (str b) (decide (a = b)) := by
  have := (EqR.str : EqR P (d + 1) t (.string ⟨a.toArray⟩) (.string ⟨b.toArray⟩) _)
  rwa [str_list, str_list, show (a == b) = decide (a = b) by rw [Bool.eq_iff_iff]; simp] at this
theorem eqNode (a b : NodeD) : EqR Tryz.prog 10000 64 (nodeA a) (nodeA b) (decide (a = b)) := by
  have h : EqR Tryz.prog (9998 + 1 + 1) 64 (.agg (nodeVs a).toArray) (.agg (nodeVs b).toArray) (decide ((a.kind : Int) = (b.kind : Int)) && (decide (a.name = b.name) && decide ((a.kids : Int) = (b.kids : Int)))) :=
    EqR.struct (P := Tryz.prog) (d := 9999) (t := 64) (l := nodeVs a) (l' := nodeVs b) ⟨i64 (a.kind : Nat), i64 (b.kind : Nat), _, _, by decide, PartR.one rfl rfl, PartR.one rfl rfl, EqR.int, ⟨str a.name, str b.name, _, _, by decide, PartR.one rfl rfl, PartR.one rfl rfl, eqR_str, ⟨i64 (a.kids : Nat), i64 (b.kids : Nat), _, true, by decide, PartR.one rfl rfl, PartR.one rfl rfl, EqR.int, rfl, (Bool.and_true _).symm⟩, rfl⟩, rfl⟩
  rwa [show (decide ((a.kind : Int) = (b.kind : Int)) && (decide (a.name = b.name) && decide ((a.kids : Int) = (b.kids : Int)))) = decide (a = b) by
    rw [Bool.eq_iff_iff]; simp only [Bool.and_eq_true, decide_eq_true_iff]
    constructor
    · rintro ⟨h1, h2, h3⟩; cases a; cases b; simp only at h1 h2 h3; subst h2; congr <;> omega
    · rintro rfl; exact ⟨rfl, rfl, rfl⟩] at h
theorem eq_drop {α : Type} [DecidableEq α] {l k : List α} {i : Nat} {x y : α} (h : l[i]? = some x) (h' : k[i]? = some y) : decide (l.drop i = k.drop i) = (decide (x = y) && decide (l.drop (i + 1) = k.drop (i + 1))) := by
  rw [drop_at h, drop_at h', Bool.eq_iff_iff]
  simp only [Bool.and_eq_true, decide_eq_true_iff, List.cons.injEq]
attribute [local irreducible] capN capM G GO GR GT Fn FnX FnV FnXV Dfr pt init exs pur sat own ImpS
set_option maxHeartbeats 16000000 in
theorem equalN_spec (q1 q2 : HP) (v1 v2 : Value) (l k : List NodeD) (h1 : NodesR q1 v1 l) (h2 : NodesR q2 v2 k) (hl : ¬ 1048576 < l.length) : Fn Tryz.prog 20 #[v1, v2] [q1, q2] (fun r Q => r = .bool (decide (l = k)) ∧ Q = [q1, q2]) := by
  have hr1 : ∀ i m, l[i]? = some m → _ := fun i m h => nodes_rd h1 h
  have hr2 : ∀ i m, k[i]? = some m → _ := fun i m h => nodes_rd h2 h
  obtain ⟨a, cap, rfl⟩ := nodes_sl h1
  obtain ⟨a2, cap2, rfl⟩ := nodes_sl h2
  refine Fn.mk2 Tryz.func20 rfl rfl fun w0 F => ?_
  (refine G.seq ?_; refine G.region ?_; refine GO.assign rfl rfl ?_; refine GO.nil ?_; refine kthen_n ?_; refine G.seq ?_; refine G.seq ?_; refine G.region ?_; refine GO.move rfl rfl ?_; refine GO.lenS rfl rfl ?_; refine GO.move rfl rfl ?_; refine GO.lenS rfl rfl ?_; refine GO.nei rfl rfl rfl ?_; refine GO.nil ?_; refine kthen_n ?_)
  by_cases hlen : l.length = k.length
  · have d0 : decide ((l.length : Int) ≠ (k.length : Int)) = false := decide_eq_false (by omega)
    generalize hres : decide (l = k) = res
    (refine G.condF rfl (by assumption) ?_; refine G.skip ?_; refine kthen_n ?_; refine G.seq ?_; refine G.seq ?_; refine G.region ?_; refine GO.move rfl rfl ?_; refine GO.lenS rfl rfl ?_; refine GO.move rfl rfl ?_; refine GO.nil ?_; refine kthen_n ?_; refine G.block ?_)
    refine G.loopI (σ := Nat) (fun i => [(0, .slice a l.length cap), (1, .slice a2 k.length cap2), (11, .slice a l.length cap), (12, i64 (l.length : Nat)), (13, i64 (i : Nat))]) (fun _ => q1 :: q2 :: F) (fun i => i ≤ l.length ∧ decide (l.drop i = k.drop i) = res) (fun i => l.length - i) 0 ⟨Nat.zero_le _, hres⟩ ?_ ?_ ?_
    · (refine SubE.c rfl rfl ?_; refine SubE.c rfl rfl ?_; refine SubE.c rfl rfl ?_; refine SubE.c rfl rfl ?_; refine SubE.c rfl rfl ?_; exact SubE.n)
    · refine ImpS.sb ?_
      ((refine Sb.c Tk.h ?_; refine Sb.c Tk.h ?_); (exact Sb.r))
    clear hres
    rintro i ⟨hi, hp⟩
    (refine G.seq ?_; refine G.region ?_; refine GO.lti rfl rfl rfl ?_; refine GO.nil ?_; refine kthen_n ?_; refine G.seq ?_)
    by_cases hlt : i < l.length
    · have d1 : decide ((i : Int) < (l.length : Int)) = true := decide_eq_true (by omega)
      obtain ⟨m, hm⟩ : ∃ m, l[i]? = some m := ⟨_, List.getElem?_eq_getElem hlt⟩
      obtain ⟨m2, hm2⟩ : ∃ m, k[i]? = some m := ⟨_, List.getElem?_eq_getElem (by omega)⟩
      obtain ⟨b, o, cp, e, _, rm⟩ := hr1 i m hm
      injection e with e _ e2
      subst e e2
      obtain ⟨b', o', cp', e, _, rm2⟩ := hr2 i m2 hm2
      injection e with e _ e2
      subst e e2
      rw [eq_drop hm hm2] at hp
      (refine G.condT rfl (by assumption) ?_; refine G.skip ?_; refine kthen_n ?_; refine G.seq ?_; refine G.block ?_; refine G.seq ?_; refine G.region ?_; refine GO.move rfl rfl ?_; refine GO.assign rfl rfl ?_; refine GO.nil ?_; refine kthen_n ?_; refine G.seq ?_)
      refine G.draw 9 (by kernel_rfl) ?_
      ((apply GQ.step; focus (intro Z; refine GO.move rfl rfl ?_; exact KQ.z)); (apply GQ.step; focus (intro Z; refine GO.move rfl rfl ?_; exact KQ.z)); (apply GQ.step; focus (intro Z; refine GO.idxS rfl rfl rfl ⟨rfl, by omega⟩ ?_; exact KQ.z)))
      apply GQ.step; focus (intro Z; refine GO.loadM (vs := nodeVs m) rfl rfl rfl Tk.h rfl rm ?_; exact KQ.z)
      ((apply GQ.step; focus (intro Z; refine GO.move rfl rfl ?_; exact KQ.z)); (apply GQ.step; focus (intro Z; refine GO.move rfl rfl ?_; exact KQ.z)); (apply GQ.step; focus (intro Z; refine GO.idxS rfl rfl rfl ⟨rfl, by omega⟩ ?_; exact KQ.z)))
      apply GQ.step; focus (intro Z; refine GO.loadM (vs := nodeVs m2) rfl rfl rfl (Tk.t Tk.h) rfl rm2 ?_; exact KQ.z)
      skip
      apply GQ.step; focus (intro Z; refine GO.neqA (eqNode m m2) rfl rfl rfl ?_; exact KQ.z)
      (refine GQ.nil ?_)
      by_cases hmm : m = m2
      · have d2 : decide (m = m2) = true := decide_eq_true hmm
        rw [d2, Bool.true_and] at hp
        rw [d2]
        (refine GO.nil ?_; refine kthen_n ?_; refine G.condF rfl rfl ?_; refine G.skip ?_; refine kblock_n ?_; refine kthen_n ?_; refine G.region ?_; refine GO.addi rfl rfl rfl (by omega) ?_; refine GO.move rfl rfl ?_; refine GO.nil ?_; refine kthen_n ?_)
        refine ⟨i + 1, ⟨hlt, hp⟩, by omega, ?_, ImpS.sb ?_⟩
        · (refine SubE.c rfl rfl ?_; refine SubE.c rfl rfl ?_; refine SubE.c rfl rfl ?_; refine SubE.c rfl rfl ?_; refine SubE.c rfl rfl ?_; exact SubE.n)
        · ((refine Sb.c Tk.h ?_; refine Sb.c Tk.h ?_); (exact Sb.r))
      · have d2 : decide (m = m2) = false := decide_eq_false hmm
        rw [d2, Bool.false_and] at hp
        subst hp
        rw [d2]
        (refine GO.nil ?_; refine kthen_n ?_; refine G.condT rfl rfl ?_; refine G.seq ?_; refine G.region ?_; refine GO.assign rfl rfl ?_; refine GO.nil ?_; refine kthen_n ?_; refine G.ret ?_; refine kblock_r ?_; refine kthen_r ?_; refine kthen_r ?_; refine kblock_r ?_; refine kthen_r ?_)
        refine KF2.r1 rfl (RV.t rfl) ⟨rfl, rfl⟩ (ImpS.sb ?_)
        ((refine Sb.c Tk.h ?_; refine Sb.c Tk.h ?_); (exact Sb.r))
    · have d1 : decide ((i : Int) < (l.length : Int)) = false := decide_eq_false (by omega)
      rw [List.drop_eq_nil_of_le (by omega), List.drop_eq_nil_of_le (by omega)] at hp
      subst hp
      (refine G.condF rfl (by assumption) ?_; refine G.exit ?_; refine kthen_x ?_; refine kthen_x ?_; refine kblock_x ?_; refine kthen_n ?_; refine G.seq ?_; refine G.region ?_; refine GO.assign rfl rfl ?_; refine GO.nil ?_; refine kthen_n ?_; refine G.ret ?_)
      refine KF2.r1 rfl (RV.t rfl) ⟨rfl, rfl⟩ (ImpS.sb ?_)
      ((refine Sb.c Tk.h ?_; refine Sb.c Tk.h ?_); (exact Sb.r))
  · have d0 : decide ((l.length : Int) ≠ (k.length : Int)) = true := decide_eq_true (by omega)
    rw [decide_eq_false (fun h => hlen (by rw [h]))]
    (refine G.condT rfl (by assumption) ?_; refine G.seq ?_; refine G.region ?_; refine GO.assign rfl rfl ?_; refine GO.nil ?_; refine kthen_n ?_; refine G.ret ?_; refine kthen_r ?_)
    refine KF2.r1 rfl (RV.t rfl) ⟨rfl, rfl⟩ (ImpS.sb ?_)
    ((refine Sb.c Tk.h ?_; refine Sb.c Tk.h ?_); (exact Sb.r))
set_option maxHeartbeats 8000000 in
theorem same1_spec (q1 q2 : HP) (r1 r2 : RuleD) (w1 w2 : Value) (h1 : NodesR q1 w1 r1.body) (h2 : NodesR q2 w2 r2.body) (hl : ¬ 1048576 < r1.body.length) :
    FnV Tryz.prog (fnC 19) [ruleA r1 w1, ruleA r2 w2] [q1, q2] (fun r Q => r = .bool (decide (r1 = r2)) ∧ Q = [q1, q2]) := by
  have he := equalN_spec q1 q2 w1 w2 r1.body r2.body h1 h2 hl
  obtain ⟨a1, c1, rfl⟩ := nodes_sl h1
  obtain ⟨a2, c2, rfl⟩ := nodes_sl h2
  have hd : decide (r1 = r2) = (decide (r1.head = r2.head) && decide (r1.body = r2.body)) := by
    rw [Bool.eq_iff_iff]; simp only [Bool.and_eq_true, decide_eq_true_iff]
    constructor
    · rintro rfl; exact ⟨rfl, rfl⟩
    · rintro ⟨e1, e2⟩; clear he h1 h2 hl; cases r1; cases r2; simp only at e1 e2; subst e1 e2; rfl
  rw [hd]
  refine FnV.of (caps := []) ?_
  refine Fn.mk2 Tryz.func19 rfl rfl fun w0 F => ?_
  (refine G.seq ?_; refine G.region ?_; refine GO.box rfl rfl rfl fun b2 => ?_; refine GO.box rfl rfl rfl fun b3 => ?_; refine GO.assign rfl rfl ?_; refine GO.nil ?_; refine kthen_n ?_; refine G.seq ?_; refine G.region ?_; refine GO.fieldAddr rfl rfl ?_; refine GO.load1 rfl rfl rfl (Tk.t Tk.h) rfl ?_; refine GO.fieldAddr rfl rfl ?_; refine GO.load1 rfl rfl rfl Tk.h rfl ?_; refine GO.binS rfl rfl rfl rfl ?_; refine GO.move rfl rfl ?_)
  cases d : decide (r1.head = r2.head)
  · (refine GO.gF rfl rfl rfl rfl ?_; refine GO.gF rfl rfl rfl rfl ?_; refine GO.gF rfl rfl rfl rfl ?_; refine GO.gF rfl rfl rfl rfl ?_; refine GO.gF rfl rfl rfl rfl ?_; refine GO.pickF rfl rfl rfl ?_; refine GO.assign rfl rfl ?_; refine GO.nil ?_; refine kthen_n ?_; refine G.ret ?_)
    refine KF2.r1 rfl (RV.t rfl) ⟨rfl, rfl⟩ (ImpS.sb ?_)
    ((refine Sb.c (Tk.t (Tk.t Tk.h)) ?_; refine Sb.c (Tk.t (Tk.t Tk.h)) ?_); (refine Sb.s ?_; refine Sb.s ?_; exact Sb.r))
  · (refine GO.gT rfl rfl rfl ?_; refine GO.fieldAddr rfl rfl ?_; refine GO.gT rfl rfl rfl ?_; refine GO.load1 rfl rfl rfl (Tk.t Tk.h) rfl ?_; refine GO.gT rfl rfl rfl ?_; refine GO.fieldAddr rfl rfl ?_; refine GO.gT rfl rfl rfl ?_; refine GO.load1 rfl rfl rfl Tk.h rfl ?_; refine GO.gT rfl rfl rfl ?_)
    refine GO.call2 rfl rfl rfl (he) (Tks.c (Tk.t (Tk.t Tk.h)) (Tks.c (Tk.t (Tk.t Tk.h)) Tks.n)) ?_
    rintro _ _ ⟨rfl, rfl⟩
    (refine GO.pickT rfl rfl rfl ?_; refine GO.assign rfl rfl ?_; refine GO.nil ?_; refine kthen_n ?_; refine G.ret ?_)
    refine KF2.r1 rfl (RV.t rfl) ⟨rfl, rfl⟩ (ImpS.sb ?_)
    ((refine Sb.c Tk.h ?_; refine Sb.c Tk.h ?_); (refine Sb.s ?_; refine Sb.s ?_; exact Sb.r))
set_option maxHeartbeats 16000000 in
theorem equalR_spec (q1 q2 : HP) (v1 v2 : Value) (l k : List RuleD) (h1 : RulesR q1 v1 l) (h2 : RulesR q2 v2 k) (hl : ¬ 4096 < l.length) (hb : ∀ r ∈ l, ¬ 4096 < r.body.length) : Fn Tryz.prog 18 #[v1, v2, fnC 19] [q1, q2] (fun r Q => r = .bool (decide (l = k)) ∧ Q = [q1, q2]) := by
  have hr1 : ∀ i m, l[i]? = some m → _ := fun i m h => rules_rd h1 h
  have hr2 : ∀ i m, k[i]? = some m → _ := fun i m h => rules_rd h2 h
  obtain ⟨a, cap, rfl⟩ := rules_sl h1
  obtain ⟨a2, cap2, rfl⟩ := rules_sl h2
  refine Fn.mk2 Tryz.func18 rfl rfl fun w0 F => ?_
  (refine G.seq ?_; refine G.region ?_; refine GO.assign rfl rfl ?_; refine GO.nil ?_; refine kthen_n ?_; refine G.seq ?_; refine G.seq ?_; refine G.region ?_; refine GO.move rfl rfl ?_; refine GO.lenS rfl rfl ?_; refine GO.move rfl rfl ?_; refine GO.lenS rfl rfl ?_; refine GO.nei rfl rfl rfl ?_; refine GO.nil ?_; refine kthen_n ?_)
  by_cases hlen : l.length = k.length
  · have d0 : decide ((l.length : Int) ≠ (k.length : Int)) = false := decide_eq_false (by omega)
    generalize hres : decide (l = k) = res
    (refine G.condF rfl (by assumption) ?_; refine G.skip ?_; refine kthen_n ?_; refine G.seq ?_; refine G.seq ?_; refine G.region ?_; refine GO.move rfl rfl ?_; refine GO.lenS rfl rfl ?_; refine GO.move rfl rfl ?_; refine GO.nil ?_; refine kthen_n ?_; refine G.block ?_)
    refine G.loopI (σ := Nat) (fun i => [(0, .slice a l.length cap), (1, .slice a2 k.length cap2), (2, fnC 19), (15, .slice a l.length cap), (16, i64 (l.length : Nat)), (17, i64 (i : Nat))]) (fun _ => q1 :: q2 :: F) (fun i => i ≤ l.length ∧ decide (l.drop i = k.drop i) = res) (fun i => l.length - i) 0 ⟨Nat.zero_le _, hres⟩ ?_ ?_ ?_
    · (refine SubE.c rfl rfl ?_; refine SubE.c rfl rfl ?_; refine SubE.c rfl rfl ?_; refine SubE.c rfl rfl ?_; refine SubE.c rfl rfl ?_; refine SubE.c rfl rfl ?_; exact SubE.n)
    · refine ImpS.sb ?_
      ((refine Sb.c Tk.h ?_; refine Sb.c Tk.h ?_); (exact Sb.r))
    clear hres
    rintro i ⟨hi, hp⟩
    (refine G.seq ?_; refine G.region ?_; refine GO.lti rfl rfl rfl ?_; refine GO.nil ?_; refine kthen_n ?_; refine G.seq ?_)
    by_cases hlt : i < l.length
    · have d1 : decide ((i : Int) < (l.length : Int)) = true := decide_eq_true (by omega)
      obtain ⟨m, hm⟩ : ∃ m, l[i]? = some m := ⟨_, List.getElem?_eq_getElem hlt⟩
      obtain ⟨m2, hm2⟩ : ∃ m, k[i]? = some m := ⟨_, List.getElem?_eq_getElem (by omega)⟩
      obtain ⟨b, o, cp, w, e, _, hw, rm⟩ := hr1 i m hm
      injection e with e _ e2
      subst e e2
      obtain ⟨b', o', cp', w2, e, _, hw2, rm2⟩ := hr2 i m2 hm2
      injection e with e _ e2
      subst e e2
      rw [eq_drop hm hm2] at hp
      have hsm := same1_spec q1 q2 m m2 w w2 hw hw2 (by have := hb m (List.mem_of_getElem? hm); omega)
      obtain ⟨aw, cw, rfl⟩ := nodes_sl hw
      obtain ⟨aw2, cw2, rfl⟩ := nodes_sl hw2
      (refine G.condT rfl (by assumption) ?_; refine G.skip ?_; refine kthen_n ?_; refine G.seq ?_; refine G.block ?_; refine G.seq ?_; refine G.region ?_; refine GO.move rfl rfl ?_; refine GO.idxS rfl rfl rfl ⟨rfl, by omega⟩ ?_)
      refine GO.loadM (vs := [str m.head, .slice aw m.body.length cw]) rfl rfl rfl Tk.h rfl rm ?_
      (refine GO.alloc rfl fun b8 => ?_; refine GO.assign rfl rfl ?_; refine GO.storeW rfl rfl Tk.h ⟨rfl, rfl⟩ (by simp [Value.oneCell']) ?_; refine GO.nil ?_; refine kthen_n ?_; refine G.seq ?_; refine G.region ?_; refine GO.move rfl rfl ?_; refine GO.move rfl rfl ?_; refine GO.idxS rfl rfl rfl ⟨rfl, by omega⟩ ?_)
      refine GO.loadM (vs := [str m2.head, .slice aw2 m2.body.length cw2]) rfl rfl rfl (Tk.t (Tk.t Tk.h)) rfl rm2 ?_
      (refine GO.alloc rfl fun b9 => ?_; refine GO.storeW rfl rfl Tk.h ⟨rfl, rfl⟩ (by simp [Value.oneCell']) ?_; refine GO.nil ?_; refine kthen_n ?_; refine G.seq ?_; refine G.region ?_; refine GO.move rfl rfl ?_; refine GO.loadW rfl rfl rfl (Tk.t Tk.h) rfl ?_; refine GO.loadW rfl rfl rfl Tk.h rfl ?_)
      refine GO.callV2 rfl rfl rfl rfl (hsm) (Tks.c (Tk.t (Tk.t Tk.h)) (Tks.c (Tk.t (Tk.t Tk.h)) Tks.n)) ?_
      rintro _ _ ⟨rfl, rfl⟩
      by_cases hmm : m = m2
      · have d2 : decide (m = m2) = true := decide_eq_true hmm
        rw [d2, Bool.true_and] at hp
        rw [d2]
        (refine GO.not rfl rfl ?_; refine GO.nil ?_; refine kthen_n ?_; refine G.condF rfl rfl ?_; refine G.skip ?_; refine kblock_n ?_; refine kthen_n ?_; refine G.region ?_; refine GO.addi rfl rfl rfl (by omega) ?_; refine GO.move rfl rfl ?_; refine GO.nil ?_; refine kthen_n ?_)
        refine ⟨i + 1, ⟨hlt, hp⟩, by omega, ?_, ImpS.sb ?_⟩
        · (refine SubE.c rfl rfl ?_; refine SubE.c rfl rfl ?_; refine SubE.c rfl rfl ?_; refine SubE.c rfl rfl ?_; refine SubE.c rfl rfl ?_; refine SubE.c rfl rfl ?_; exact SubE.n)
        · ((refine Sb.c Tk.h ?_; refine Sb.c Tk.h ?_); (refine Sb.s ?_; refine Sb.s ?_; exact Sb.r))
      · have d2 : decide (m = m2) = false := decide_eq_false hmm
        rw [d2, Bool.false_and] at hp
        subst hp
        rw [d2]
        (refine GO.not rfl rfl ?_; refine GO.nil ?_; refine kthen_n ?_; refine G.condT rfl rfl ?_; refine G.seq ?_; refine G.region ?_; refine GO.assign rfl rfl ?_; refine GO.nil ?_; refine kthen_n ?_; refine G.ret ?_; refine kblock_r ?_; refine kthen_r ?_; refine kthen_r ?_; refine kblock_r ?_; refine kthen_r ?_)
        refine KF2.r1 rfl (RV.t rfl) ⟨rfl, rfl⟩ (ImpS.sb ?_)
        ((refine Sb.c Tk.h ?_; refine Sb.c Tk.h ?_); (refine Sb.s ?_; refine Sb.s ?_; exact Sb.r))
    · have d1 : decide ((i : Int) < (l.length : Int)) = false := decide_eq_false (by omega)
      rw [List.drop_eq_nil_of_le (by omega), List.drop_eq_nil_of_le (by omega)] at hp
      subst hp
      (refine G.condF rfl (by assumption) ?_; refine G.exit ?_; refine kthen_x ?_; refine kthen_x ?_; refine kblock_x ?_; refine kthen_n ?_; refine G.seq ?_; refine G.region ?_; refine GO.assign rfl rfl ?_; refine GO.nil ?_; refine kthen_n ?_; refine G.ret ?_)
      refine KF2.r1 rfl (RV.t rfl) ⟨rfl, rfl⟩ (ImpS.sb ?_)
      ((refine Sb.c Tk.h ?_; refine Sb.c Tk.h ?_); (exact Sb.r))
  · have d0 : decide ((l.length : Int) ≠ (k.length : Int)) = true := decide_eq_true (by omega)
    rw [decide_eq_false (fun h => hlen (by rw [h]))]
    (refine G.condT rfl (by assumption) ?_; refine G.seq ?_; refine G.region ?_; refine GO.assign rfl rfl ?_; refine GO.nil ?_; refine kthen_n ?_; refine G.ret ?_; refine kthen_r ?_)
    refine KF2.r1 rfl (RV.t rfl) ⟨rfl, rfl⟩ (ImpS.sb ?_)
    ((refine Sb.c Tk.h ?_; refine Sb.c Tk.h ?_); (exact Sb.r))
set_option maxHeartbeats 4000000 in
theorem sameG_spec (q1 q2 : HP) (v1 v2 : Value) (l k : List RuleD) (h1 : RulesR q1 v1 l) (h2 : RulesR q2 v2 k) (hl : ¬ 4096 < l.length) (hb : ∀ r ∈ l, ¬ 4096 < r.body.length) : Fn Tryz.prog 7 #[v1, v2] [q1, q2] (fun r Q => r = .bool (decide (l = k)) ∧ Q = [q1, q2]) := by
  refine Fn.mk2 Tryz.func7 rfl rfl fun w0 F => ?_
  (refine G.seq ?_; refine G.region ?_; refine GO.assign rfl rfl ?_; refine GO.nil ?_; refine kthen_n ?_; refine G.seq ?_; refine G.region ?_; refine GO.move rfl rfl ?_; refine GO.move rfl rfl ?_)
  refine GO.call3 rfl rfl rfl rfl (equalR_spec q1 q2 v1 v2 l k h1 h2 hl hb) (Tks.c Tk.h (Tks.c Tk.h Tks.n)) ?_
  rintro _ _ ⟨rfl, rfl⟩
  (refine GO.assign rfl rfl ?_; refine GO.nil ?_; refine kthen_n ?_; refine G.ret ?_)
  refine KF2.r1 rfl (RV.t rfl) ⟨rfl, rfl⟩ (ImpS.sb ?_)
  ((refine Sb.c Tk.h ?_; refine Sb.c Tk.h ?_); (exact Sb.r))
end Go.Proofs.YtpgfmfbpmkfbjaaGreat
namespace Go.Proofs.YtpgfmfbpmkfbjaaGreat
open Go
def letterB (b : UInt8) : Bool := ((decide (97 ≤ (b.toNat : Int)) && decide ((b.toNat : Int) ≤ 122)) || (decide (65 ≤ (b.toNat : Int)) && decide ((b.toNat : Int) ≤ 90)) || (decide (48 ≤ (b.toNat : Int)) && decide ((b.toNat : Int) ≤ 57))) || decide ((b.toNat : Int) = 95)
def nameF (s : List UInt8) : Bool := decide (1 ≤ s.length) && (decide (s.length ≤ 16) && s.all letterB)
def labelF (s : List UInt8) : Bool := match s with
  | [] => false
  | b :: _ => nameF s && lowerB b
attribute [local irreducible] capN capM G GO GR GT Fn FnX FnV FnXV Dfr pt init exs pur sat own ImpS
set_option maxHeartbeats 8000000 in
theorem letter_spec (b : UInt8) : Fn Tryz.prog 99 #[u8 b] [] (fun r Q => r = .bool (letterB b) ∧ Q = []) := by
  refine Fn.mk2 Tryz.func99 rfl rfl fun w0 F => ?_
  unfold letterB
  cases e1 : decide (97 ≤ (b.toNat : Int))
  · cases e3 : decide (65 ≤ (b.toNat : Int))
    · cases e5 : decide (48 ≤ (b.toNat : Int))
      · (refine G.seq ?_; refine G.region ?_; refine GO.assign rfl rfl ?_; refine GO.nil ?_; refine kthen_n ?_; refine G.seq ?_; refine G.region ?_; refine GO.move rfl rfl ?_; refine GO.gei rfl rfl rfl ?_; refine GO.move rfl rfl ?_; refine GO.gF rfl rfl rfl (by assumption) ?_; refine GO.gF rfl rfl rfl (by assumption) ?_; refine GO.pickFa rfl rfl (by assumption) rfl ?_; refine GO.move rfl rfl ?_; refine GO.gT rfl rfl rfl ?_; refine GO.move rfl rfl ?_; refine GO.gT rfl rfl rfl ?_; refine GO.gei rfl rfl rfl ?_; refine GO.gT rfl rfl rfl ?_; refine GO.move rfl rfl ?_; refine GO.gF rfl rfl rfl (by assumption) ?_; refine GO.gF rfl rfl rfl (by assumption) ?_; refine GO.gT rfl rfl rfl ?_; refine GO.pickFa rfl rfl (by assumption) rfl ?_; refine GO.pickF rfl rfl rfl ?_; refine GO.move rfl rfl ?_; refine GO.gT rfl rfl rfl ?_; refine GO.move rfl rfl ?_; refine GO.gT rfl rfl rfl ?_; refine GO.gei rfl rfl rfl ?_; refine GO.gT rfl rfl rfl ?_; refine GO.move rfl rfl ?_; refine GO.gF rfl rfl rfl (by assumption) ?_; refine GO.gF rfl rfl rfl (by assumption) ?_; refine GO.gT rfl rfl rfl ?_; refine GO.pickFa rfl rfl (by assumption) rfl ?_; refine GO.pickF rfl rfl rfl ?_; refine GO.move rfl rfl ?_; refine GO.gT rfl rfl rfl ?_; refine GO.move rfl rfl ?_; refine GO.gT rfl rfl rfl ?_; refine GO.eqi rfl rfl rfl ?_; refine GO.pickF rfl rfl rfl ?_; refine GO.assign rfl rfl ?_; refine GO.nil ?_; refine kthen_n ?_; refine G.ret ?_)
        refine KF2.r1 rfl (RV.t rfl) ⟨rfl, rfl⟩ (ImpS.sb ?_)
        (skip; (exact Sb.r))
      · cases e6 : decide ((b.toNat : Int) ≤ 57)
        · (refine G.seq ?_; refine G.region ?_; refine GO.assign rfl rfl ?_; refine GO.nil ?_; refine kthen_n ?_; refine G.seq ?_; refine G.region ?_; refine GO.move rfl rfl ?_; refine GO.gei rfl rfl rfl ?_; refine GO.move rfl rfl ?_; refine GO.gF rfl rfl rfl (by assumption) ?_; refine GO.gF rfl rfl rfl (by assumption) ?_; refine GO.pickFa rfl rfl (by assumption) rfl ?_; refine GO.move rfl rfl ?_; refine GO.gT rfl rfl rfl ?_; refine GO.move rfl rfl ?_; refine GO.gT rfl rfl rfl ?_; refine GO.gei rfl rfl rfl ?_; refine GO.gT rfl rfl rfl ?_; refine GO.move rfl rfl ?_; refine GO.gF rfl rfl rfl (by assumption) ?_; refine GO.gF rfl rfl rfl (by assumption) ?_; refine GO.gT rfl rfl rfl ?_; refine GO.pickFa rfl rfl (by assumption) rfl ?_; refine GO.pickF rfl rfl rfl ?_; refine GO.move rfl rfl ?_; refine GO.gT rfl rfl rfl ?_; refine GO.move rfl rfl ?_; refine GO.gT rfl rfl rfl ?_; refine GO.gei rfl rfl rfl ?_; refine GO.gT rfl rfl rfl ?_; refine GO.move rfl rfl ?_; refine GO.gT rfl rfl (by assumption) ?_; refine GO.move rfl rfl ?_; refine GO.gT rfl rfl (by assumption) ?_; refine GO.lei rfl rfl rfl ?_; refine GO.gT rfl rfl rfl ?_; refine GO.pickTa rfl rfl (by assumption) rfl ?_; refine GO.pickF rfl rfl rfl ?_; refine GO.move rfl rfl ?_; refine GO.gT rfl rfl (by assumption) ?_; refine GO.move rfl rfl ?_; refine GO.gT rfl rfl (by assumption) ?_; refine GO.eqi rfl rfl rfl ?_; refine GO.pickFa rfl rfl (by assumption) rfl ?_; refine GO.assign rfl rfl ?_; refine GO.nil ?_; refine kthen_n ?_; refine G.ret ?_)
          refine KF2.r1 rfl (RV.t rfl) ⟨rfl, rfl⟩ (ImpS.sb ?_)
          (skip; (exact Sb.r))
        · (refine G.seq ?_; refine G.region ?_; refine GO.assign rfl rfl ?_; refine GO.nil ?_; refine kthen_n ?_; refine G.seq ?_; refine G.region ?_; refine GO.move rfl rfl ?_; refine GO.gei rfl rfl rfl ?_; refine GO.move rfl rfl ?_; refine GO.gF rfl rfl rfl (by assumption) ?_; refine GO.gF rfl rfl rfl (by assumption) ?_; refine GO.pickFa rfl rfl (by assumption) rfl ?_; refine GO.move rfl rfl ?_; refine GO.gT rfl rfl rfl ?_; refine GO.move rfl rfl ?_; refine GO.gT rfl rfl rfl ?_; refine GO.gei rfl rfl rfl ?_; refine GO.gT rfl rfl rfl ?_; refine GO.move rfl rfl ?_; refine GO.gF rfl rfl rfl (by assumption) ?_; refine GO.gF rfl rfl rfl (by assumption) ?_; refine GO.gT rfl rfl rfl ?_; refine GO.pickFa rfl rfl (by assumption) rfl ?_; refine GO.pickF rfl rfl rfl ?_; refine GO.move rfl rfl ?_; refine GO.gT rfl rfl rfl ?_; refine GO.move rfl rfl ?_; refine GO.gT rfl rfl rfl ?_; refine GO.gei rfl rfl rfl ?_; refine GO.gT rfl rfl rfl ?_; refine GO.move rfl rfl ?_; refine GO.gT rfl rfl (by assumption) ?_; refine GO.move rfl rfl ?_; refine GO.gT rfl rfl (by assumption) ?_; refine GO.lei rfl rfl rfl ?_; refine GO.gT rfl rfl rfl ?_; refine GO.pickTa rfl rfl (by assumption) rfl ?_; refine GO.pickF rfl rfl rfl ?_; refine GO.move rfl rfl ?_; refine GO.gF rfl rfl rfl (by assumption) ?_; refine GO.gF rfl rfl rfl (by assumption) ?_; refine GO.pickTa rfl rfl (by assumption) rfl ?_; refine GO.assign rfl rfl ?_; refine GO.nil ?_; refine kthen_n ?_; refine G.ret ?_)
          refine KF2.r1 rfl (RV.t rfl) ⟨rfl, rfl⟩ (ImpS.sb ?_)
          (skip; (exact Sb.r))
    · cases e4 : decide ((b.toNat : Int) ≤ 90)
      · cases e5 : decide (48 ≤ (b.toNat : Int))
        · (refine G.seq ?_; refine G.region ?_; refine GO.assign rfl rfl ?_; refine GO.nil ?_; refine kthen_n ?_; refine G.seq ?_; refine G.region ?_; refine GO.move rfl rfl ?_; refine GO.gei rfl rfl rfl ?_; refine GO.move rfl rfl ?_; refine GO.gF rfl rfl rfl (by assumption) ?_; refine GO.gF rfl rfl rfl (by assumption) ?_; refine GO.pickFa rfl rfl (by assumption) rfl ?_; refine GO.move rfl rfl ?_; refine GO.gT rfl rfl rfl ?_; refine GO.move rfl rfl ?_; refine GO.gT rfl rfl rfl ?_; refine GO.gei rfl rfl rfl ?_; refine GO.gT rfl rfl rfl ?_; refine GO.move rfl rfl ?_; refine GO.gT rfl rfl (by assumption) ?_; refine GO.move rfl rfl ?_; refine GO.gT rfl rfl (by assumption) ?_; refine GO.lei rfl rfl rfl ?_; refine GO.gT rfl rfl rfl ?_; refine GO.pickTa rfl rfl (by assumption) rfl ?_; refine GO.pickF rfl rfl rfl ?_; refine GO.move rfl rfl ?_; refine GO.gT rfl rfl (by assumption) ?_; refine GO.move rfl rfl ?_; refine GO.gT rfl rfl (by assumption) ?_; refine GO.gei rfl rfl rfl ?_; refine GO.gT rfl rfl (by assumption) ?_; refine GO.move rfl rfl ?_; refine GO.gF rfl rfl rfl (by assumption) ?_; refine GO.gF rfl rfl rfl (by assumption) ?_; refine GO.gT rfl rfl (by assumption) ?_; refine GO.pickFa rfl rfl (by assumption) rfl ?_; refine GO.pickFa rfl rfl (by assumption) rfl ?_; refine GO.move rfl rfl ?_; refine GO.gT rfl rfl rfl ?_; refine GO.move rfl rfl ?_; refine GO.gT rfl rfl rfl ?_; refine GO.eqi rfl rfl rfl ?_; refine GO.pickF rfl rfl rfl ?_; refine GO.assign rfl rfl ?_; refine GO.nil ?_; refine kthen_n ?_; refine G.ret ?_)
          refine KF2.r1 rfl (RV.t rfl) ⟨rfl, rfl⟩ (ImpS.sb ?_)
          (skip; (exact Sb.r))
        · cases e6 : decide ((b.toNat : Int) ≤ 57)
          · (refine G.seq ?_; refine G.region ?_; refine GO.assign rfl rfl ?_; refine GO.nil ?_; refine kthen_n ?_; refine G.seq ?_; refine G.region ?_; refine GO.move rfl rfl ?_; refine GO.gei rfl rfl rfl ?_; refine GO.move rfl rfl ?_; refine GO.gF rfl rfl rfl (by assumption) ?_; refine GO.gF rfl rfl rfl (by assumption) ?_; refine GO.pickFa rfl rfl (by assumption) rfl ?_; refine GO.move rfl rfl ?_; refine GO.gT rfl rfl rfl ?_; refine GO.move rfl rfl ?_; refine GO.gT rfl rfl rfl ?_; refine GO.gei rfl rfl rfl ?_; refine GO.gT rfl rfl rfl ?_; refine GO.move rfl rfl ?_; refine GO.gT rfl rfl (by assumption) ?_; refine GO.move rfl rfl ?_; refine GO.gT rfl rfl (by assumption) ?_; refine GO.lei rfl rfl rfl ?_; refine GO.gT rfl rfl rfl ?_; refine GO.pickTa rfl rfl (by assumption) rfl ?_; refine GO.pickF rfl rfl rfl ?_; refine GO.move rfl rfl ?_; refine GO.gT rfl rfl (by assumption) ?_; refine GO.move rfl rfl ?_; refine GO.gT rfl rfl (by assumption) ?_; refine GO.gei rfl rfl rfl ?_; refine GO.gT rfl rfl (by assumption) ?_; refine GO.move rfl rfl ?_; refine GO.gT rfl rfl (by assumption) ?_; refine GO.move rfl rfl ?_; refine GO.gT rfl rfl (by assumption) ?_; refine GO.lei rfl rfl rfl ?_; refine GO.gT rfl rfl (by assumption) ?_; refine GO.pickTa rfl rfl (by assumption) rfl ?_; refine GO.pickFa rfl rfl (by assumption) rfl ?_; refine GO.move rfl rfl ?_; refine GO.gT rfl rfl (by assumption) ?_; refine GO.move rfl rfl ?_; refine GO.gT rfl rfl (by assumption) ?_; refine GO.eqi rfl rfl rfl ?_; refine GO.pickFa rfl rfl (by assumption) rfl ?_; refine GO.assign rfl rfl ?_; refine GO.nil ?_; refine kthen_n ?_; refine G.ret ?_)
            refine KF2.r1 rfl (RV.t rfl) ⟨rfl, rfl⟩ (ImpS.sb ?_)
            (skip; (exact Sb.r))
          · (refine G.seq ?_; refine G.region ?_; refine GO.assign rfl rfl ?_; refine GO.nil ?_; refine kthen_n ?_; refine G.seq ?_; refine G.region ?_; refine GO.move rfl rfl ?_; refine GO.gei rfl rfl rfl ?_; refine GO.move rfl rfl ?_; refine GO.gF rfl rfl rfl (by assumption) ?_; refine GO.gF rfl rfl rfl (by assumption) ?_; refine GO.pickFa rfl rfl (by assumption) rfl ?_; refine GO.move rfl rfl ?_; refine GO.gT rfl rfl rfl ?_; refine GO.move rfl rfl ?_; refine GO.gT rfl rfl rfl ?_; refine GO.gei rfl rfl rfl ?_; refine GO.gT rfl rfl rfl ?_; refine GO.move rfl rfl ?_; refine GO.gT rfl rfl (by assumption) ?_; refine GO.move rfl rfl ?_; refine GO.gT rfl rfl (by assumption) ?_; refine GO.lei rfl rfl rfl ?_; refine GO.gT rfl rfl rfl ?_; refine GO.pickTa rfl rfl (by assumption) rfl ?_; refine GO.pickF rfl rfl rfl ?_; refine GO.move rfl rfl ?_; refine GO.gT rfl rfl (by assumption) ?_; refine GO.move rfl rfl ?_; refine GO.gT rfl rfl (by assumption) ?_; refine GO.gei rfl rfl rfl ?_; refine GO.gT rfl rfl (by assumption) ?_; refine GO.move rfl rfl ?_; refine GO.gT rfl rfl (by assumption) ?_; refine GO.move rfl rfl ?_; refine GO.gT rfl rfl (by assumption) ?_; refine GO.lei rfl rfl rfl ?_; refine GO.gT rfl rfl (by assumption) ?_; refine GO.pickTa rfl rfl (by assumption) rfl ?_; refine GO.pickFa rfl rfl (by assumption) rfl ?_; refine GO.move rfl rfl ?_; refine GO.gF rfl rfl rfl (by assumption) ?_; refine GO.gF rfl rfl rfl (by assumption) ?_; refine GO.pickTa rfl rfl (by assumption) rfl ?_; refine GO.assign rfl rfl ?_; refine GO.nil ?_; refine kthen_n ?_; refine G.ret ?_)
            refine KF2.r1 rfl (RV.t rfl) ⟨rfl, rfl⟩ (ImpS.sb ?_)
            (skip; (exact Sb.r))
      · (refine G.seq ?_; refine G.region ?_; refine GO.assign rfl rfl ?_; refine GO.nil ?_; refine kthen_n ?_; refine G.seq ?_; refine G.region ?_; refine GO.move rfl rfl ?_; refine GO.gei rfl rfl rfl ?_; refine GO.move rfl rfl ?_; refine GO.gF rfl rfl rfl (by assumption) ?_; refine GO.gF rfl rfl rfl (by assumption) ?_; refine GO.pickFa rfl rfl (by assumption) rfl ?_; refine GO.move rfl rfl ?_; refine GO.gT rfl rfl rfl ?_; refine GO.move rfl rfl ?_; refine GO.gT rfl rfl rfl ?_; refine GO.gei rfl rfl rfl ?_; refine GO.gT rfl rfl rfl ?_; refine GO.move rfl rfl ?_; refine GO.gT rfl rfl (by assumption) ?_; refine GO.move rfl rfl ?_; refine GO.gT rfl rfl (by assumption) ?_; refine GO.lei rfl rfl rfl ?_; refine GO.gT rfl rfl rfl ?_; refine GO.pickTa rfl rfl (by assumption) rfl ?_; refine GO.pickF rfl rfl rfl ?_; refine GO.move rfl rfl ?_; refine GO.gF rfl rfl rfl (by assumption) ?_; refine GO.gF rfl rfl rfl (by assumption) ?_; refine GO.gF rfl rfl rfl (by assumption) ?_; refine GO.gU rfl rfl rfl ?_; refine GO.gU rfl rfl rfl ?_; refine GO.gF rfl rfl rfl (by assumption) ?_; refine GO.pickTa rfl rfl (by assumption) rfl ?_; refine GO.move rfl rfl ?_; refine GO.gF rfl rfl rfl rfl ?_; refine GO.gF rfl rfl rfl rfl ?_; refine GO.pickT rfl rfl rfl ?_; refine GO.assign rfl rfl ?_; refine GO.nil ?_; refine kthen_n ?_; refine G.ret ?_)
        refine KF2.r1 rfl (RV.t rfl) ⟨rfl, rfl⟩ (ImpS.sb ?_)
        (skip; (exact Sb.r))
  · cases e2 : decide ((b.toNat : Int) ≤ 122)
    · cases e3 : decide (65 ≤ (b.toNat : Int))
      · cases e5 : decide (48 ≤ (b.toNat : Int))
        · (refine G.seq ?_; refine G.region ?_; refine GO.assign rfl rfl ?_; refine GO.nil ?_; refine kthen_n ?_; refine G.seq ?_; refine G.region ?_; refine GO.move rfl rfl ?_; refine GO.gei rfl rfl rfl ?_; refine GO.move rfl rfl ?_; refine GO.gT rfl rfl (by assumption) ?_; refine GO.move rfl rfl ?_; refine GO.gT rfl rfl (by assumption) ?_; refine GO.lei rfl rfl rfl ?_; refine GO.pickTa rfl rfl (by assumption) rfl ?_; refine GO.move rfl rfl ?_; refine GO.gT rfl rfl (by assumption) ?_; refine GO.move rfl rfl ?_; refine GO.gT rfl rfl (by assumption) ?_; refine GO.gei rfl rfl rfl ?_; refine GO.gT rfl rfl (by assumption) ?_; refine GO.move rfl rfl ?_; refine GO.gF rfl rfl rfl (by assumption) ?_; refine GO.gF rfl rfl rfl (by assumption) ?_; refine GO.gT rfl rfl (by assumption) ?_; refine GO.pickFa rfl rfl (by assumption) rfl ?_; refine GO.pickFa rfl rfl (by assumption) rfl ?_; refine GO.move rfl rfl ?_; refine GO.gT rfl rfl rfl ?_; refine GO.move rfl rfl ?_; refine GO.gT rfl rfl rfl ?_; refine GO.gei rfl rfl rfl ?_; refine GO.gT rfl rfl rfl ?_; refine GO.move rfl rfl ?_; refine GO.gF rfl rfl rfl (by assumption) ?_; refine GO.gF rfl rfl rfl (by assumption) ?_; refine GO.gT rfl rfl rfl ?_; refine GO.pickFa rfl rfl (by assumption) rfl ?_; refine GO.pickF rfl rfl rfl ?_; refine GO.move rfl rfl ?_; refine GO.gT rfl rfl rfl ?_; refine GO.move rfl rfl ?_; refine GO.gT rfl rfl rfl ?_; refine GO.eqi rfl rfl rfl ?_; refine GO.pickF rfl rfl rfl ?_; refine GO.assign rfl rfl ?_; refine GO.nil ?_; refine kthen_n ?_; refine G.ret ?_)
          refine KF2.r1 rfl (RV.t rfl) ⟨rfl, rfl⟩ (ImpS.sb ?_)
          (skip; (exact Sb.r))
        · cases e6 : decide ((b.toNat : Int) ≤ 57)
          · (refine G.seq ?_; refine G.region ?_; refine GO.assign rfl rfl ?_; refine GO.nil ?_; refine kthen_n ?_; refine G.seq ?_; refine G.region ?_; refine GO.move rfl rfl ?_; refine GO.gei rfl rfl rfl ?_; refine GO.move rfl rfl ?_; refine GO.gT rfl rfl (by assumption) ?_; refine GO.move rfl rfl ?_; refine GO.gT rfl rfl (by assumption) ?_; refine GO.lei rfl rfl rfl ?_; refine GO.pickTa rfl rfl (by assumption) rfl ?_; refine GO.move rfl rfl ?_; refine GO.gT rfl rfl (by assumption) ?_; refine GO.move rfl rfl ?_; refine GO.gT rfl rfl (by assumption) ?_; refine GO.gei rfl rfl rfl ?_; refine GO.gT rfl rfl (by assumption) ?_; refine GO.move rfl rfl ?_; refine GO.gF rfl rfl rfl (by assumption) ?_; refine GO.gF rfl rfl rfl (by assumption) ?_; refine GO.gT rfl rfl (by assumption) ?_; refine GO.pickFa rfl rfl (by assumption) rfl ?_; refine GO.pickFa rfl rfl (by assumption) rfl ?_; refine GO.move rfl rfl ?_; refine GO.gT rfl rfl rfl ?_; refine GO.move rfl rfl ?_; refine GO.gT rfl rfl rfl ?_; refine GO.gei rfl rfl rfl ?_; refine GO.gT rfl rfl rfl ?_; refine GO.move rfl rfl ?_; refine GO.gT rfl rfl (by assumption) ?_; refine GO.move rfl rfl ?_; refine GO.gT rfl rfl (by assumption) ?_; refine GO.lei rfl rfl rfl ?_; refine GO.gT rfl rfl rfl ?_; refine GO.pickTa rfl rfl (by assumption) rfl ?_; refine GO.pickF rfl rfl rfl ?_; refine GO.move rfl rfl ?_; refine GO.gT rfl rfl (by assumption) ?_; refine GO.move rfl rfl ?_; refine GO.gT rfl rfl (by assumption) ?_; refine GO.eqi rfl rfl rfl ?_; refine GO.pickFa rfl rfl (by assumption) rfl ?_; refine GO.assign rfl rfl ?_; refine GO.nil ?_; refine kthen_n ?_; refine G.ret ?_)
            refine KF2.r1 rfl (RV.t rfl) ⟨rfl, rfl⟩ (ImpS.sb ?_)
            (skip; (exact Sb.r))
          · (refine G.seq ?_; refine G.region ?_; refine GO.assign rfl rfl ?_; refine GO.nil ?_; refine kthen_n ?_; refine G.seq ?_; refine G.region ?_; refine GO.move rfl rfl ?_; refine GO.gei rfl rfl rfl ?_; refine GO.move rfl rfl ?_; refine GO.gT rfl rfl (by assumption) ?_; refine GO.move rfl rfl ?_; refine GO.gT rfl rfl (by assumption) ?_; refine GO.lei rfl rfl rfl ?_; refine GO.pickTa rfl rfl (by assumption) rfl ?_; refine GO.move rfl rfl ?_; refine GO.gT rfl rfl (by assumption) ?_; refine GO.move rfl rfl ?_; refine GO.gT rfl rfl (by assumption) ?_; refine GO.gei rfl rfl rfl ?_; refine GO.gT rfl rfl (by assumption) ?_; refine GO.move rfl rfl ?_; refine GO.gF rfl rfl rfl (by assumption) ?_; refine GO.gF rfl rfl rfl (by assumption) ?_; refine GO.gT rfl rfl (by assumption) ?_; refine GO.pickFa rfl rfl (by assumption) rfl ?_; refine GO.pickFa rfl rfl (by assumption) rfl ?_; refine GO.move rfl rfl ?_; refine GO.gT rfl rfl rfl ?_; refine GO.move rfl rfl ?_; refine GO.gT rfl rfl rfl ?_; refine GO.gei rfl rfl rfl ?_; refine GO.gT rfl rfl rfl ?_; refine GO.move rfl rfl ?_; refine GO.gT rfl rfl (by assumption) ?_; refine GO.move rfl rfl ?_; refine GO.gT rfl rfl (by assumption) ?_; refine GO.lei rfl rfl rfl ?_; refine GO.gT rfl rfl rfl ?_; refine GO.pickTa rfl rfl (by assumption) rfl ?_; refine GO.pickF rfl rfl rfl ?_; refine GO.move rfl rfl ?_; refine GO.gF rfl rfl rfl (by assumption) ?_; refine GO.gF rfl rfl rfl (by assumption) ?_; refine GO.pickTa rfl rfl (by assumption) rfl ?_; refine GO.assign rfl rfl ?_; refine GO.nil ?_; refine kthen_n ?_; refine G.ret ?_)
            refine KF2.r1 rfl (RV.t rfl) ⟨rfl, rfl⟩ (ImpS.sb ?_)
            (skip; (exact Sb.r))
      · cases e4 : decide ((b.toNat : Int) ≤ 90)
        · cases e5 : decide (48 ≤ (b.toNat : Int))
          · (refine G.seq ?_; refine G.region ?_; refine GO.assign rfl rfl ?_; refine GO.nil ?_; refine kthen_n ?_; refine G.seq ?_; refine G.region ?_; refine GO.move rfl rfl ?_; refine GO.gei rfl rfl rfl ?_; refine GO.move rfl rfl ?_; refine GO.gT rfl rfl (by assumption) ?_; refine GO.move rfl rfl ?_; refine GO.gT rfl rfl (by assumption) ?_; refine GO.lei rfl rfl rfl ?_; refine GO.pickTa rfl rfl (by assumption) rfl ?_; refine GO.move rfl rfl ?_; refine GO.gT rfl rfl (by assumption) ?_; refine GO.move rfl rfl ?_; refine GO.gT rfl rfl (by assumption) ?_; refine GO.gei rfl rfl rfl ?_; refine GO.gT rfl rfl (by assumption) ?_; refine GO.move rfl rfl ?_; refine GO.gT rfl rfl (by assumption) ?_; refine GO.move rfl rfl ?_; refine GO.gT rfl rfl (by assumption) ?_; refine GO.lei rfl rfl rfl ?_; refine GO.gT rfl rfl (by assumption) ?_; refine GO.pickTa rfl rfl (by assumption) rfl ?_; refine GO.pickFa rfl rfl (by assumption) rfl ?_; refine GO.move rfl rfl ?_; refine GO.gT rfl rfl (by assumption) ?_; refine GO.move rfl rfl ?_; refine GO.gT rfl rfl (by assumption) ?_; refine GO.gei rfl rfl rfl ?_; refine GO.gT rfl rfl (by assumption) ?_; refine GO.move rfl rfl ?_; refine GO.gF rfl rfl rfl (by assumption) ?_; refine GO.gF rfl rfl rfl (by assumption) ?_; refine GO.gT rfl rfl (by assumption) ?_; refine GO.pickFa rfl rfl (by assumption) rfl ?_; refine GO.pickFa rfl rfl (by assumption) rfl ?_; refine GO.move rfl rfl ?_; refine GO.gT rfl rfl rfl ?_; refine GO.move rfl rfl ?_; refine GO.gT rfl rfl rfl ?_; refine GO.eqi rfl rfl rfl ?_; refine GO.pickF rfl rfl rfl ?_; refine GO.assign rfl rfl ?_; refine GO.nil ?_; refine kthen_n ?_; refine G.ret ?_)
            refine KF2.r1 rfl (RV.t rfl) ⟨rfl, rfl⟩ (ImpS.sb ?_)
            (skip; (exact Sb.r))
          · cases e6 : decide ((b.toNat : Int) ≤ 57)
            · (refine G.seq ?_; refine G.region ?_; refine GO.assign rfl rfl ?_; refine GO.nil ?_; refine kthen_n ?_; refine G.seq ?_; refine G.region ?_; refine GO.move rfl rfl ?_; refine GO.gei rfl rfl rfl ?_; refine GO.move rfl rfl ?_; refine GO.gT rfl rfl (by assumption) ?_; refine GO.move rfl rfl ?_; refine GO.gT rfl rfl (by assumption) ?_; refine GO.lei rfl rfl rfl ?_; refine GO.pickTa rfl rfl (by assumption) rfl ?_; refine GO.move rfl rfl ?_; refine GO.gT rfl rfl (by assumption) ?_; refine GO.move rfl rfl ?_; refine GO.gT rfl rfl (by assumption) ?_; refine GO.gei rfl rfl rfl ?_; refine GO.gT rfl rfl (by assumption) ?_; refine GO.move rfl rfl ?_; refine GO.gT rfl rfl (by assumption) ?_; refine GO.move rfl rfl ?_; refine GO.gT rfl rfl (by assumption) ?_; refine GO.lei rfl rfl rfl ?_; refine GO.gT rfl rfl (by assumption) ?_; refine GO.pickTa rfl rfl (by assumption) rfl ?_; refine GO.pickFa rfl rfl (by assumption) rfl ?_; refine GO.move rfl rfl ?_; refine GO.gT rfl rfl (by assumption) ?_; refine GO.move rfl rfl ?_; refine GO.gT rfl rfl (by assumption) ?_; refine GO.gei rfl rfl rfl ?_; refine GO.gT rfl rfl (by assumption) ?_; refine GO.move rfl rfl ?_; refine GO.gT rfl rfl (by assumption) ?_; refine GO.move rfl rfl ?_; refine GO.gT rfl rfl (by assumption) ?_; refine GO.lei rfl rfl rfl ?_; refine GO.gT rfl rfl (by assumption) ?_; refine GO.pickTa rfl rfl (by assumption) rfl ?_; refine GO.pickFa rfl rfl (by assumption) rfl ?_; refine GO.move rfl rfl ?_; refine GO.gT rfl rfl (by assumption) ?_; refine GO.move rfl rfl ?_; refine GO.gT rfl rfl (by assumption) ?_; refine GO.eqi rfl rfl rfl ?_; refine GO.pickFa rfl rfl (by assumption) rfl ?_; refine GO.assign rfl rfl ?_; refine GO.nil ?_; refine kthen_n ?_; refine G.ret ?_)
              refine KF2.r1 rfl (RV.t rfl) ⟨rfl, rfl⟩ (ImpS.sb ?_)
              (skip; (exact Sb.r))
            · (refine G.seq ?_; refine G.region ?_; refine GO.assign rfl rfl ?_; refine GO.nil ?_; refine kthen_n ?_; refine G.seq ?_; refine G.region ?_; refine GO.move rfl rfl ?_; refine GO.gei rfl rfl rfl ?_; refine GO.move rfl rfl ?_; refine GO.gT rfl rfl (by assumption) ?_; refine GO.move rfl rfl ?_; refine GO.gT rfl rfl (by assumption) ?_; refine GO.lei rfl rfl rfl ?_; refine GO.pickTa rfl rfl (by assumption) rfl ?_; refine GO.move rfl rfl ?_; refine GO.gT rfl rfl (by assumption) ?_; refine GO.move rfl rfl ?_; refine GO.gT rfl rfl (by assumption) ?_; refine GO.gei rfl rfl rfl ?_; refine GO.gT rfl rfl (by assumption) ?_; refine GO.move rfl rfl ?_; refine GO.gT rfl rfl (by assumption) ?_; refine GO.move rfl rfl ?_; refine GO.gT rfl rfl (by assumption) ?_; refine GO.lei rfl rfl rfl ?_; refine GO.gT rfl rfl (by assumption) ?_; refine GO.pickTa rfl rfl (by assumption) rfl ?_; refine GO.pickFa rfl rfl (by assumption) rfl ?_; refine GO.move rfl rfl ?_; refine GO.gT rfl rfl (by assumption) ?_; refine GO.move rfl rfl ?_; refine GO.gT rfl rfl (by assumption) ?_; refine GO.gei rfl rfl rfl ?_; refine GO.gT rfl rfl (by assumption) ?_; refine GO.move rfl rfl ?_; refine GO.gT rfl rfl (by assumption) ?_; refine GO.move rfl rfl ?_; refine GO.gT rfl rfl (by assumption) ?_; refine GO.lei rfl rfl rfl ?_; refine GO.gT rfl rfl (by assumption) ?_; refine GO.pickTa rfl rfl (by assumption) rfl ?_; refine GO.pickFa rfl rfl (by assumption) rfl ?_; refine GO.move rfl rfl ?_; refine GO.gF rfl rfl rfl (by assumption) ?_; refine GO.gF rfl rfl rfl (by assumption) ?_; refine GO.pickTa rfl rfl (by assumption) rfl ?_; refine GO.assign rfl rfl ?_; refine GO.nil ?_; refine kthen_n ?_; refine G.ret ?_)
              refine KF2.r1 rfl (RV.t rfl) ⟨rfl, rfl⟩ (ImpS.sb ?_)
              (skip; (exact Sb.r))
        · (refine G.seq ?_; refine G.region ?_; refine GO.assign rfl rfl ?_; refine GO.nil ?_; refine kthen_n ?_; refine G.seq ?_; refine G.region ?_; refine GO.move rfl rfl ?_; refine GO.gei rfl rfl rfl ?_; refine GO.move rfl rfl ?_; refine GO.gT rfl rfl (by assumption) ?_; refine GO.move rfl rfl ?_; refine GO.gT rfl rfl (by assumption) ?_; refine GO.lei rfl rfl rfl ?_; refine GO.pickTa rfl rfl (by assumption) rfl ?_; refine GO.move rfl rfl ?_; refine GO.gT rfl rfl (by assumption) ?_; refine GO.move rfl rfl ?_; refine GO.gT rfl rfl (by assumption) ?_; refine GO.gei rfl rfl rfl ?_; refine GO.gT rfl rfl (by assumption) ?_; refine GO.move rfl rfl ?_; refine GO.gT rfl rfl (by assumption) ?_; refine GO.move rfl rfl ?_; refine GO.gT rfl rfl (by assumption) ?_; refine GO.lei rfl rfl rfl ?_; refine GO.gT rfl rfl (by assumption) ?_; refine GO.pickTa rfl rfl (by assumption) rfl ?_; refine GO.pickFa rfl rfl (by assumption) rfl ?_; refine GO.move rfl rfl ?_; refine GO.gF rfl rfl rfl (by assumption) ?_; refine GO.gF rfl rfl rfl (by assumption) ?_; refine GO.gF rfl rfl rfl (by assumption) ?_; refine GO.gU rfl rfl rfl ?_; refine GO.gU rfl rfl rfl ?_; refine GO.gF rfl rfl rfl (by assumption) ?_; refine GO.pickTa rfl rfl (by assumption) rfl ?_; refine GO.move rfl rfl ?_; refine GO.gF rfl rfl rfl rfl ?_; refine GO.gF rfl rfl rfl rfl ?_; refine GO.pickT rfl rfl rfl ?_; refine GO.assign rfl rfl ?_; refine GO.nil ?_; refine kthen_n ?_; refine G.ret ?_)
          refine KF2.r1 rfl (RV.t rfl) ⟨rfl, rfl⟩ (ImpS.sb ?_)
          (skip; (exact Sb.r))
    · (refine G.seq ?_; refine G.region ?_; refine GO.assign rfl rfl ?_; refine GO.nil ?_; refine kthen_n ?_; refine G.seq ?_; refine G.region ?_; refine GO.move rfl rfl ?_; refine GO.gei rfl rfl rfl ?_; refine GO.move rfl rfl ?_; refine GO.gT rfl rfl (by assumption) ?_; refine GO.move rfl rfl ?_; refine GO.gT rfl rfl (by assumption) ?_; refine GO.lei rfl rfl rfl ?_; refine GO.pickTa rfl rfl (by assumption) rfl ?_; refine GO.move rfl rfl ?_; refine GO.gF rfl rfl rfl (by assumption) ?_; refine GO.gF rfl rfl rfl (by assumption) ?_; refine GO.gF rfl rfl rfl (by assumption) ?_; refine GO.gU rfl rfl rfl ?_; refine GO.gU rfl rfl rfl ?_; refine GO.gF rfl rfl rfl (by assumption) ?_; refine GO.pickTa rfl rfl (by assumption) rfl ?_; refine GO.move rfl rfl ?_; refine GO.gF rfl rfl rfl rfl ?_; refine GO.gF rfl rfl rfl rfl ?_; refine GO.gF rfl rfl rfl rfl ?_; refine GO.gU rfl rfl rfl ?_; refine GO.gU rfl rfl rfl ?_; refine GO.gF rfl rfl rfl rfl ?_; refine GO.pickT rfl rfl rfl ?_; refine GO.move rfl rfl ?_; refine GO.gF rfl rfl rfl rfl ?_; refine GO.gF rfl rfl rfl rfl ?_; refine GO.pickT rfl rfl rfl ?_; refine GO.assign rfl rfl ?_; refine GO.nil ?_; refine kthen_n ?_; refine G.ret ?_)
      refine KF2.r1 rfl (RV.t rfl) ⟨rfl, rfl⟩ (ImpS.sb ?_)
      (skip; (exact Sb.r))
theorem all_dropB {p : UInt8 → Bool} {l : List UInt8} {i : Nat} {x : UInt8} (h : l[i]? = some x) : (l.drop i).all p = (p x && (l.drop (i + 1)).all p) := by rw [drop_at h, List.all_cons]
attribute [local irreducible] letterB
set_option maxHeartbeats 8000000 in
theorem name_spec (s : List UInt8) : Fn Tryz.prog 74 #[str s] [] (fun r Q => r = .bool (nameF s) ∧ Q = []) := by
  refine Fn.mk2 Tryz.func74 rfl rfl fun w0 F => ?_
  unfold nameF
  by_cases h1 : 1 ≤ s.length
  · have d1 : decide ((s.length : Int) < 1) = false := decide_eq_false (by omega)
    rw [decide_eq_true h1, Bool.true_and]
    by_cases h2 : s.length ≤ 16
    · have d2 : decide ((16 : Int) < (s.length : Int)) = false := decide_eq_false (by omega)
      rw [decide_eq_true h2, Bool.true_and]
      generalize hres : s.all letterB = res
      (refine G.seq ?_; refine G.region ?_; refine GO.assign rfl rfl ?_; refine GO.nil ?_; refine kthen_n ?_; refine G.seq ?_; refine G.seq ?_; refine G.region ?_; refine GO.move rfl rfl ?_; refine GO.strLen rfl rfl ?_; refine GO.lti rfl rfl rfl ?_; refine GO.move rfl rfl ?_; refine GO.gT rfl rfl (by assumption) ?_; refine GO.move rfl rfl ?_; refine GO.gT rfl rfl (by assumption) ?_; refine GO.strLen rfl rfl ?_; refine GO.gT rfl rfl (by assumption) ?_; refine GO.gti rfl rfl rfl ?_; refine GO.pickFa rfl rfl (by assumption) rfl ?_; refine GO.nil ?_; refine kthen_n ?_; refine G.condF rfl (by assumption) ?_; refine G.skip ?_; refine kthen_n ?_; refine G.seq ?_; refine G.seq ?_; refine G.region ?_; refine GO.assign rfl rfl ?_; refine GO.nil ?_; refine kthen_n ?_; refine G.block ?_)
      refine G.loopI (σ := Nat) (fun k => [(0, str s), (3, i64 (k : Nat))]) (fun _ => F) (fun k => k ≤ s.length ∧ (s.drop k).all letterB = res) (fun k => s.length - k) 0 ⟨Nat.zero_le _, hres⟩ ?_ ?_ ?_
      · (refine SubE.c rfl rfl ?_; refine SubE.c rfl rfl ?_; exact SubE.n)
      · refine ImpS.sb ?_
        (skip; (exact Sb.r))
      clear hres
      rintro k ⟨hk, hp⟩
      (refine G.seq ?_; refine G.seq ?_; refine G.region ?_; refine GO.move rfl rfl ?_; refine GO.move rfl rfl ?_; refine GO.strLen rfl rfl ?_; refine GO.lti rfl rfl rfl ?_; refine GO.nil ?_; refine kthen_n ?_)
      by_cases hlt : k < s.length
      · have d3 : decide ((k : Int) < (s.length : Int)) = true := decide_eq_true (by omega)
        obtain ⟨x, hx⟩ : ∃ x, s[k]? = some x := ⟨_, List.getElem?_eq_getElem hlt⟩
        rw [all_dropB hx] at hp
        (refine G.condT rfl (by assumption) ?_; refine G.skip ?_; refine kthen_n ?_; refine G.seq ?_; refine G.block ?_; refine G.seq ?_; refine G.region ?_; refine GO.move rfl rfl ?_; refine GO.move rfl rfl ?_; refine GO.strIdx rfl rfl rfl rfl (by assumption) ?_)
        refine GO.call1 rfl rfl (letter_spec x) Tks.n ?_
        rintro _ _ ⟨rfl, rfl⟩
        cases hl : letterB x
        · rw [hl, Bool.false_and] at hp
          subst hp
          (refine GO.not rfl rfl ?_; refine GO.nil ?_; refine kthen_n ?_; refine G.condT rfl rfl ?_; refine G.seq ?_; refine G.region ?_; refine GO.assign rfl rfl ?_; refine GO.nil ?_; refine kthen_n ?_; refine G.ret ?_; refine kblock_r ?_; refine kthen_r ?_; refine kthen_r ?_; refine kblock_r ?_; refine kthen_r ?_)
          refine KF2.r1 rfl (RV.t rfl) ⟨rfl, rfl⟩ (ImpS.sb ?_)
          (skip; (exact Sb.r))
        · rw [hl, Bool.true_and] at hp
          (refine GO.not rfl rfl ?_; refine GO.nil ?_; refine kthen_n ?_; refine G.condF rfl rfl ?_; refine G.skip ?_; refine kblock_n ?_; refine kthen_n ?_; refine G.region ?_; refine GO.move rfl rfl ?_; refine GO.addi rfl rfl rfl (by omega) ?_; refine GO.assign rfl rfl ?_; refine GO.nil ?_; refine kthen_n ?_)
          refine ⟨k + 1, ⟨hlt, hp⟩, by omega, ?_, ImpS.sb ?_⟩
          · (refine SubE.c rfl rfl ?_; refine SubE.c rfl rfl ?_; exact SubE.n)
          · (skip; (exact Sb.r))
      · have d3 : decide ((k : Int) < (s.length : Int)) = false := decide_eq_false (by omega)
        rw [List.drop_eq_nil_of_le (by omega)] at hp
        subst hp
        (refine G.condF rfl (by assumption) ?_; refine G.exit ?_; refine kthen_x ?_; refine kthen_x ?_; refine kblock_x ?_; refine kthen_n ?_; refine G.seq ?_; refine G.region ?_; refine GO.assign rfl rfl ?_; refine GO.nil ?_; refine kthen_n ?_; refine G.ret ?_)
        refine KF2.r1 rfl (RV.t rfl) ⟨rfl, rfl⟩ (ImpS.sb ?_)
        (skip; (exact Sb.r))
    · have d2 : decide ((16 : Int) < (s.length : Int)) = true := decide_eq_true (by omega)
      rw [decide_eq_false h2, Bool.false_and]
      (refine G.seq ?_; refine G.region ?_; refine GO.assign rfl rfl ?_; refine GO.nil ?_; refine kthen_n ?_; refine G.seq ?_; refine G.seq ?_; refine G.region ?_; refine GO.move rfl rfl ?_; refine GO.strLen rfl rfl ?_; refine GO.lti rfl rfl rfl ?_; refine GO.move rfl rfl ?_; refine GO.gT rfl rfl (by assumption) ?_; refine GO.move rfl rfl ?_; refine GO.gT rfl rfl (by assumption) ?_; refine GO.strLen rfl rfl ?_; refine GO.gT rfl rfl (by assumption) ?_; refine GO.gti rfl rfl rfl ?_; refine GO.pickFa rfl rfl (by assumption) rfl ?_; refine GO.nil ?_; refine kthen_n ?_; refine G.condT rfl (by assumption) ?_; refine G.seq ?_; refine G.region ?_; refine GO.assign rfl rfl ?_; refine GO.nil ?_; refine kthen_n ?_; refine G.ret ?_; refine kthen_r ?_)
      refine KF2.r1 rfl (RV.t rfl) ⟨rfl, rfl⟩ (ImpS.sb ?_)
      (skip; (exact Sb.r))
  · have d1 : decide ((s.length : Int) < 1) = true := decide_eq_true (by omega)
    rw [decide_eq_false h1, Bool.false_and]
    (refine G.seq ?_; refine G.region ?_; refine GO.assign rfl rfl ?_; refine GO.nil ?_; refine kthen_n ?_; refine G.seq ?_; refine G.seq ?_; refine G.region ?_; refine GO.move rfl rfl ?_; refine GO.strLen rfl rfl ?_; refine GO.lti rfl rfl rfl ?_; refine GO.move rfl rfl ?_; refine GO.gF rfl rfl rfl (by assumption) ?_; refine GO.gF rfl rfl rfl (by assumption) ?_; refine GO.gF rfl rfl rfl (by assumption) ?_; refine GO.pickTa rfl rfl (by assumption) rfl ?_; refine GO.nil ?_; refine kthen_n ?_; refine G.condT rfl rfl ?_; refine G.seq ?_; refine G.region ?_; refine GO.assign rfl rfl ?_; refine GO.nil ?_; refine kthen_n ?_; refine G.ret ?_; refine kthen_r ?_)
    refine KF2.r1 rfl (RV.t rfl) ⟨rfl, rfl⟩ (ImpS.sb ?_)
    (skip; (exact Sb.r))
attribute [local irreducible] nameF
set_option maxHeartbeats 8000000 in
theorem label_spec (s : List UInt8) : Fn Tryz.prog 75 #[str s] [] (fun r Q => r = .bool (labelF s) ∧ Q = []) := by
  refine Fn.mk2 Tryz.func75 rfl rfl fun w0 F => ?_
  cases s with
  | nil =>
    rw [show labelF [] = false from rfl]
    have hn : nameF [] = false := by unfold nameF; rfl
    (refine G.seq ?_; refine G.region ?_; refine GO.assign rfl rfl ?_; refine GO.nil ?_; refine kthen_n ?_; refine G.seq ?_; refine G.region ?_; refine GO.move rfl rfl ?_)
    refine GO.call1 rfl rfl (name_spec []) Tks.n ?_
    rintro _ _ ⟨rfl, rfl⟩
    (refine GO.move rfl rfl ?_; refine GO.gF rfl rfl rfl (by assumption) ?_; refine GO.gF rfl rfl rfl (by assumption) ?_; refine GO.gF rfl rfl rfl (by assumption) ?_; refine GO.pickFa rfl rfl (by assumption) rfl ?_; refine GO.move rfl rfl ?_; refine GO.gF rfl rfl rfl rfl ?_; refine GO.gF rfl rfl rfl rfl ?_; refine GO.gF rfl rfl rfl rfl ?_; refine GO.pickF rfl rfl rfl ?_; refine GO.assign rfl rfl ?_; refine GO.nil ?_; refine kthen_n ?_; refine G.ret ?_)
    refine KF2.r1 rfl (RV.t rfl) ⟨rfl, rfl⟩ (ImpS.sb ?_)
    (skip; (exact Sb.r))
  | cons b0 s0 =>
    have hb0 : (b0 :: s0)[0]? = some b0 := rfl
    rw [show labelF (b0 :: s0) = (nameF (b0 :: s0) && lowerB b0) from rfl]
    generalize b0 :: s0 = s at *
    unfold lowerB
    (refine G.seq ?_; refine G.region ?_; refine GO.assign rfl rfl ?_; refine GO.nil ?_; refine kthen_n ?_; refine G.seq ?_; refine G.region ?_; refine GO.move rfl rfl ?_)
    refine GO.call1 rfl rfl (name_spec s) Tks.n ?_
    rintro _ _ ⟨rfl, rfl⟩
    cases hn : nameF s
    · (refine GO.move rfl rfl ?_; refine GO.gF rfl rfl rfl rfl ?_; refine GO.gF rfl rfl rfl rfl ?_; refine GO.gF rfl rfl rfl rfl ?_; refine GO.pickF rfl rfl rfl ?_; refine GO.move rfl rfl ?_; refine GO.gF rfl rfl rfl rfl ?_; refine GO.gF rfl rfl rfl rfl ?_; refine GO.gF rfl rfl rfl rfl ?_; refine GO.pickF rfl rfl rfl ?_; refine GO.assign rfl rfl ?_; refine GO.nil ?_; refine kthen_n ?_; refine G.ret ?_)
      refine KF2.r1 rfl (RV.t rfl) ⟨rfl, rfl⟩ (ImpS.sb ?_)
      (skip; (exact Sb.r))
    · cases e1 : decide (97 ≤ (b0.toNat : Int))
      · (refine GO.move rfl rfl ?_; refine GO.gT rfl rfl rfl ?_; refine GO.move rfl rfl ?_; refine GO.gT rfl rfl rfl ?_; refine GO.strIdx rfl rfl rfl rfl (by assumption) ?_; refine GO.gT rfl rfl rfl ?_; refine GO.gei rfl rfl rfl ?_; refine GO.pickT rfl rfl rfl ?_; refine GO.move rfl rfl ?_; refine GO.gF rfl rfl rfl (by assumption) ?_; refine GO.gF rfl rfl rfl (by assumption) ?_; refine GO.gF rfl rfl rfl (by assumption) ?_; refine GO.pickFa rfl rfl (by assumption) rfl ?_; refine GO.assign rfl rfl ?_; refine GO.nil ?_; refine kthen_n ?_; refine G.ret ?_)
        refine KF2.r1 rfl (RV.t rfl) ⟨rfl, rfl⟩ (ImpS.sb ?_)
        (skip; (exact Sb.r))
      · (refine GO.move rfl rfl ?_; refine GO.gT rfl rfl rfl ?_; refine GO.move rfl rfl ?_; refine GO.gT rfl rfl rfl ?_; refine GO.strIdx rfl rfl rfl rfl (by assumption) ?_; refine GO.gT rfl rfl rfl ?_; refine GO.gei rfl rfl rfl ?_; refine GO.pickT rfl rfl rfl ?_; refine GO.move rfl rfl ?_; refine GO.gT rfl rfl (by assumption) ?_; refine GO.move rfl rfl ?_; refine GO.gT rfl rfl (by assumption) ?_; refine GO.strIdx rfl rfl rfl rfl (by assumption) ?_; refine GO.gT rfl rfl (by assumption) ?_; refine GO.lei rfl rfl rfl ?_; refine GO.pickTa rfl rfl (by assumption) rfl ?_; refine GO.assign rfl rfl ?_; refine GO.nil ?_; refine kthen_n ?_; refine G.ret ?_)
        refine KF2.r1 rfl (RV.t rfl) ⟨rfl, rfl⟩ (ImpS.sb ?_)
        (skip; (exact Sb.r))
end Go.Proofs.YtpgfmfbpmkfbjaaGreat
namespace Go.Proofs.YtpgfmfbpmkfbjaaGreat
open Go
/-- An edge. -/
structure EdgeD where
  src : List UInt8
  lab : List UInt8
  dst : List UInt8
  deriving DecidableEq
def edgeVs (x : EdgeD) : List Value := [str x.src, str x.lab, str x.dst]
abbrev edgeA (x : EdgeD) : Value := .agg (edgeVs x).toArray
def edgesV (l : List EdgeD) : List Value := l.flatMap edgeVs
theorem edgesV_len (l : List EdgeD) : (edgesV l).length = l.length * 3 := flatX_len (enc := edgeVs) (fun _ => rfl) l
theorem edgesV_app (l k : List EdgeD) : edgesV (l ++ k) = edgesV l ++ edgesV k := by simp [edgesV]
theorem edgesV_one (l : List EdgeD) : ∀ u ∈ edgesV l, u.oneCell' = true := fun u hu => by
  obtain ⟨x, _, hx⟩ := List.mem_flatMap.1 hu
  simp only [edgeVs, List.mem_cons, List.not_mem_nil, or_false] at hx
  rcases hx with rfl | rfl | rfl <;> rfl
abbrev EdgesR (q : HP) (v : Value) (l : List EdgeD) : Prop := SlK q v l.length 3 (edgesV l)
theorem edges_rd {q : HP} {v : Value} {l : List EdgeD} {i : Nat} {m : EdgeD} (hq : EdgesR q v l) (h : l[i]? = some m) : ∃ b o cap, v = .slice (some ⟨b, o, none⟩) l.length cap ∧ l.length ≤ cap ∧
    (∀ j u, (edgeVs m)[j]? = some u → Rd q ⟨b, o + i * 3 + j, none⟩ u) := by
  obtain ⟨a, cap, rfl, hcap, _, hr⟩ := hq
  have hi := (List.getElem?_eq_some_iff.1 h).1
  obtain ⟨b, o, rfl, hr2⟩ := hr (by omega)
  refine ⟨b, o, cap, rfl, hcap, fun j u hu => ?_⟩
  have hj : j < 3 := (List.getElem?_eq_some_iff.1 hu).1
  rw [Nat.add_assoc]
  exact hr2 _ _ (by unfold edgesV; rw [flatX_get (enc := edgeVs) (k := 3) (fun _ => rfl) h hj]; exact hu)
theorem edges_sl {q : HP} {v : Value} {l : List EdgeD} (hq : EdgesR q v l) : ∃ a cap, v = .slice a l.length cap := let ⟨a, cap, h, _⟩ := hq; ⟨a, cap, h⟩
theorem strsR_sl {q : HP} {v : Value} {l : List (List UInt8)} (hq : StrsR q v l) : ∃ a cap, v = .slice a l.length cap := let ⟨a, cap, h, _⟩ := hq; ⟨a, cap, h⟩
def cmpS (a b : List UInt8) : Int := Lib.compareBytes a b
theorem cmpExt (a b : List UInt8) (w : World) : (callFunc 121 #[str a, str b]).run Tryz.prog w = .ok (.value (.int .i64 (cmpS a b))) w := by
  rw [run_callFunc_extern Tryz.func121 (by kernel_rfl) (by kernel_rfl) (by kernel_rfl) (e := Extern.BytealgCompare.compare) (by kernel_rfl)]
  rw [Lib.run_compareString]
  rfl
/-- The first that is not nought. -/
def orI : List Int → Int
  | [] => 0
  | x :: r => if x = 0 then orI r else x
def orderE (a b : EdgeD) : Int := orI [cmpS a.src b.src, cmpS a.lab b.lab, cmpS a.dst b.dst]
attribute [local irreducible] capN capM G GO GR GT Fn FnX FnV FnXV Dfr pt init exs pur sat own ImpS cmpS
set_option maxHeartbeats 4000000 in
theorem cmpString_spec (a b : List UInt8) : Fn Tryz.prog 102 #[str a, str b] [] (fun r Q => r = .int .i64 (cmpS a b) ∧ Q = []) := by
  refine Fn.mk2 Tryz.func102 rfl rfl fun w0 F => ?_
  (refine G.seq ?_; refine G.region ?_; refine GO.assign rfl rfl ?_; refine GO.nil ?_; refine kthen_n ?_; refine G.seq ?_; refine G.region ?_; refine GO.move rfl rfl ?_; refine GO.move rfl rfl ?_)
  refine GO.callExt2 rfl rfl rfl (cmpExt a b) ?_
  (refine GO.assign rfl rfl ?_; refine GO.nil ?_; refine kthen_n ?_; refine G.ret ?_)
  refine KF2.r1 rfl (RV.t rfl) ⟨rfl, rfl⟩ (ImpS.sb ?_)
  (skip; (exact Sb.r))
set_option maxHeartbeats 4000000 in
theorem compare_spec (a b : List UInt8) : Fn Tryz.prog 78 #[str a, str b] [] (fun r Q => r = .int .i64 (cmpS a b) ∧ Q = []) := by
  refine Fn.mk2 Tryz.func78 rfl rfl fun w0 F => ?_
  (refine G.seq ?_; refine G.region ?_; refine GO.assign rfl rfl ?_; refine GO.nil ?_; refine kthen_n ?_; refine G.seq ?_; refine G.region ?_; refine GO.move rfl rfl ?_; refine GO.move rfl rfl ?_)
  refine GO.call2 rfl rfl rfl (cmpString_spec a b) Tks.n ?_
  rintro _ _ ⟨rfl, rfl⟩
  (refine GO.assign rfl rfl ?_; refine GO.nil ?_; refine kthen_n ?_; refine G.ret ?_)
  refine KF2.r1 rfl (RV.t rfl) ⟨rfl, rfl⟩ (ImpS.sb ?_)
  (skip; (exact Sb.r))
def rowI (l : List Int) : List Value := l.map fun n => .int .i64 n
set_option maxHeartbeats 8000000 in
theorem or_spec (q : HP) (v : Value) (l : List Int) (hq : Sl q v l.length 1 (rowI l)) (hl : ¬ 1048576 < l.length) : Fn Tryz.prog 106 #[v] [q] (fun r Q => r = .int .i64 (orI l) ∧ Q = [q]) := by
  have hrd : ∀ i m, l[i]? = some m → ∃ b o cap, v = .slice (some ⟨b, o, none⟩) l.length cap ∧ Rd q ⟨b, o + i * 1, none⟩ (.int .i64 m) := fun i m h => by
    obtain ⟨a, cap, rfl, _, hr⟩ := hq
    have hi := (List.getElem?_eq_some_iff.1 h).1
    obtain ⟨b, o, rfl, hr2⟩ := hr (by omega)
    exact ⟨b, o, cap, rfl, by rw [Nat.mul_one]; exact hr2 _ _ (by simp [rowI, h])⟩
  obtain ⟨a, cap, rfl, _, _⟩ := hq
  generalize hres : orI l = res
  refine Fn.mk2 Tryz.func106 rfl rfl fun w0 F => ?_
  (refine G.seq ?_; refine G.region ?_; refine GO.assign rfl rfl ?_; refine GO.nil ?_; refine kthen_n ?_; refine G.seq ?_; refine G.region ?_; refine GO.assign rfl rfl ?_; refine GO.nil ?_; refine kthen_n ?_; refine G.seq ?_; refine G.seq ?_; refine G.region ?_; refine GO.move rfl rfl ?_; refine GO.lenS rfl rfl ?_; refine GO.move rfl rfl ?_; refine GO.nil ?_; refine kthen_n ?_; refine G.block ?_)
  refine G.loopI (σ := Nat) (fun i => [(3, i64 0), (6, .slice a l.length cap), (7, i64 (l.length : Nat)), (8, i64 (i : Nat))]) (fun _ => q :: F) (fun i => i ≤ l.length ∧ orI (l.drop i) = res) (fun i => l.length - i) 0 ⟨Nat.zero_le _, hres⟩ ?_ ?_ ?_
  · (refine SubE.c rfl rfl ?_; refine SubE.c rfl rfl ?_; refine SubE.c rfl rfl ?_; refine SubE.c rfl rfl ?_; exact SubE.n)
  · refine ImpS.sb ?_
    ((refine Sb.c Tk.h ?_); (exact Sb.r))
  clear hres
  rintro i ⟨hi, hp⟩
  (refine G.seq ?_; refine G.region ?_; refine GO.lti rfl rfl rfl ?_; refine GO.nil ?_; refine kthen_n ?_; refine G.seq ?_)
  by_cases hlt : i < l.length
  · have d1 : decide ((i : Int) < (l.length : Int)) = true := decide_eq_true (by omega)
    obtain ⟨m, hm⟩ : ∃ m, l[i]? = some m := ⟨_, List.getElem?_eq_getElem hlt⟩
    obtain ⟨b, o, cap2, e, rm⟩ := hrd i m hm
    injection e with e _ e2
    subst e e2
    rw [drop_at hm, orI] at hp
    by_cases h0 : m = 0
    · rw [if_pos h0] at hp
      have d2 : decide (m ≠ 0) = false := decide_eq_false (by omega)
      (refine G.condT rfl (by assumption) ?_; refine G.skip ?_; refine kthen_n ?_; refine G.seq ?_; refine G.block ?_; refine G.seq ?_; refine G.region ?_; refine GO.idxS rfl rfl rfl ⟨rfl, by omega⟩ ?_; refine GO.loadQ rfl rfl rfl Tk.h (by assumption) ?_; refine GO.assign rfl rfl ?_; refine GO.nil ?_; refine kthen_n ?_; refine G.seq ?_; refine G.region ?_; refine GO.move rfl rfl ?_; refine GO.move rfl rfl ?_; refine GO.nei rfl rfl rfl ?_; refine GO.nil ?_; refine kthen_n ?_; refine G.condF rfl (by assumption) ?_; refine G.skip ?_; refine kblock_n ?_; refine kthen_n ?_; refine G.region ?_; refine GO.addi rfl rfl rfl (by omega) ?_; refine GO.move rfl rfl ?_; refine GO.nil ?_; refine kthen_n ?_)
      refine ⟨i + 1, ⟨hlt, hp⟩, by omega, ?_, ImpS.sb ?_⟩
      · (refine SubE.c rfl rfl ?_; refine SubE.c rfl rfl ?_; refine SubE.c rfl rfl ?_; refine SubE.c rfl rfl ?_; exact SubE.n)
      · ((refine Sb.c Tk.h ?_); (exact Sb.r))
    · rw [if_neg h0] at hp
      subst hp
      have d2 : decide (m ≠ 0) = true := decide_eq_true (by omega)
      (refine G.condT rfl (by assumption) ?_; refine G.skip ?_; refine kthen_n ?_; refine G.seq ?_; refine G.block ?_; refine G.seq ?_; refine G.region ?_; refine GO.idxS rfl rfl rfl ⟨rfl, by omega⟩ ?_; refine GO.loadQ rfl rfl rfl Tk.h (by assumption) ?_; refine GO.assign rfl rfl ?_; refine GO.nil ?_; refine kthen_n ?_; refine G.seq ?_; refine G.region ?_; refine GO.move rfl rfl ?_; refine GO.move rfl rfl ?_; refine GO.nei rfl rfl rfl ?_; refine GO.nil ?_; refine kthen_n ?_; refine G.condT rfl (by assumption) ?_; refine G.seq ?_; refine G.region ?_; refine GO.move rfl rfl ?_; refine GO.assign rfl rfl ?_; refine GO.nil ?_; refine kthen_n ?_; refine G.ret ?_; refine kblock_r ?_; refine kthen_r ?_; refine kthen_r ?_; refine kblock_r ?_; refine kthen_r ?_)
      refine KF2.r1 rfl (RV.t rfl) ⟨rfl, rfl⟩ (ImpS.sb ?_)
      ((refine Sb.c Tk.h ?_); (exact Sb.r))
  · have d1 : decide ((i : Int) < (l.length : Int)) = false := decide_eq_false (by omega)
    rw [List.drop_eq_nil_of_le (by omega)] at hp
    subst hp
    (refine G.condF rfl (by assumption) ?_; refine G.exit ?_; refine kthen_x ?_; refine kthen_x ?_; refine kblock_x ?_; refine kthen_n ?_; refine G.seq ?_; refine G.region ?_; refine GO.move rfl rfl ?_; refine GO.assign rfl rfl ?_; refine GO.nil ?_; refine kthen_n ?_; refine G.ret ?_)
    refine KF2.r1 rfl (RV.t rfl) ⟨rfl, rfl⟩ (ImpS.sb ?_)
    ((refine Sb.c Tk.h ?_); (exact Sb.r))
set_option maxHeartbeats 8000000 in
theorem orderE_spec (a b : EdgeD) : Fn Tryz.prog 80 #[edgeA a, edgeA b] [] (fun r Q => r = .int .i64 (orderE a b) ∧ Q = []) := by
  refine Fn.mk2 Tryz.func80 rfl rfl fun w0 F => ?_
  unfold orderE
  (refine G.seq ?_; refine G.region ?_; refine GO.box rfl rfl rfl fun b2 => ?_; refine GO.box rfl rfl rfl fun b3 => ?_; refine GO.assign rfl rfl ?_; refine GO.nil ?_; refine kthen_n ?_; refine G.seq ?_)
  refine G.draw 15 (by kernel_rfl) ?_
  ((apply GQ.step; focus (intro Z; refine GO.fieldAddr rfl rfl ?_; exact KQ.z)); (apply GQ.step; focus (intro Z; refine GO.load1 rfl rfl rfl (Tk.t Tk.h) rfl ?_; exact KQ.z)); (apply GQ.step; focus (intro Z; refine GO.fieldAddr rfl rfl ?_; exact KQ.z)); (apply GQ.step; focus (intro Z; refine GO.load1 rfl rfl rfl Tk.h rfl ?_; exact KQ.z)))
  apply GQ.step; focus (intro Z; refine GO.call2 rfl rfl rfl (compare_spec a.src b.src) Tks.n ?_; rintro _ _ ⟨rfl, rfl⟩; refine GO.nil (KQ.s ?_); ((refine Sb.c Tk.h ?_; refine Sb.c Tk.h ?_); (exact Sb.r)))
  ((apply GQ.step; focus (intro Z; refine GO.fieldAddr rfl rfl ?_; exact KQ.z)); (apply GQ.step; focus (intro Z; refine GO.load1 rfl rfl rfl (Tk.t Tk.h) rfl ?_; exact KQ.z)); (apply GQ.step; focus (intro Z; refine GO.fieldAddr rfl rfl ?_; exact KQ.z)); (apply GQ.step; focus (intro Z; refine GO.load1 rfl rfl rfl Tk.h rfl ?_; exact KQ.z)))
  apply GQ.step; focus (intro Z; refine GO.call2 rfl rfl rfl (compare_spec a.lab b.lab) Tks.n ?_; rintro _ _ ⟨rfl, rfl⟩; refine GO.nil (KQ.s ?_); ((refine Sb.c Tk.h ?_; refine Sb.c Tk.h ?_); (exact Sb.r)))
  ((apply GQ.step; focus (intro Z; refine GO.fieldAddr rfl rfl ?_; exact KQ.z)); (apply GQ.step; focus (intro Z; refine GO.load1 rfl rfl rfl (Tk.t Tk.h) rfl ?_; exact KQ.z)); (apply GQ.step; focus (intro Z; refine GO.fieldAddr rfl rfl ?_; exact KQ.z)); (apply GQ.step; focus (intro Z; refine GO.load1 rfl rfl rfl Tk.h rfl ?_; exact KQ.z)))
  apply GQ.step; focus (intro Z; refine GO.call2 rfl rfl rfl (compare_spec a.dst b.dst) Tks.n ?_; rintro _ _ ⟨rfl, rfl⟩; refine GO.nil (KQ.s ?_); ((refine Sb.c Tk.h ?_; refine Sb.c Tk.h ?_); (exact Sb.r)))
  (refine GQ.nil ?_)
  refine GO.buildSlice3 (n := 1) rfl rfl rfl rfl (fun v hv => by simp only [List.mem_cons, List.not_mem_nil, or_false] at hv; rcases hv with rfl | rfl | rfl <;> rfl) rfl ⟨by decide, by decide⟩ fun bs => ?_
  have h3 : ¬ 1048576 < [cmpS a.src b.src, cmpS a.lab b.lab, cmpS a.dst b.dst].length := by show ¬ 1048576 < 3; decide
  refine GO.ownIn (n := 3) (sz := 1) Tk.h rfl (by decide) ?_
  refine GO.ownRd (n := 3) (sz := 1) Tk.h fun q hq => ?_
  refine GO.call1 rfl rfl (or_spec q _ [cmpS a.src b.src, cmpS a.lab b.lab, cmpS a.dst b.dst] hq h3) (Tks.c Tk.h Tks.n) ?_
  rintro _ _ ⟨rfl, rfl⟩
  (refine GO.assign rfl rfl ?_; refine GO.nil ?_; refine kthen_n ?_; refine G.ret ?_)
  refine KF2.r1 rfl (RV.t rfl) ⟨rfl, rfl⟩ (ImpS.sb ?_)
  (skip; (refine Sb.s ?_; refine Sb.s ?_; refine Sb.s ?_; exact Sb.r))
end Go.Proofs.YtpgfmfbpmkfbjaaGreat
namespace Go.Proofs.YtpgfmfbpmkfbjaaGreat
open Go
/-- Each stands behind the one ahead of it. -/
def risL {α : Type} (cf : α → α → Int) : List α → Bool
  | x :: y :: r => if 0 ≤ cf x y then false else risL cf (y :: r)
  | _ => true
theorem risL_drop {α : Type} {cf : α → α → Int} {l : List α} {i : Nat} {x y : α} (h : l[i]? = some x) (h' : l[i + 1]? = some y) : risL cf (l.drop i) = if 0 ≤ cf x y then false else risL cf (l.drop (i + 1)) := by
  rw [drop_at h, drop_at h']; rfl
theorem risL_end {α : Type} {cf : α → α → Int} {l : List α} {i : Nat} (h : l.length ≤ i + 1) : risL cf (l.drop i) = true := by
  have hd : (l.drop i).length ≤ 1 := by rw [List.length_drop]; omega
  match hl : l.drop i, hd with
  | [], _ => rfl
  | [x], _ => rfl
  | x :: y :: r, hd => simp at hd
theorem strsK_rd {q : HP} {v : Value} {l : List (List UInt8)} {i : Nat} {x : List UInt8} (hq : StrsR q v l) (h : l[i]? = some x) : ∃ b o cap, v = .slice (some ⟨b, o, none⟩) l.length cap ∧ Rd q ⟨b, o + i * 1, none⟩ (str x) := let ⟨b, o, cap, h1, _, h3⟩ := strs_rd hq h; ⟨b, o, cap, h1, h3⟩
attribute [local irreducible] capN capM G GO GR GT Fn FnX FnV FnXV Dfr pt init exs pur sat own ImpS cmpS orderE
set_option maxHeartbeats 16000000 in
theorem risS_spec (q : HP) (v : Value) (l : List (List UInt8)) (hq : StrsR q v l) (hl : ¬ 1048576 < l.length) : Fn Tryz.prog 81 #[v, fnC 78] [q] (fun r Q => r = .bool (risL cmpS l) ∧ Q = [q]) := by
  have hrd : ∀ i m, l[i]? = some m → _ := fun i m h => strsK_rd hq h
  obtain ⟨a, cap, rfl⟩ := strsR_sl hq
  generalize hres : risL cmpS l = res
  refine Fn.mk2 Tryz.func81 rfl rfl fun w0 F => ?_
  (refine G.seq ?_; refine G.region ?_; refine GO.assign rfl rfl ?_; refine GO.nil ?_; refine kthen_n ?_; refine G.seq ?_; refine G.seq ?_; refine G.region ?_; refine GO.assign rfl rfl ?_; refine GO.nil ?_; refine kthen_n ?_; refine G.block ?_)
  refine G.loopI (σ := Nat) (fun i => [(0, .slice a l.length cap), (1, fnC 78), (5, i64 ((i + 1 : Nat) : Int))]) (fun _ => q :: F) (fun i => (i = 0 ∨ i < l.length) ∧ risL cmpS (l.drop i) = res) (fun i => l.length - i) 0 ⟨.inl rfl, hres⟩ ?_ ?_ ?_
  · (refine SubE.c rfl rfl ?_; refine SubE.c rfl rfl ?_; refine SubE.c rfl rfl ?_; exact SubE.n)
  · refine ImpS.sb ?_
    ((refine Sb.c Tk.h ?_); (exact Sb.r))
  clear hres
  rintro i ⟨hi, hp⟩
  (refine G.seq ?_; refine G.seq ?_; refine G.region ?_; refine GO.move rfl rfl ?_; refine GO.move rfl rfl ?_; refine GO.lenS rfl rfl ?_; refine GO.lti rfl rfl rfl ?_; refine GO.nil ?_; refine kthen_n ?_)
  by_cases hlt : i + 1 < l.length
  · have d1 : decide (((i + 1 : Nat) : Int) < (l.length : Int)) = true := decide_eq_true (by omega)
    obtain ⟨x, hx⟩ : ∃ x, l[i]? = some x := ⟨_, List.getElem?_eq_getElem (by omega)⟩
    obtain ⟨y, hy⟩ : ∃ y, l[i + 1]? = some y := ⟨_, List.getElem?_eq_getElem hlt⟩
    have hfx := hrd i x hx
    have hfy := hrd (i + 1) y hy
    rw [risL_drop hx hy] at hp
    obtain ⟨b, o, cp, e, r1⟩ := hfx
    injection e with e _ e2
    subst e e2
    obtain ⟨b', o', cp', e, r2⟩ := hfy
    injection e with e _ e2
    injection e with e
    injection e with e e3
    subst e e2 e3
    have hcs : FnV Tryz.prog (fnC 78) [str x, str y] [] (fun r Q => r = .int .i64 (cmpS x y) ∧ Q = []) := FnV.of (caps := []) (compare_spec x y)
    (refine G.condT rfl (by assumption) ?_; refine G.skip ?_; refine kthen_n ?_; refine G.seq ?_; refine G.block ?_; refine G.seq ?_)
    refine G.draw 12 (by kernel_rfl) ?_
    ((apply GQ.step; focus (intro Z; refine GO.move rfl rfl ?_; exact KQ.z)); (apply GQ.step; focus (intro Z; refine GO.move rfl rfl ?_; exact KQ.z)); (apply GQ.step; focus (intro Z; refine GO.move rfl rfl ?_; exact KQ.z)); (apply GQ.step; focus (intro Z; refine GO.subi rfl rfl rfl (by omega) ?_; exact KQ.z)))
    apply GQ.step; focus (intro Z; refine GO.idxS (j := i) rfl rfl rfl ⟨by omega, by omega⟩ ?_; exact KQ.z)
    ((apply GQ.step; focus (intro Z; refine GO.loadQ rfl rfl rfl Tk.h (by assumption) ?_; exact KQ.z)); (apply GQ.step; focus (intro Z; refine GO.move rfl rfl ?_; exact KQ.z)); (apply GQ.step; focus (intro Z; refine GO.move rfl rfl ?_; exact KQ.z)); (apply GQ.step; focus (intro Z; refine GO.idxS rfl rfl rfl ⟨rfl, by omega⟩ ?_; exact KQ.z)); (apply GQ.step; focus (intro Z; refine GO.loadQ rfl rfl rfl Tk.h (by assumption) ?_; exact KQ.z)))

    apply GQ.step; focus (intro Z; refine GO.callV2 rfl rfl rfl rfl (hcs) Tks.n ?_; rintro _ _ ⟨rfl, rfl⟩; refine GO.nil (KQ.s ?_); ((refine Sb.c Tk.h ?_); (exact Sb.r)))
    ((apply GQ.step; focus (intro Z; refine GO.gei rfl rfl rfl ?_; exact KQ.z)); refine GQ.nil ?_)
    by_cases h0 : 0 ≤ cmpS x y
    · have d2 : decide (0 ≤ cmpS x y) = true := decide_eq_true h0
      rw [if_pos h0] at hp
      subst hp
      (refine GO.nil ?_; refine kthen_n ?_; refine G.condT rfl (by assumption) ?_; refine G.seq ?_; refine G.region ?_; refine GO.assign rfl rfl ?_; refine GO.nil ?_; refine kthen_n ?_; refine G.ret ?_; refine kblock_r ?_; refine kthen_r ?_; refine kthen_r ?_; refine kblock_r ?_; refine kthen_r ?_)
      refine KF2.r1 rfl (RV.t rfl) ⟨rfl, rfl⟩ (ImpS.sb ?_)
      ((refine Sb.c Tk.h ?_); (exact Sb.r))
    · have d2 : decide (0 ≤ cmpS x y) = false := decide_eq_false h0
      rw [if_neg h0] at hp
      (refine GO.nil ?_; refine kthen_n ?_; refine G.condF rfl (by assumption) ?_; refine G.skip ?_; refine kblock_n ?_; refine kthen_n ?_; refine G.region ?_; refine GO.move rfl rfl ?_; refine GO.addi rfl rfl rfl (by omega) ?_; refine GO.assign rfl rfl ?_; refine GO.nil ?_; refine kthen_n ?_)
      refine ⟨i + 1, ⟨.inr hlt, hp⟩, by omega, ?_, ImpS.sb ?_⟩
      · (refine SubE.c rfl rfl ?_; refine SubE.c rfl rfl ?_; refine SubE.c rfl rfl ?_; exact SubE.n)
      · ((refine Sb.c Tk.h ?_); (exact Sb.r))
  · have d1 : decide (((i + 1 : Nat) : Int) < (l.length : Int)) = false := decide_eq_false (by omega)
    rw [risL_end (by omega)] at hp
    subst hp
    (refine G.condF rfl (by assumption) ?_; refine G.exit ?_; refine kthen_x ?_; refine kthen_x ?_; refine kblock_x ?_; refine kthen_n ?_; refine G.seq ?_; refine G.region ?_; refine GO.assign rfl rfl ?_; refine GO.nil ?_; refine kthen_n ?_; refine G.ret ?_)
    refine KF2.r1 rfl (RV.t rfl) ⟨rfl, rfl⟩ (ImpS.sb ?_)
    ((refine Sb.c Tk.h ?_); (exact Sb.r))
set_option maxHeartbeats 16000000 in
theorem risE_spec (q : HP) (v : Value) (l : List EdgeD) (hq : EdgesR q v l) (hl : ¬ 1048576 < l.length) : Fn Tryz.prog 82 #[v, fnC 80] [q] (fun r Q => r = .bool (risL orderE l) ∧ Q = [q]) := by
  have hrd : ∀ i m, l[i]? = some m → _ := fun i m h => edges_rd hq h
  obtain ⟨a, cap, rfl⟩ := edges_sl hq
  generalize hres : risL orderE l = res
  refine Fn.mk2 Tryz.func82 rfl rfl fun w0 F => ?_
  (refine G.seq ?_; refine G.region ?_; refine GO.assign rfl rfl ?_; refine GO.nil ?_; refine kthen_n ?_; refine G.seq ?_; refine G.seq ?_; refine G.region ?_; refine GO.assign rfl rfl ?_; refine GO.nil ?_; refine kthen_n ?_; refine G.block ?_)
  refine G.loopI (σ := Nat) (fun i => [(0, .slice a l.length cap), (1, fnC 80), (5, i64 ((i + 1 : Nat) : Int))]) (fun _ => q :: F) (fun i => (i = 0 ∨ i < l.length) ∧ risL orderE (l.drop i) = res) (fun i => l.length - i) 0 ⟨.inl rfl, hres⟩ ?_ ?_ ?_
  · (refine SubE.c rfl rfl ?_; refine SubE.c rfl rfl ?_; refine SubE.c rfl rfl ?_; exact SubE.n)
  · refine ImpS.sb ?_
    ((refine Sb.c Tk.h ?_); (exact Sb.r))
  clear hres
  rintro i ⟨hi, hp⟩
  (refine G.seq ?_; refine G.seq ?_; refine G.region ?_; refine GO.move rfl rfl ?_; refine GO.move rfl rfl ?_; refine GO.lenS rfl rfl ?_; refine GO.lti rfl rfl rfl ?_; refine GO.nil ?_; refine kthen_n ?_)
  by_cases hlt : i + 1 < l.length
  · have d1 : decide (((i + 1 : Nat) : Int) < (l.length : Int)) = true := decide_eq_true (by omega)
    obtain ⟨x, hx⟩ : ∃ x, l[i]? = some x := ⟨_, List.getElem?_eq_getElem (by omega)⟩
    obtain ⟨y, hy⟩ : ∃ y, l[i + 1]? = some y := ⟨_, List.getElem?_eq_getElem hlt⟩
    have hfx := hrd i x hx
    have hfy := hrd (i + 1) y hy
    rw [risL_drop hx hy] at hp
    obtain ⟨b, o, cp, e, _, r1⟩ := hfx
    injection e with e _ e2
    subst e e2
    obtain ⟨b', o', cp', e, _, r2⟩ := hfy
    injection e with e _ e2
    injection e with e
    injection e with e e3
    subst e e2 e3
    have hcs : FnV Tryz.prog (fnC 80) [edgeA x, edgeA y] [] (fun r Q => r = .int .i64 (orderE x y) ∧ Q = []) := FnV.of (caps := []) (orderE_spec x y)
    (refine G.condT rfl (by assumption) ?_; refine G.skip ?_; refine kthen_n ?_; refine G.seq ?_; refine G.block ?_; refine G.seq ?_)
    refine G.draw 12 (by kernel_rfl) ?_
    ((apply GQ.step; focus (intro Z; refine GO.move rfl rfl ?_; exact KQ.z)); (apply GQ.step; focus (intro Z; refine GO.move rfl rfl ?_; exact KQ.z)); (apply GQ.step; focus (intro Z; refine GO.move rfl rfl ?_; exact KQ.z)); (apply GQ.step; focus (intro Z; refine GO.subi rfl rfl rfl (by omega) ?_; exact KQ.z)))
    apply GQ.step; focus (intro Z; refine GO.idxS (j := i) rfl rfl rfl ⟨by omega, by omega⟩ ?_; exact KQ.z)
    skip
    apply GQ.step; focus (intro Z; refine GO.loadM (vs := edgeVs x) rfl rfl rfl Tk.h rfl r1 ?_; exact KQ.z)
    ((apply GQ.step; focus (intro Z; refine GO.move rfl rfl ?_; exact KQ.z)); (apply GQ.step; focus (intro Z; refine GO.move rfl rfl ?_; exact KQ.z)); (apply GQ.step; focus (intro Z; refine GO.idxS rfl rfl rfl ⟨rfl, by omega⟩ ?_; exact KQ.z)))
    apply GQ.step; focus (intro Z; refine GO.loadM (vs := edgeVs y) rfl rfl rfl Tk.h rfl r2 ?_; exact KQ.z)
    skip
    apply GQ.step; focus (intro Z; refine GO.callV2 rfl rfl rfl rfl (hcs) Tks.n ?_; rintro _ _ ⟨rfl, rfl⟩; refine GO.nil (KQ.s ?_); ((refine Sb.c Tk.h ?_); (exact Sb.r)))
    ((apply GQ.step; focus (intro Z; refine GO.gei rfl rfl rfl ?_; exact KQ.z)); refine GQ.nil ?_)
    by_cases h0 : 0 ≤ orderE x y
    · have d2 : decide (0 ≤ orderE x y) = true := decide_eq_true h0
      rw [if_pos h0] at hp
      subst hp
      (refine GO.nil ?_; refine kthen_n ?_; refine G.condT rfl (by assumption) ?_; refine G.seq ?_; refine G.region ?_; refine GO.assign rfl rfl ?_; refine GO.nil ?_; refine kthen_n ?_; refine G.ret ?_; refine kblock_r ?_; refine kthen_r ?_; refine kthen_r ?_; refine kblock_r ?_; refine kthen_r ?_)
      refine KF2.r1 rfl (RV.t rfl) ⟨rfl, rfl⟩ (ImpS.sb ?_)
      ((refine Sb.c Tk.h ?_); (exact Sb.r))
    · have d2 : decide (0 ≤ orderE x y) = false := decide_eq_false h0
      rw [if_neg h0] at hp
      (refine GO.nil ?_; refine kthen_n ?_; refine G.condF rfl (by assumption) ?_; refine G.skip ?_; refine kblock_n ?_; refine kthen_n ?_; refine G.region ?_; refine GO.move rfl rfl ?_; refine GO.addi rfl rfl rfl (by omega) ?_; refine GO.assign rfl rfl ?_; refine GO.nil ?_; refine kthen_n ?_)
      refine ⟨i + 1, ⟨.inr hlt, hp⟩, by omega, ?_, ImpS.sb ?_⟩
      · (refine SubE.c rfl rfl ?_; refine SubE.c rfl rfl ?_; refine SubE.c rfl rfl ?_; exact SubE.n)
      · ((refine Sb.c Tk.h ?_); (exact Sb.r))
  · have d1 : decide (((i + 1 : Nat) : Int) < (l.length : Int)) = false := decide_eq_false (by omega)
    rw [risL_end (by omega)] at hp
    subst hp
    (refine G.condF rfl (by assumption) ?_; refine G.exit ?_; refine kthen_x ?_; refine kthen_x ?_; refine kblock_x ?_; refine kthen_n ?_; refine G.seq ?_; refine G.region ?_; refine GO.assign rfl rfl ?_; refine GO.nil ?_; refine kthen_n ?_; refine G.ret ?_)
    refine KF2.r1 rfl (RV.t rfl) ⟨rfl, rfl⟩ (ImpS.sb ?_)
    ((refine Sb.c Tk.h ?_); (exact Sb.r))
end Go.Proofs.YtpgfmfbpmkfbjaaGreat
namespace Go.Proofs.YtpgfmfbpmkfbjaaGreat
open Go
/-- A graph: its nodes, its edges. -/
structure GraphD where
  nodes : List (List UInt8)
  edges : List EdgeD
  deriving DecidableEq
abbrev graphA (vn ve : Value) : Value := .agg [vn, ve].toArray
structure GraphR (q : HP) (vn ve : Value) (g : GraphD) : Prop where
  n : StrsR q vn g.nodes
  e : EdgesR q ve g.edges
/-- Graphs of such sizes. -/
structure FitE (g : GraphD) : Prop where
  n : ¬ 4096 < g.nodes.length
  e : ¬ 4096 < g.edges.length
def okE (x : EdgeD) : Bool := nameF x.src && (labelF x.lab && nameF x.dst)
def namedG (g : GraphD) : Bool := g.nodes.all nameF && g.edges.all okE
attribute [local irreducible] capN capM G GO GR GT Fn FnX FnV FnXV Dfr pt init exs pur sat own ImpS cmpS orderE nameF labelF
set_option maxHeartbeats 16000000 in
theorem named_spec2 (q : HP) (vn ve : Value) (g : GraphD) (hq : GraphR q vn ve g) (hf : FitE g) : Fn Tryz.prog 43 #[graphA vn ve] [q] (fun r Q => r = .bool (namedG g) ∧ Q = [q]) := by
  have hrn : ∀ i m, g.nodes[i]? = some m → _ := fun i m h => strsK_rd hq.n h
  have hre : ∀ i m, g.edges[i]? = some m → _ := fun i m h => edges_rd hq.e h
  have hn := hf.n
  have he := hf.e
  obtain ⟨an, cn, rfl⟩ := strsR_sl hq.n
  obtain ⟨ae, ce, rfl⟩ := edges_sl hq.e
  unfold namedG
  generalize g.nodes = ns at *
  generalize g.edges = es at *
  clear hq hf
  generalize hres : ns.all nameF = res
  refine Fn.mk2 Tryz.func43 rfl rfl fun w0 F => ?_
  (refine G.seq ?_; refine G.region ?_; refine GO.box rfl rfl rfl fun b1 => ?_; refine GO.assign rfl rfl ?_; refine GO.nil ?_; refine kthen_n ?_; refine G.seq ?_; refine G.seq ?_; refine G.region ?_; refine GO.fieldAddr rfl rfl ?_; refine GO.load1 rfl rfl rfl Tk.h rfl ?_; refine GO.lenS rfl rfl ?_; refine GO.move rfl rfl ?_; refine GO.nil ?_; refine kthen_n ?_; refine G.block ?_)
  refine G.loopI (σ := Nat) (fun i => [(1, ptrV b1), (8, .slice an ns.length cn), (9, i64 (ns.length : Nat)), (10, i64 (i : Nat))]) (fun _ => pt b1 (row [.slice an ns.length cn, .slice ae es.length ce] 33) :: q :: F) (fun i => i ≤ ns.length ∧ (ns.drop i).all nameF = res) (fun i => ns.length - i) 0 ⟨Nat.zero_le _, hres⟩ ?_ ?_ ?_
  · (refine SubE.c rfl rfl ?_; refine SubE.c rfl rfl ?_; refine SubE.c rfl rfl ?_; refine SubE.c rfl rfl ?_; exact SubE.n)
  · refine ImpS.sb ?_
    ((refine Sb.c Tk.h ?_; refine Sb.c Tk.h ?_); (exact Sb.r))
  clear hres
  rintro i ⟨hi, hp⟩
  (refine G.seq ?_; refine G.region ?_; refine GO.lti rfl rfl rfl ?_; refine GO.nil ?_; refine kthen_n ?_; refine G.seq ?_)
  by_cases hlt : i < ns.length
  · have d1 : decide ((i : Int) < (ns.length : Int)) = true := decide_eq_true (by omega)
    obtain ⟨m, hm⟩ : ∃ m, ns[i]? = some m := ⟨_, List.getElem?_eq_getElem hlt⟩
    obtain ⟨b, o, cp, e, rm⟩ := hrn i m hm
    injection e with e _ e2
    subst e e2
    rw [all_drop hm] at hp
    (refine G.condT rfl (by assumption) ?_; refine G.skip ?_; refine kthen_n ?_; refine G.seq ?_; refine G.block ?_; refine G.seq ?_; refine G.region ?_; refine GO.idxS rfl rfl rfl ⟨rfl, by omega⟩ ?_; refine GO.loadQ rfl rfl rfl (Tk.t Tk.h) (by assumption) ?_; refine GO.assign rfl rfl ?_; refine GO.nil ?_; refine kthen_n ?_; refine G.seq ?_; refine G.region ?_; refine GO.move rfl rfl ?_)
    refine GO.call1 rfl rfl (name_spec m) Tks.n ?_
    rintro _ _ ⟨rfl, rfl⟩
    cases hnm : nameF m
    · rw [hnm, Bool.false_and] at hp
      subst hp
      (refine GO.not rfl rfl ?_; refine GO.nil ?_; refine kthen_n ?_; refine G.condT rfl rfl ?_; refine G.seq ?_; refine G.region ?_; refine GO.assign rfl rfl ?_; refine GO.nil ?_; refine kthen_n ?_; refine G.ret ?_; refine kblock_r ?_; refine kthen_r ?_; refine kthen_r ?_; refine kblock_r ?_; refine kthen_r ?_)
      refine KF2.r1 rfl (RV.t rfl) ⟨rfl, rfl⟩ (ImpS.sb ?_)
      ((refine Sb.c (Tk.t Tk.h) ?_); (refine Sb.s ?_; exact Sb.r))
    · rw [hnm, Bool.true_and] at hp
      (refine GO.not rfl rfl ?_; refine GO.nil ?_; refine kthen_n ?_; refine G.condF rfl rfl ?_; refine G.skip ?_; refine kblock_n ?_; refine kthen_n ?_; refine G.region ?_; refine GO.addi rfl rfl rfl (by omega) ?_; refine GO.move rfl rfl ?_; refine GO.nil ?_; refine kthen_n ?_)
      refine ⟨i + 1, ⟨hlt, hp⟩, by omega, ?_, ImpS.sb ?_⟩
      · (refine SubE.c rfl rfl ?_; refine SubE.c rfl rfl ?_; refine SubE.c rfl rfl ?_; refine SubE.c rfl rfl ?_; exact SubE.n)
      · ((refine Sb.c Tk.h ?_; refine Sb.c Tk.h ?_); (exact Sb.r))
  have d1 : decide ((i : Int) < (ns.length : Int)) = false := decide_eq_false (by omega)
  rw [List.drop_eq_nil_of_le (by omega)] at hp
  subst hp
  clear hrn
  rw [List.all_nil, Bool.true_and]
  generalize hres : es.all okE = res
  (refine G.condF rfl (by assumption) ?_; refine G.exit ?_; refine kthen_x ?_; refine kthen_x ?_; refine kblock_x ?_; refine kthen_n ?_; refine G.seq ?_; refine G.seq ?_; refine G.region ?_; refine GO.fieldAddr rfl rfl ?_; refine GO.load1 rfl rfl rfl Tk.h rfl ?_; refine GO.lenS rfl rfl ?_; refine GO.move rfl rfl ?_; refine GO.nil ?_; refine kthen_n ?_; refine G.block ?_)
  refine G.loopI (σ := Nat) (fun i => [(19, .slice ae es.length ce), (20, i64 (es.length : Nat)), (21, i64 (i : Nat))]) (fun _ => q :: F) (fun i => i ≤ es.length ∧ (es.drop i).all okE = res) (fun i => es.length - i) 0 ⟨Nat.zero_le _, hres⟩ ?_ ?_ ?_
  · (refine SubE.c rfl rfl ?_; refine SubE.c rfl rfl ?_; refine SubE.c rfl rfl ?_; exact SubE.n)
  · refine ImpS.sb ?_
    ((refine Sb.c (Tk.t Tk.h) ?_); (refine Sb.s ?_; exact Sb.r))
  clear hres
  rintro j ⟨hj, hp⟩
  (refine G.seq ?_; refine G.region ?_; refine GO.lti rfl rfl rfl ?_; refine GO.nil ?_; refine kthen_n ?_; refine G.seq ?_)
  by_cases hlt : j < es.length
  · have d2 : decide ((j : Int) < (es.length : Int)) = true := decide_eq_true (by omega)
    obtain ⟨x, hx⟩ : ∃ x, es[j]? = some x := ⟨_, List.getElem?_eq_getElem hlt⟩
    obtain ⟨b, o, cp, e, _, rm⟩ := hre j x hx
    injection e with e _ e2
    subst e e2
    rw [all_drop hx] at hp
    have hok : okE x = (nameF x.src && (labelF x.lab && nameF x.dst)) := rfl
    rw [hok] at hp
    (refine G.condT rfl (by assumption) ?_; refine G.skip ?_; refine kthen_n ?_; refine G.seq ?_; refine G.block ?_; refine G.seq ?_; refine G.region ?_; refine GO.idxS rfl rfl rfl ⟨rfl, by omega⟩ ?_)
    refine GO.loadM (vs := [str x.src, str x.lab, str x.dst]) rfl rfl rfl Tk.h rfl rm ?_
    (refine GO.alloc rfl fun b6 => ?_; refine GO.storeW rfl rfl Tk.h ⟨rfl, rfl⟩ (by simp [Value.oneCell']) ?_; refine GO.nil ?_; refine kthen_n ?_; refine G.seq ?_; refine G.region ?_; refine GO.fieldAddr rfl rfl ?_; refine GO.load1 rfl rfl rfl Tk.h rfl ?_)
    refine GO.call1 rfl rfl (name_spec x.src) Tks.n ?_
    rintro _ _ ⟨rfl, rfl⟩
    cases h1 : nameF x.src
    · rw [h1, Bool.false_and, Bool.false_and] at hp
      subst hp
      (refine GO.not rfl rfl ?_; refine GO.move rfl rfl ?_; refine GO.gF rfl rfl rfl rfl ?_; refine GO.gF rfl rfl rfl rfl ?_; refine GO.gF rfl rfl rfl rfl ?_; refine GO.gF rfl rfl rfl rfl ?_; refine GO.pickT rfl rfl rfl ?_; refine GO.move rfl rfl ?_; refine GO.gF rfl rfl rfl rfl ?_; refine GO.gF rfl rfl rfl rfl ?_; refine GO.gF rfl rfl rfl rfl ?_; refine GO.gF rfl rfl rfl rfl ?_; refine GO.pickT rfl rfl rfl ?_; refine GO.nil ?_; refine kthen_n ?_; refine G.condT rfl rfl ?_; refine G.seq ?_; refine G.region ?_; refine GO.assign rfl rfl ?_; refine GO.nil ?_; refine kthen_n ?_; refine G.ret ?_; refine kblock_r ?_; refine kthen_r ?_; refine kthen_r ?_; refine kblock_r ?_; refine kthen_r ?_)
      refine KF2.r1 rfl (RV.t rfl) ⟨rfl, rfl⟩ (ImpS.sb ?_)
      ((refine Sb.c (Tk.t Tk.h) ?_); (refine Sb.s ?_; exact Sb.r))
    · (refine GO.not rfl rfl ?_; refine GO.move rfl rfl ?_; refine GO.gT rfl rfl rfl ?_; refine GO.fieldAddr rfl rfl ?_; refine GO.gT rfl rfl rfl ?_; refine GO.load1 rfl rfl rfl Tk.h rfl ?_; refine GO.gT rfl rfl rfl ?_)
      refine GO.call1 rfl rfl (label_spec x.lab) Tks.n ?_
      rintro _ _ ⟨rfl, rfl⟩
      cases h2 : labelF x.lab
      · rw [h1, h2, Bool.true_and, Bool.false_and, Bool.false_and] at hp
        subst hp
        (refine GO.gT rfl rfl rfl ?_; refine GO.not rfl rfl ?_; refine GO.pickF rfl rfl rfl ?_; refine GO.move rfl rfl ?_; refine GO.gF rfl rfl rfl rfl ?_; refine GO.gF rfl rfl rfl rfl ?_; refine GO.gF rfl rfl rfl rfl ?_; refine GO.gF rfl rfl rfl rfl ?_; refine GO.pickT rfl rfl rfl ?_; refine GO.nil ?_; refine kthen_n ?_; refine G.condT rfl rfl ?_; refine G.seq ?_; refine G.region ?_; refine GO.assign rfl rfl ?_; refine GO.nil ?_; refine kthen_n ?_; refine G.ret ?_; refine kblock_r ?_; refine kthen_r ?_; refine kthen_r ?_; refine kblock_r ?_; refine kthen_r ?_)
        refine KF2.r1 rfl (RV.t rfl) ⟨rfl, rfl⟩ (ImpS.sb ?_)
        ((refine Sb.c (Tk.t Tk.h) ?_); (refine Sb.s ?_; exact Sb.r))
      · (refine GO.gT rfl rfl rfl ?_; refine GO.not rfl rfl ?_; refine GO.pickF rfl rfl rfl ?_; refine GO.move rfl rfl ?_; refine GO.gT rfl rfl rfl ?_; refine GO.fieldAddr rfl rfl ?_; refine GO.gT rfl rfl rfl ?_; refine GO.load1 rfl rfl rfl Tk.h rfl ?_; refine GO.gT rfl rfl rfl ?_)
        refine GO.call1 rfl rfl (name_spec x.dst) Tks.n ?_
        rintro _ _ ⟨rfl, rfl⟩
        cases h3 : nameF x.dst
        · rw [h1, h2, h3, Bool.true_and, Bool.true_and, Bool.false_and] at hp
          subst hp
          (refine GO.gT rfl rfl rfl ?_; refine GO.not rfl rfl ?_; refine GO.pickF rfl rfl rfl ?_; refine GO.nil ?_; refine kthen_n ?_; refine G.condT rfl rfl ?_; refine G.seq ?_; refine G.region ?_; refine GO.assign rfl rfl ?_; refine GO.nil ?_; refine kthen_n ?_; refine G.ret ?_; refine kblock_r ?_; refine kthen_r ?_; refine kthen_r ?_; refine kblock_r ?_; refine kthen_r ?_)
          refine KF2.r1 rfl (RV.t rfl) ⟨rfl, rfl⟩ (ImpS.sb ?_)
          ((refine Sb.c (Tk.t Tk.h) ?_); (refine Sb.s ?_; exact Sb.r))
        · rw [h1, h2, h3, Bool.true_and, Bool.true_and, Bool.true_and] at hp
          (refine GO.gT rfl rfl rfl ?_; refine GO.not rfl rfl ?_; refine GO.pickF rfl rfl rfl ?_; refine GO.nil ?_; refine kthen_n ?_; refine G.condF rfl rfl ?_; refine G.skip ?_; refine kblock_n ?_; refine kthen_n ?_; refine G.region ?_; refine GO.addi rfl rfl rfl (by omega) ?_; refine GO.move rfl rfl ?_; refine GO.nil ?_; refine kthen_n ?_)
          refine ⟨j + 1, ⟨hlt, hp⟩, by omega, ?_, ImpS.sb ?_⟩
          · (refine SubE.c rfl rfl ?_; refine SubE.c rfl rfl ?_; refine SubE.c rfl rfl ?_; exact SubE.n)
          · ((refine Sb.c (Tk.t Tk.h) ?_); (refine Sb.s ?_; exact Sb.r))
  · have d2 : decide ((j : Int) < (es.length : Int)) = false := decide_eq_false (by omega)
    rw [List.drop_eq_nil_of_le (by omega)] at hp
    subst hp
    (refine G.condF rfl (by assumption) ?_; refine G.exit ?_; refine kthen_x ?_; refine kthen_x ?_; refine kblock_x ?_; refine kthen_n ?_; refine G.seq ?_; refine G.region ?_; refine GO.assign rfl rfl ?_; refine GO.nil ?_; refine kthen_n ?_; refine G.ret ?_)
    refine KF2.r1 rfl (RV.t rfl) ⟨rfl, rfl⟩ (ImpS.sb ?_)
    ((refine Sb.c Tk.h ?_); (exact Sb.r))
end Go.Proofs.YtpgfmfbpmkfbjaaGreat
namespace Go.Proofs.YtpgfmfbpmkfbjaaGreat
open Go
/-- Where each node stands, from 1 on. -/
def metF : Nat → List SN → List (List UInt8) → List SN
  | _, acc, [] => acc
  | i, acc, n :: r => metF (i + 1) (putN n (i + 1) acc) r
def inE (met : List SN) (x : EdgeD) : Bool := !(decide ((getN x.src met : Int) = 0) || decide ((getN x.dst met : Int) = 0))
def formG (g : GraphD) : Bool := risL cmpS g.nodes && (risL orderE g.edges && g.edges.all (inE (metF 0 [] g.nodes)))
attribute [local irreducible] capN capM G GO GR GT Fn FnX FnV FnXV Dfr pt init exs pur sat own ImpS cmpS orderE nameF labelF mapP risL
set_option maxHeartbeats 16000000 in
theorem form_spec (q : HP) (vn ve : Value) (g : GraphD) (hq : GraphR q vn ve g) (hf : FitE g) : Fn Tryz.prog 45 #[graphA vn ve] [q] (fun r Q => r = .bool (formG g) ∧ Q = [q]) := by
  have hrn : ∀ i m, g.nodes[i]? = some m → _ := fun i m h => strsK_rd hq.n h
  have hre : ∀ i m, g.edges[i]? = some m → _ := fun i m h => edges_rd hq.e h
  have hn := hf.n
  have he := hf.e
  have hs1 := risS_spec q vn g.nodes hq.n (by omega)
  have hs2 := risE_spec q ve g.edges hq.e (by omega)
  obtain ⟨an, cn, rfl⟩ := strsR_sl hq.n
  obtain ⟨ae, ce, rfl⟩ := edges_sl hq.e
  unfold formG
  generalize g.nodes = ns at *
  generalize g.edges = es at *
  clear hq hf
  refine Fn.mk2 Tryz.func45 rfl rfl fun w0 F => ?_
  (refine G.seq ?_; refine G.region ?_; refine GO.box rfl rfl rfl fun b1 => ?_; refine GO.assign rfl rfl ?_; refine GO.nil ?_; refine kthen_n ?_; refine G.seq ?_; refine G.seq ?_; refine G.region ?_; refine GO.fieldAddr rfl rfl ?_; refine GO.load1 rfl rfl rfl Tk.h rfl ?_)
  refine GO.call2 rfl rfl rfl (hs1) (Tks.c (Tk.t Tk.h) Tks.n) ?_
  rintro _ _ ⟨rfl, rfl⟩
  cases h1 : risL cmpS ns
  · rw [Bool.false_and]
    (refine GO.not rfl rfl ?_; refine GO.move rfl rfl ?_; refine GO.gF rfl rfl rfl rfl ?_; refine GO.gF rfl rfl rfl rfl ?_; refine GO.gF rfl rfl rfl rfl ?_; refine GO.gF rfl rfl rfl rfl ?_; refine GO.pickT rfl rfl rfl ?_; refine GO.nil ?_; refine kthen_n ?_; refine G.condT rfl rfl ?_; refine G.seq ?_; refine G.region ?_; refine GO.assign rfl rfl ?_; refine GO.nil ?_; refine kthen_n ?_; refine G.ret ?_; refine kthen_r ?_)
    refine KF2.r1 rfl (RV.t rfl) ⟨rfl, rfl⟩ (ImpS.sb ?_)
    ((refine Sb.c Tk.h ?_); (refine Sb.s ?_; exact Sb.r))
  (refine GO.not rfl rfl ?_; refine GO.move rfl rfl ?_; refine GO.gT rfl rfl rfl ?_; refine GO.fieldAddr rfl rfl ?_; refine GO.gT rfl rfl rfl ?_; refine GO.load1 rfl rfl rfl (Tk.t Tk.h) rfl ?_; refine GO.gT rfl rfl rfl ?_)
  refine GO.call2 rfl rfl rfl (hs2) (Tks.c Tk.h Tks.n) ?_
  rintro _ _ ⟨rfl, rfl⟩
  cases h2 : risL orderE es
  · rw [Bool.false_and, Bool.and_false]
    (refine GO.gT rfl rfl rfl ?_; refine GO.not rfl rfl ?_; refine GO.pickF rfl rfl rfl ?_; refine GO.nil ?_; refine kthen_n ?_; refine G.condT rfl rfl ?_; refine G.seq ?_; refine G.region ?_; refine GO.assign rfl rfl ?_; refine GO.nil ?_; refine kthen_n ?_; refine G.ret ?_; refine kthen_r ?_)
    refine KF2.r1 rfl (RV.t rfl) ⟨rfl, rfl⟩ (ImpS.sb ?_)
    ((refine Sb.c Tk.h ?_); (refine Sb.s ?_; exact Sb.r))
  rw [Bool.true_and, Bool.true_and]
  generalize hmet : metF 0 [] ns = met
  (refine GO.gT rfl rfl rfl ?_; refine GO.not rfl rfl ?_; refine GO.pickF rfl rfl rfl ?_; refine GO.nil ?_; refine kthen_n ?_; refine G.condF rfl rfl ?_; refine G.skip ?_; refine kthen_n ?_; refine G.seq ?_; refine G.region ?_)
  refine GO.mapNew rfl fun mb => ?_
  (refine GO.assign rfl rfl ?_; refine GO.nil ?_; refine kthen_n ?_; refine G.seq ?_; refine G.seq ?_; refine G.region ?_; refine GO.fieldAddr rfl rfl ?_; refine GO.load1 rfl rfl rfl (Tk.t (Tk.t Tk.h)) rfl ?_; refine GO.lenS rfl rfl ?_; refine GO.move rfl rfl ?_; refine GO.nil ?_; refine kthen_n ?_; refine G.block ?_)
  refine G.loopI (σ := Nat × List SN) (fun z => [(1, ptrV b1), (3, .map (some mb)), (20, .slice an ns.length cn), (21, i64 (ns.length : Nat)), (22, i64 (z.1 : Nat))]) (fun z => mapP mb z.2 :: pt b1 (row [.slice an ns.length cn, .slice ae es.length ce] 33) :: q :: F) (fun z => z.1 ≤ ns.length ∧ metF z.1 z.2 (ns.drop z.1) = met) (fun z => ns.length - z.1) (0, []) ⟨Nat.zero_le _, hmet⟩ ?_ ?_ ?_
  · (refine SubE.c rfl rfl ?_; refine SubE.c rfl rfl ?_; refine SubE.c rfl rfl ?_; refine SubE.c rfl rfl ?_; refine SubE.c rfl rfl ?_; exact SubE.n)
  · refine ImpS.sb ?_
    ((refine Sb.c Tk.h ?_; refine Sb.c (Tk.t Tk.h) ?_; refine Sb.c Tk.h ?_); (exact Sb.r))
  clear hmet
  rintro ⟨i, acc⟩ ⟨hi, hp⟩
  dsimp only at hi hp ⊢
  (refine G.seq ?_; refine G.region ?_; refine GO.lti rfl rfl rfl ?_; refine GO.nil ?_; refine kthen_n ?_; refine G.seq ?_)
  by_cases hlt : i < ns.length
  · have d1 : decide ((i : Int) < (ns.length : Int)) = true := decide_eq_true (by omega)
    obtain ⟨m, hm⟩ : ∃ m, ns[i]? = some m := ⟨_, List.getElem?_eq_getElem hlt⟩
    obtain ⟨b, o, cp, e, rm⟩ := hrn i m hm
    injection e with e _ e2
    subst e e2
    rw [drop_at hm, metF] at hp
    (refine G.condT rfl (by assumption) ?_; refine G.skip ?_; refine kthen_n ?_; refine G.seq ?_; refine G.block ?_; refine G.seq ?_; refine G.region ?_; refine GO.move rfl rfl ?_; refine GO.idxS rfl rfl rfl ⟨rfl, by omega⟩ ?_; refine GO.loadQ rfl rfl rfl (Tk.t (Tk.t Tk.h)) (by assumption) ?_; refine GO.assign rfl rfl ?_; refine GO.assign rfl rfl ?_; refine GO.nil ?_; refine kthen_n ?_; refine G.region ?_; refine GO.move rfl rfl ?_; refine GO.move rfl rfl ?_; refine GO.move rfl rfl ?_; refine GO.addi rfl rfl rfl (by omega) ?_)
    refine GO.mapPut (k := m) (v := i + 1) (l := acc) rfl rfl rfl Tk.h ?_
    (refine GO.nil ?_; refine kblock_n ?_; refine kthen_n ?_; refine G.region ?_; refine GO.addi rfl rfl rfl (by omega) ?_; refine GO.move rfl rfl ?_; refine GO.nil ?_; refine kthen_n ?_)
    refine ⟨(i + 1, putN m (i + 1) acc), ⟨hlt, hp⟩, by dsimp only; omega, ?_, ImpS.sb ?_⟩
    · (refine SubE.c rfl rfl ?_; refine SubE.c rfl rfl ?_; refine SubE.c rfl rfl ?_; refine SubE.c rfl rfl ?_; refine SubE.c rfl rfl ?_; exact SubE.n)
    · ((refine Sb.c Tk.h ?_; refine Sb.c Tk.h ?_; refine Sb.c Tk.h ?_); (exact Sb.r))
  have d1 : decide ((i : Int) < (ns.length : Int)) = false := decide_eq_false (by omega)
  rw [List.drop_eq_nil_of_le (by omega), metF] at hp
  subst hp
  clear hrn
  generalize hres : es.all (inE acc) = res
  (refine G.condF rfl (by assumption) ?_; refine G.exit ?_; refine kthen_x ?_; refine kthen_x ?_; refine kblock_x ?_; refine kthen_n ?_; refine G.seq ?_; refine G.seq ?_; refine G.region ?_; refine GO.fieldAddr rfl rfl ?_; refine GO.load1 rfl rfl rfl (Tk.t Tk.h) rfl ?_; refine GO.lenS rfl rfl ?_; refine GO.move rfl rfl ?_; refine GO.nil ?_; refine kthen_n ?_; refine G.block ?_)
  refine G.loopI (σ := Nat) (fun i => [(3, .map (some mb)), (33, .slice ae es.length ce), (34, i64 (es.length : Nat)), (35, i64 (i : Nat))]) (fun _ => mapP mb acc :: q :: F) (fun i => i ≤ es.length ∧ (es.drop i).all (inE acc) = res) (fun i => es.length - i) 0 ⟨Nat.zero_le _, hres⟩ ?_ ?_ ?_
  · (refine SubE.c rfl rfl ?_; refine SubE.c rfl rfl ?_; refine SubE.c rfl rfl ?_; refine SubE.c rfl rfl ?_; exact SubE.n)
  · refine ImpS.sb ?_
    ((refine Sb.c Tk.h ?_; refine Sb.c (Tk.t Tk.h) ?_); (refine Sb.s ?_; exact Sb.r))
  clear hres
  rintro j ⟨hj, hp⟩
  (refine G.seq ?_; refine G.region ?_; refine GO.lti rfl rfl rfl ?_; refine GO.nil ?_; refine kthen_n ?_; refine G.seq ?_)
  by_cases hlt : j < es.length
  · have d2 : decide ((j : Int) < (es.length : Int)) = true := decide_eq_true (by omega)
    obtain ⟨x, hx⟩ : ∃ x, es[j]? = some x := ⟨_, List.getElem?_eq_getElem hlt⟩
    obtain ⟨b, o, cp, e, _, rm⟩ := hre j x hx
    injection e with e _ e2
    subst e e2
    rw [all_drop hx] at hp
    have hok : inE acc x = !(decide ((getN x.src acc : Int) = 0) || decide ((getN x.dst acc : Int) = 0)) := rfl
    rw [hok] at hp
    (refine G.condT rfl (by assumption) ?_; refine G.skip ?_; refine kthen_n ?_; refine G.seq ?_; refine G.block ?_; refine G.seq ?_; refine G.region ?_; refine GO.idxS rfl rfl rfl ⟨rfl, by omega⟩ ?_)
    refine GO.loadM (vs := [str x.src, str x.lab, str x.dst]) rfl rfl rfl (Tk.t Tk.h) rfl rm ?_
    (refine GO.alloc rfl fun b7 => ?_; refine GO.storeW rfl rfl Tk.h ⟨rfl, rfl⟩ (by simp [Value.oneCell']) ?_; refine GO.nil ?_; refine kthen_n ?_; refine G.seq ?_; refine G.region ?_; refine GO.move rfl rfl ?_; refine GO.fieldAddr rfl rfl ?_; refine GO.load1 rfl rfl rfl Tk.h rfl ?_)
    refine GO.mapGet (k := x.src) (l := acc) rfl rfl rfl (Tk.t Tk.h) ?_
    cases h1 : decide ((getN x.src acc : Int) = 0)
    · (refine GO.eqi rfl rfl rfl ?_; refine GO.move rfl rfl ?_; refine GO.gT rfl rfl (by assumption) ?_; refine GO.move rfl rfl ?_; refine GO.gT rfl rfl (by assumption) ?_; refine GO.fieldAddr rfl rfl ?_; refine GO.gT rfl rfl (by assumption) ?_; refine GO.load1 rfl rfl rfl (Tk.t Tk.h) rfl ?_; refine GO.gT rfl rfl (by assumption) ?_)
      refine GO.mapGet (k := x.dst) (l := acc) rfl rfl rfl Tk.h ?_
      cases h2 : decide ((getN x.dst acc : Int) = 0)
      · rw [h1, h2] at hp
        (refine GO.gT rfl rfl (by assumption) ?_; refine GO.eqi rfl rfl rfl ?_; refine GO.pickFa rfl rfl (by assumption) rfl ?_; refine GO.nil ?_; refine kthen_n ?_; refine G.condF rfl (by assumption) ?_; refine G.skip ?_; refine kblock_n ?_; refine kthen_n ?_; refine G.region ?_; refine GO.addi rfl rfl rfl (by omega) ?_; refine GO.move rfl rfl ?_; refine GO.nil ?_; refine kthen_n ?_)
        refine ⟨j + 1, ⟨hlt, hp⟩, by omega, ?_, ImpS.sb ?_⟩
        · (refine SubE.c rfl rfl ?_; refine SubE.c rfl rfl ?_; refine SubE.c rfl rfl ?_; refine SubE.c rfl rfl ?_; exact SubE.n)
        · ((refine Sb.c Tk.h ?_; refine Sb.c (Tk.t Tk.h) ?_); (refine Sb.s ?_; exact Sb.r))
      · rw [h1, h2] at hp
        subst hp
        (refine GO.gT rfl rfl (by assumption) ?_; refine GO.eqi rfl rfl rfl ?_; refine GO.pickFa rfl rfl (by assumption) rfl ?_; refine GO.nil ?_; refine kthen_n ?_; refine G.condT rfl (by assumption) ?_; refine G.seq ?_; refine G.region ?_; refine GO.assign rfl rfl ?_; refine GO.nil ?_; refine kthen_n ?_; refine G.ret ?_; refine kblock_r ?_; refine kthen_r ?_; refine kthen_r ?_; refine kblock_r ?_; refine kthen_r ?_)
        refine KF2.r1 rfl (RV.t rfl) ⟨rfl, rfl⟩ (ImpS.sb ?_)
        ((refine Sb.c (Tk.t (Tk.t Tk.h)) ?_); (refine Sb.s ?_; refine Sb.s ?_; exact Sb.r))
    · rw [h1] at hp
      subst hp
      (refine GO.eqi rfl rfl rfl ?_; refine GO.move rfl rfl ?_; refine GO.gF rfl rfl rfl (by assumption) ?_; refine GO.gF rfl rfl rfl (by assumption) ?_; refine GO.gF rfl rfl rfl (by assumption) ?_; refine GO.gF rfl rfl rfl (by assumption) ?_; refine GO.gF rfl rfl rfl (by assumption) ?_; refine GO.pickTa rfl rfl (by assumption) rfl ?_; refine GO.nil ?_; refine kthen_n ?_; refine G.condT rfl rfl ?_; refine G.seq ?_; refine G.region ?_; refine GO.assign rfl rfl ?_; refine GO.nil ?_; refine kthen_n ?_; refine G.ret ?_; refine kblock_r ?_; refine kthen_r ?_; refine kthen_r ?_; refine kblock_r ?_; refine kthen_r ?_)
      refine KF2.r1 rfl (RV.t rfl) ⟨rfl, rfl⟩ (ImpS.sb ?_)
      ((refine Sb.c (Tk.t (Tk.t Tk.h)) ?_); (refine Sb.s ?_; refine Sb.s ?_; exact Sb.r))
  · have d2 : decide ((j : Int) < (es.length : Int)) = false := decide_eq_false (by omega)
    rw [List.drop_eq_nil_of_le (by omega)] at hp
    subst hp
    (refine G.condF rfl (by assumption) ?_; refine G.exit ?_; refine kthen_x ?_; refine kthen_x ?_; refine kblock_x ?_; refine kthen_n ?_; refine G.seq ?_; refine G.region ?_; refine GO.assign rfl rfl ?_; refine GO.nil ?_; refine kthen_n ?_; refine G.ret ?_)
    refine KF2.r1 rfl (RV.t rfl) ⟨rfl, rfl⟩ (ImpS.sb ?_)
    ((refine Sb.c (Tk.t Tk.h) ?_); (refine Sb.s ?_; exact Sb.r))
end Go.Proofs.YtpgfmfbpmkfbjaaGreat
namespace Go.Proofs.YtpgfmfbpmkfbjaaGreat
open Go
/-- Those of a list that are not what stands ahead of them. -/
def compG {α : Type} [DecidableEq α] : α → List α → List α
  | _, [] => []
  | x, y :: r => if y = x then compG y r else y :: compG y r
def compL {α : Type} [DecidableEq α] : List α → List α
  | [] => []
  | x :: r => x :: compG x r
def lastG {α : Type} : α → List α → α
  | x, [] => x
  | _, z :: r => lastG z r
theorem lastG_snoc {α : Type} (y : α) : ∀ (r : List α) (x : α), lastG x (r ++ [y]) = y
  | [], _ => rfl
  | z :: r, _ => lastG_snoc y r z
theorem compG_snoc {α : Type} [DecidableEq α] (y : α) : ∀ (r : List α) (x : α), compG x (r ++ [y]) = compG x r ++ if y = lastG x r then [] else [y]
  | [], x => by
    show (if y = x then compG y [] else y :: compG y []) = [] ++ if y = x then [] else [y]
    by_cases h : y = x
    · rw [if_pos h, if_pos h]; rfl
    · rw [if_neg h, if_neg h]; rfl
  | z :: r, x => by
    show (if z = x then compG z (r ++ [y]) else z :: compG z (r ++ [y])) = (if z = x then compG z r else z :: compG z r) ++ if y = lastG z r then [] else [y]
    rw [compG_snoc y r z]
    by_cases h : z = x
    · rw [if_pos h, if_pos h]
    · rw [if_neg h, if_neg h, List.cons_append]
theorem compL_step {α : Type} [DecidableEq α] {l : List α} {i : Nat} {x y : α} (hx : l[i]? = some x) (hy : l[i + 1]? = some y) : compL (l.take (i + 1 + 1)) = compL (l.take (i + 1)) ++ if y = x then [] else [y] := by
  rw [take_snoc hy]
  have hlast : l.take (i + 1) = l.take i ++ [x] := take_snoc hx
  rw [hlast]
  cases l.take i with
  | nil =>
    show x :: compG x [y] = x :: compG x [] ++ _
    have := compG_snoc y [] x
    rw [List.nil_append] at this
    rw [this]; rfl
  | cons a r =>
    show a :: compG a ((r ++ [x]) ++ [y]) = (a :: compG a (r ++ [x])) ++ _
    rw [compG_snoc y (r ++ [x]) a, lastG_snoc]; rfl
theorem compL_one {α : Type} [DecidableEq α] {l : List α} (h : l.length ≤ 1) : compL l = l := by
  match l, h with
  | [], _ => rfl
  | [x], _ => rfl
  | _ :: _ :: _, h => simp at h
attribute [local irreducible] capN capM G GO GR GT Fn FnX FnV FnXV Dfr pt init exs pur sat own ImpS
set_option maxHeartbeats 8000000 in
theorem cloneS_spec (q : HP) (v : Value) (l : List (List UInt8)) (hq : StrsR q v l) (hl : ¬ 1048576 < l.length) : Fn Tryz.prog 76 #[v] [q] (fun r Q => Q = [own 9 1 l.length r (strsV l), q]) := by
  have hsl := hq.sl
  obtain ⟨a, cap, rfl⟩ := strsR_sl hq
  refine Fn.mk2 Tryz.func76 rfl rfl fun w0 F => ?_
  refine G.ownNil (T := 9) (sz := 1) ?_
  (refine G.seq ?_; refine G.region ?_; refine GO.assign rfl rfl ?_; refine GO.nil ?_; refine kthen_n ?_; refine G.seq ?_; refine G.seq ?_; refine G.region ?_; refine GO.move rfl rfl ?_; refine GO.eqNilS rfl rfl ?_; refine GO.nil ?_; refine kthen_n ?_)
  cases a with
  | none =>
    have hss : l = [] := by
      obtain ⟨a', cap', e, _, _, hr⟩ := hq
      injection e with e1 _ _
      subst e1
      cases l with
      | nil => rfl
      | cons s ss => obtain ⟨b, o, h, _⟩ := hr (by simp); cases h
    subst hss
    (refine G.condT rfl rfl ?_; refine G.seq ?_; refine G.region ?_; refine GO.assign rfl rfl ?_; refine GO.nil ?_; refine kthen_n ?_; refine G.ret ?_; refine kthen_r ?_)
    refine KF2.r1 rfl (RV.t rfl) rfl (ImpS.sb ?_)
    ((refine Sb.c Tk.h ?_; refine Sb.c Tk.h ?_); (exact Sb.r))
  | some a =>
    (refine G.condF rfl rfl ?_; refine G.skip ?_; refine kthen_n ?_; refine G.seq ?_; refine G.region ?_)
    refine GO.buildSlice0 rfl fun v5 => ?_
    (refine GO.move rfl rfl ?_)
    refine GO.appendFrom (m := l.length) (q := q) rfl rfl rfl Tk.h (Tk.t Tk.h) hsl (strsV_one _) ⟨by decide, rfl⟩ (by unfold maxLen; omega) (by omega) fun v7 => ?_
    rw [List.nil_append, Nat.zero_add l.length]
    (refine GO.assign rfl rfl ?_; refine GO.nil ?_; refine kthen_n ?_; refine G.ret ?_)
    refine KF2.r1 rfl (RV.t rfl) rfl (ImpS.sb ?_)
    ((refine Sb.c Tk.h ?_; refine Sb.c (Tk.t Tk.h) ?_); (refine Sb.s ?_; exact Sb.r))
set_option maxHeartbeats 8000000 in
theorem cloneE_spec (q : HP) (v : Value) (l : List EdgeD) (hq : EdgesR q v l) (hl : ¬ 1048576 < l.length) : Fn Tryz.prog 103 #[v] [q] (fun r Q => Q = [own 80 3 l.length r (edgesV l), q]) := by
  have hsl := hq.sl
  obtain ⟨a, cap, rfl⟩ := edges_sl hq
  refine Fn.mk2 Tryz.func103 rfl rfl fun w0 F => ?_
  refine G.ownNil (T := 80) (sz := 3) ?_
  (refine G.seq ?_; refine G.region ?_; refine GO.assign rfl rfl ?_; refine GO.nil ?_; refine kthen_n ?_; refine G.seq ?_; refine G.seq ?_; refine G.region ?_; refine GO.move rfl rfl ?_; refine GO.eqNilS rfl rfl ?_; refine GO.nil ?_; refine kthen_n ?_)
  cases a with
  | none =>
    have hss : l = [] := by
      obtain ⟨a', cap', e, _, _, hr⟩ := hq
      injection e with e1 _ _
      subst e1
      cases l with
      | nil => rfl
      | cons s ss => obtain ⟨b, o, h, _⟩ := hr (by simp); cases h
    subst hss
    (refine G.condT rfl rfl ?_; refine G.seq ?_; refine G.region ?_; refine GO.assign rfl rfl ?_; refine GO.nil ?_; refine kthen_n ?_; refine G.ret ?_; refine kthen_r ?_)
    refine KF2.r1 rfl (RV.t rfl) rfl (ImpS.sb ?_)
    ((refine Sb.c Tk.h ?_; refine Sb.c Tk.h ?_); (exact Sb.r))
  | some a =>
    (refine G.condF rfl rfl ?_; refine G.skip ?_; refine kthen_n ?_; refine G.seq ?_; refine G.region ?_)
    refine GO.buildSlice0 rfl fun v5 => ?_
    (refine GO.move rfl rfl ?_)
    refine GO.appendFrom (m := l.length) (q := q) rfl rfl rfl Tk.h (Tk.t Tk.h) hsl (edgesV_one _) ⟨by decide, rfl⟩ (by unfold maxLen; omega) (by omega) fun v7 => ?_
    rw [List.nil_append, Nat.zero_add l.length]
    (refine GO.assign rfl rfl ?_; refine GO.nil ?_; refine kthen_n ?_; refine G.ret ?_)
    refine KF2.r1 rfl (RV.t rfl) rfl (ImpS.sb ?_)
    ((refine Sb.c Tk.h ?_; refine Sb.c (Tk.t Tk.h) ?_); (refine Sb.s ?_; exact Sb.r))
end Go.Proofs.YtpgfmfbpmkfbjaaGreat
namespace Go.Proofs.YtpgfmfbpmkfbjaaGreat
open Go
theorem row_str {b : Nat} {ys : List (List UInt8)} {rst : List Value} {T : TypeId} {j : Nat} {y : List UInt8} (h : ys[j]? = some y) : Rd (pt b (row (strsV ys ++ rst) T)) ⟨b, 0 + j * 1, none⟩ (str y) :=
  Rd.row (by
    have hl := (List.getElem?_eq_some_iff.1 h).1
    rw [Nat.zero_add, Nat.mul_one, List.getElem?_append_left (by simpa [strsV] using hl)]
    exact strsV_get h)
theorem strsV_take (ys : List (List UInt8)) (i : Nat) : (strsV ys).take (i * 1) = strsV (ys.take i) := by rw [Nat.mul_one]; simp [strsV]
theorem row_str_set {ys : List (List UInt8)} {rst : List Value} {i : Nat} {u : List UInt8} (h : i < ys.length) : (strsV ys ++ rst).take (0 + i * 1) ++ [str u] ++ (strsV ys ++ rst).drop (0 + i * 1 + 1) = strsV (ys.set i u) ++ rst := by
  have hl : (strsV ys).length = ys.length := by simp [strsV]
  rw [show 0 + i * 1 = i by omega, List.take_append_of_le_length (by omega), List.drop_append_of_le_length (by omega), List.set_eq_take_append_cons_drop, if_pos h]
  simp [strsV]
attribute [local irreducible] capN capM G GO GR GT Fn FnX FnV FnXV Dfr pt init exs pur sat own ImpS compL
set_option maxRecDepth 40000 in
set_option maxHeartbeats 32000000 in
theorem compactS_spec (v : Value) (l : List (List UInt8)) (hn : ¬ 1048576 < l.length) : Fn Tryz.prog 101 #[v] [own 9 1 l.length v (strsV l)] (fun r Q => Q = [own 9 1 (compL l).length r (strsV (compL l))]) := by
  refine Fn.mk2 Tryz.func101 rfl rfl fun w0 F => ?_
  by_cases h2 : l.length < 2
  · have d0 : decide ((l.length : Int) < 2) = true := decide_eq_true (by omega)
    rw [compL_one (by omega)]
    (refine G.seq ?_; refine G.region ?_; refine GO.assign rfl rfl ?_; refine GO.nil ?_; refine kthen_n ?_; refine G.seq ?_; refine G.seq ?_; refine G.region ?_; refine GO.move rfl rfl ?_; refine GO.lenOwn rfl rfl Tk.h ?_; refine GO.lti rfl rfl rfl ?_; refine GO.nil ?_; refine kthen_n ?_; refine G.condT rfl (by assumption) ?_; refine G.seq ?_; refine G.region ?_; refine GO.move rfl rfl ?_; refine GO.assign rfl rfl ?_; refine GO.nil ?_; refine kthen_n ?_; refine G.ret ?_; refine kthen_r ?_)
    refine KF2.r1 rfl (RV.t rfl) rfl (ImpS.sb ?_)
    ((refine Sb.c Tk.h ?_); (exact Sb.r))
  have d0 : decide ((l.length : Int) < 2) = false := decide_eq_false (by omega)
  (refine G.seq ?_; refine G.region ?_; refine GO.assign rfl rfl ?_; refine GO.nil ?_; refine kthen_n ?_; refine G.seq ?_; refine G.seq ?_; refine G.region ?_; refine GO.move rfl rfl ?_; refine GO.lenOwn rfl rfl Tk.h ?_; refine GO.lti rfl rfl rfl ?_; refine GO.nil ?_; refine kthen_n ?_; refine G.condF rfl (by assumption) ?_; refine G.skip ?_; refine kthen_n ?_; refine G.seq ?_; refine G.seq ?_; refine G.region ?_; refine GO.assign rfl rfl ?_; refine GO.nil ?_; refine kthen_n ?_; refine G.block ?_)
  refine G.own_open (F := F) Tk.h (fun _ h _ => ?_) (fun b cap rst hv g1 g2 g3 g4 => ?_)
  · exfalso; omega
  subst hv
  unfold maxLen at g3
  skip
  refine G.loopI (σ := Nat) (fun k => [(0, .slice (some ⟨b, 0, none⟩) l.length cap), (3, i64 ((k + 1 : Nat) : Int))]) (fun _ => pt b (row (strsV l ++ rst) 9) :: F) (fun k => k + 1 ≤ l.length ∧ compL (l.take (k + 1)) = l.take (k + 1)) (fun k => l.length - k) 0 ⟨by omega, compL_one (by rw [List.length_take]; omega)⟩ ?_ ?_ ?_
  · (refine SubE.c rfl rfl ?_; refine SubE.c rfl rfl ?_; exact SubE.n)
  · refine ImpS.sb ?_
    ((refine Sb.c Tk.h ?_); (exact Sb.r))
  rintro k ⟨hk, hU⟩
  (refine G.seq ?_; refine G.seq ?_; refine G.region ?_; refine GO.move rfl rfl ?_; refine GO.move rfl rfl ?_; refine GO.lenS rfl rfl ?_; refine GO.lti rfl rfl rfl ?_; refine GO.nil ?_; refine kthen_n ?_)
  by_cases hlt : k + 1 < l.length
  · have d1 : decide (((k + 1 : Nat) : Int) < (l.length : Int)) = true := decide_eq_true (by omega)
    obtain ⟨x, hx⟩ : ∃ x, l[k]? = some x := ⟨_, List.getElem?_eq_getElem (by omega)⟩
    obtain ⟨y, hy⟩ : ∃ y, l[k + 1]? = some y := ⟨_, List.getElem?_eq_getElem hlt⟩
    have hst := compL_step hx hy
    have rx := row_str (b := b) (rst := rst) (T := 9) hx
    have ry := row_str (b := b) (rst := rst) (T := 9) hy
    (refine G.condT rfl (by assumption) ?_; refine G.skip ?_; refine kthen_n ?_; refine G.seq ?_; refine G.block ?_; refine G.seq ?_)
    refine G.draw 10 (by kernel_rfl) ?_
    ((apply GQ.step; focus (intro Z; refine GO.move rfl rfl ?_; exact KQ.z)); (apply GQ.step; focus (intro Z; refine GO.move rfl rfl ?_; exact KQ.z)); (apply GQ.step; focus (intro Z; refine GO.idxS rfl rfl rfl ⟨rfl, by omega⟩ ?_; exact KQ.z)); (apply GQ.step; focus (intro Z; refine GO.loadQ rfl rfl rfl Tk.h (by assumption) ?_; exact KQ.z)); (apply GQ.step; focus (intro Z; refine GO.move rfl rfl ?_; exact KQ.z)); (apply GQ.step; focus (intro Z; refine GO.move rfl rfl ?_; exact KQ.z)); (apply GQ.step; focus (intro Z; refine GO.subi rfl rfl rfl (by omega) ?_; exact KQ.z)))
    apply GQ.step; focus (intro Z; refine GO.idxS (j := k) rfl rfl rfl ⟨by omega, by omega⟩ ?_; exact KQ.z)
    ((apply GQ.step; focus (intro Z; refine GO.loadQ rfl rfl rfl Tk.h (by assumption) ?_; exact KQ.z)); (apply GQ.step; focus (intro Z; refine GO.binS rfl rfl rfl rfl ?_; exact KQ.z)); refine GQ.nil ?_)
    by_cases hxy : y = x
    · have d2 : decide (y = x) = true := decide_eq_true hxy
      rw [if_pos hxy, List.append_nil, hU] at hst
      (refine GO.nil ?_; refine kthen_n ?_; refine G.condT rfl (by assumption) ?_; refine G.seq ?_; refine G.region ?_; refine GO.move rfl rfl ?_; refine GO.move rfl rfl ?_)
      refine GO.sliceLo (l := k + 1) rfl rfl rfl ⟨rfl, by omega, by omega⟩ ?_
      (refine GO.assign rfl rfl ?_; refine GO.nil ?_; refine kthen_n ?_; refine G.seq ?_; refine G.seq ?_; refine G.region ?_; refine GO.assign rfl rfl ?_; refine GO.nil ?_; refine kthen_n ?_; refine G.block ?_)
      refine G.loopI (σ := Nat × Nat × List (List UInt8)) (fun z => [(0, .slice (some ⟨b, 0, none⟩) l.length cap), (3, i64 (z.1 : Nat)), (4, .slice (some ⟨b, 0 + (k + 1) * 1, none⟩) (l.length - (k + 1)) (cap - (k + 1))), (5, i64 ((z.2.1 + 1 : Nat) : Int))]) (fun z => pt b (row (strsV z.2.2 ++ rst) 9) :: F)
        (fun z => k + 1 + z.2.1 + 1 ≤ l.length ∧ z.2.2.length = l.length ∧ 1 ≤ z.1 ∧ z.1 ≤ k + 1 + z.2.1 ∧ z.2.2.drop (k + 1 + z.2.1) = l.drop (k + 1 + z.2.1) ∧ z.2.2.take z.1 = compL (l.take (k + 1 + z.2.1 + 1))) (fun z => l.length - z.2.1) (k + 1, 0, l) ⟨by dsimp only; omega, rfl, by dsimp only; omega, by dsimp only; omega, rfl, hst.symm⟩ ?_ ?_ ?_
      · (refine SubE.c rfl rfl ?_; refine SubE.c rfl rfl ?_; refine SubE.c rfl rfl ?_; refine SubE.c rfl rfl ?_; exact SubE.n)
      · refine ImpS.sb ?_
        ((refine Sb.c Tk.h ?_); (exact Sb.r))
      clear hst rx ry hx hy hU
      rintro ⟨i, j, ys⟩ ⟨hj, hyl, hi1, hij, hdr, htk⟩
      dsimp only at hj hyl hi1 hij hdr htk ⊢
      (refine G.seq ?_; refine G.seq ?_; refine G.region ?_; refine GO.move rfl rfl ?_; refine GO.move rfl rfl ?_; refine GO.lenS rfl rfl ?_; refine GO.lti rfl rfl rfl ?_; refine GO.nil ?_; refine kthen_n ?_)
      by_cases hlt3 : k + 1 + j + 1 < l.length
      · have d3 : decide (((j + 1 : Nat) : Int) < ((l.length - (k + 1) : Nat) : Int)) = true := decide_eq_true (by omega)
        obtain ⟨u, hu⟩ : ∃ u, l[k + 1 + j + 1]? = some u := ⟨_, List.getElem?_eq_getElem hlt3⟩
        obtain ⟨t, ht⟩ : ∃ t, l[k + 1 + j]? = some t := ⟨_, List.getElem?_eq_getElem (by omega)⟩
        have hst := compL_step ht hu
        have hat : ∀ m, k + 1 + j ≤ m → ys[m]? = l[m]? := fun m hm => by
          have := congrArg (fun l => l[m - (k + 1 + j)]?) hdr
          simp only [List.getElem?_drop] at this
          rwa [show k + 1 + j + (m - (k + 1 + j)) = m by omega] at this
        have hu' := hu
        have ht' := ht
        rw [← hat _ (by omega)] at hu' ht'
        have ru := row_str (b := b) (rst := rst) (T := 9) hu'
        have rt := row_str (b := b) (rst := rst) (T := 9) ht'
        rw [show 0 + (k + 1 + j + 1) * 1 = 0 + (k + 1) * 1 + (j + 1) * 1 by omega] at ru
        rw [show 0 + (k + 1 + j) * 1 = 0 + (k + 1) * 1 + j * 1 by omega] at rt
        have hdr1 : ys.drop (k + 1 + (j + 1)) = l.drop (k + 1 + (j + 1)) := by
          have := congrArg (fun l => l.drop 1) hdr
          simpa [List.drop_drop, Nat.add_assoc] using this
        (refine G.condT rfl (by assumption) ?_; refine G.skip ?_; refine kthen_n ?_; refine G.seq ?_; refine G.block ?_; refine G.seq ?_)
        refine G.draw 10 (by kernel_rfl) ?_
        ((apply GQ.step; focus (intro Z; refine GO.move rfl rfl ?_; exact KQ.z)); (apply GQ.step; focus (intro Z; refine GO.move rfl rfl ?_; exact KQ.z)); (apply GQ.step; focus (intro Z; refine GO.idxS rfl rfl rfl ⟨rfl, by omega⟩ ?_; exact KQ.z)); (apply GQ.step; focus (intro Z; refine GO.loadQ rfl rfl rfl Tk.h (by assumption) ?_; exact KQ.z)); (apply GQ.step; focus (intro Z; refine GO.move rfl rfl ?_; exact KQ.z)); (apply GQ.step; focus (intro Z; refine GO.move rfl rfl ?_; exact KQ.z)); (apply GQ.step; focus (intro Z; refine GO.subi rfl rfl rfl (by omega) ?_; exact KQ.z)))
        apply GQ.step; focus (intro Z; refine GO.idxS (j := j) rfl rfl rfl ⟨by omega, by omega⟩ ?_; exact KQ.z)
        ((apply GQ.step; focus (intro Z; refine GO.loadQ rfl rfl rfl Tk.h (by assumption) ?_; exact KQ.z)); (apply GQ.step; focus (intro Z; refine GO.binS rfl rfl rfl rfl ?_; exact KQ.z)); refine GQ.nil ?_)
        by_cases hut : u = t
        · have d4 : decide (u ≠ t) = false := decide_eq_false (fun h => h hut)
          rw [if_pos hut, List.append_nil] at hst
          (refine GO.nil ?_; refine kthen_n ?_; refine G.condF rfl (by assumption) ?_; refine G.skip ?_; refine kblock_n ?_; refine kthen_n ?_; refine G.region ?_; refine GO.move rfl rfl ?_; refine GO.addi rfl rfl rfl (by omega) ?_; refine GO.assign rfl rfl ?_; refine GO.nil ?_; refine kthen_n ?_)
          refine ⟨(i, j + 1, ys), ⟨by dsimp only; omega, hyl, hi1, by dsimp only; omega, hdr1, by dsimp only; rw [htk, ← hst]; rfl⟩, by dsimp only; omega, ?_, ImpS.sb ?_⟩
          · (refine SubE.c rfl rfl ?_; refine SubE.c rfl rfl ?_; refine SubE.c rfl rfl ?_; refine SubE.c rfl rfl ?_; exact SubE.n)
          · ((refine Sb.c Tk.h ?_); (exact Sb.r))
        · have d4 : decide (u ≠ t) = true := decide_eq_true hut
          rw [if_neg hut] at hst
          have hil : i < ys.length := by omega
          have hset := row_str_set (rst := rst) (u := u) hil
          have hlen : (strsV ys).length = ys.length * 1 := strsV_len ys
          (refine GO.nil ?_; refine kthen_n ?_; refine G.condT rfl (by assumption) ?_; refine G.seq ?_; refine G.region ?_; refine GO.move rfl rfl ?_; refine GO.move rfl rfl ?_; refine GO.move rfl rfl ?_; refine GO.move rfl rfl ?_; refine GO.idxS rfl rfl rfl ⟨rfl, by omega⟩ ?_; refine GO.loadQ rfl rfl rfl Tk.h (by assumption) ?_; refine GO.idxS rfl rfl rfl ⟨rfl, by omega⟩ ?_)
          refine GO.storeG (l := strsV ys ++ rst) (vs := [str u]) rfl rfl rfl rfl Tk.h (by rw [List.length_append]; simp only [List.length_cons, List.length_nil]; omega) (by simp [Value.oneCell', str]) ?_
          simp only [List.length_cons, List.length_nil, Nat.zero_add 1, Nat.reduceAdd]
          rw [hset]
          (refine GO.nil ?_; refine kthen_n ?_; refine G.region ?_; refine GO.move rfl rfl ?_; refine GO.addi rfl rfl rfl (by omega) ?_; refine GO.assign rfl rfl ?_; refine GO.nil ?_; refine kblock_n ?_; refine kthen_n ?_; refine G.region ?_; refine GO.move rfl rfl ?_; refine GO.addi rfl rfl rfl (by omega) ?_; refine GO.assign rfl rfl ?_; refine GO.nil ?_; refine kthen_n ?_)
          refine ⟨(i + 1, j + 1, ys.set i u), ⟨by dsimp only; omega, by dsimp only; rw [List.length_set]; exact hyl, by dsimp only; omega, by dsimp only; omega, by dsimp only; rw [List.drop_set_of_lt (by omega)]; exact hdr1, ?_⟩, by dsimp only; omega, ?_, ImpS.sb ?_⟩
          · dsimp only
            rw [List.take_add_one, List.getElem?_set_self hil, List.take_set_of_le (Nat.le_refl _), htk]
            exact hst.symm
          · (refine SubE.c rfl rfl ?_; refine SubE.c rfl rfl ?_; refine SubE.c rfl rfl ?_; refine SubE.c rfl rfl ?_; exact SubE.n)
          · ((refine Sb.c Tk.h ?_); (exact Sb.r))
      · have d3 : decide (((j + 1 : Nat) : Int) < ((l.length - (k + 1) : Nat) : Int)) = false := decide_eq_false (by omega)
        rw [List.take_of_length_le (show l.length ≤ k + 1 + j + 1 by omega)] at htk
        have hlen : (strsV ys).length = ys.length * 1 := strsV_len ys
        have hel : (strsV l).length = l.length * 1 := strsV_len l
        have htl : (ys.take i).length = i := by rw [List.length_take]; omega
        have hlen2 : (strsV (ys.take i)).length = (ys.take i).length * 1 := strsV_len _
        rw [List.length_append] at g4
        (refine G.condF rfl (by assumption) ?_; refine G.exit ?_; refine kthen_x ?_; refine kthen_x ?_; refine kblock_x ?_; refine kthen_n ?_; refine G.seq ?_; refine G.region ?_; refine GO.move rfl rfl ?_; refine GO.move rfl rfl ?_)
        refine GO.sliceLo (l := i) rfl rfl rfl ⟨rfl, by omega, by omega⟩ ?_
        refine GO.clear (l := strsV ys ++ rst) rfl Tk.h (by omega) (by rw [List.length_append]; simp only [List.length_cons, List.length_nil]; omega) (by simp [Value.oneCell']) fun vs hvs => ?_
        simp only [List.length_cons, List.length_nil] at hvs
        have e1 : (strsV ys ++ rst).take (0 + i * 1) = strsV (ys.take i) := by
          rw [Nat.zero_add, List.take_append_of_le_length (by omega), strsV_take]
        rw [e1, List.append_assoc]
        (refine GO.nil ?_; refine kthen_n ?_; refine G.seq ?_; refine G.region ?_; refine GO.move rfl rfl ?_; refine GO.move rfl rfl ?_)
        refine GO.sliceHi (l := i) rfl rfl rfl ⟨rfl, by omega⟩ ?_
        refine GO.ownShut (sz := 1) (n := i) (cap := cap) rfl (by rw [hlen2, htl]) (by omega) (by unfold maxLen; omega) (by rw [List.length_append, List.length_append, List.length_drop, List.length_append, hlen2, htl]; omega) ?_
        rw [htk] at htl ⊢
        rw [htl]
        (refine GO.assign rfl rfl ?_; refine GO.nil ?_; refine kthen_n ?_; refine G.ret ?_; refine kblock_r ?_; refine kthen_r ?_; refine kthen_r ?_; refine kblock_r ?_; refine kthen_r ?_)
        refine KF2.r1 rfl (RV.t rfl) rfl (ImpS.sb ?_)
        ((refine Sb.c Tk.h ?_); (exact Sb.r))
    · have d2 : decide (y = x) = false := decide_eq_false hxy
      rw [if_neg hxy, hU, ← take_snoc hy] at hst
      (refine GO.nil ?_; refine kthen_n ?_; refine G.condF rfl (by assumption) ?_; refine G.skip ?_; refine kblock_n ?_; refine kthen_n ?_; refine G.region ?_; refine GO.move rfl rfl ?_; refine GO.addi rfl rfl rfl (by omega) ?_; refine GO.assign rfl rfl ?_; refine GO.nil ?_; refine kthen_n ?_)
      refine ⟨k + 1, ⟨by omega, hst⟩, by omega, ?_, ImpS.sb ?_⟩
      · (refine SubE.c rfl rfl ?_; refine SubE.c rfl rfl ?_; exact SubE.n)
      · ((refine Sb.c Tk.h ?_); (exact Sb.r))
  · have d1 : decide (((k + 1 : Nat) : Int) < (l.length : Int)) = false := decide_eq_false (by omega)
    rw [List.take_of_length_le (by omega)] at hU
    rw [hU]
    (refine G.condF rfl (by assumption) ?_; refine G.exit ?_; refine kthen_x ?_; refine kthen_x ?_; refine kblock_x ?_; refine kthen_n ?_; refine G.seq ?_; refine G.region ?_; refine GO.move rfl rfl ?_; refine GO.assign rfl rfl ?_; refine GO.nil ?_; refine kthen_n ?_; refine G.ret ?_)
    refine KF2.r1 rfl (RV.t rfl) rfl ?_
    refine ImpS.own (rest' := rst) rfl g1 g2 (by unfold maxLen; omega) g4 (ImpS.sb ?_)
    ((refine Sb.c Tk.h ?_); (exact Sb.r))
end Go.Proofs.YtpgfmfbpmkfbjaaGreat
namespace Go.Proofs.YtpgfmfbpmkfbjaaGreat
open Go
theorem eqEdge (a b : EdgeD) : EqR Tryz.prog 10000 80 (edgeA a) (edgeA b) (decide (a = b)) := by
  have h : EqR Tryz.prog (9998 + 1 + 1) 80 (.agg (edgeVs a).toArray) (.agg (edgeVs b).toArray) (decide (a.src = b.src) && (decide (a.lab = b.lab) && decide (a.dst = b.dst))) :=
    EqR.struct (P := Tryz.prog) (d := 9999) (t := 80) (l := edgeVs a) (l' := edgeVs b) ⟨str a.src, str b.src, _, _, by decide, PartR.one rfl rfl, PartR.one rfl rfl, eqR_str, ⟨str a.lab, str b.lab, _, _, by decide, PartR.one rfl rfl, PartR.one rfl rfl, eqR_str, ⟨str a.dst, str b.dst, _, true, by decide, PartR.one rfl rfl, PartR.one rfl rfl, eqR_str, rfl, (Bool.and_true _).symm⟩, rfl⟩, rfl⟩
  rwa [show (decide (a.src = b.src) && (decide (a.lab = b.lab) && decide (a.dst = b.dst))) = decide (a = b) by
    rw [Bool.eq_iff_iff]; simp only [Bool.and_eq_true, decide_eq_true_iff]
    constructor
    · rintro ⟨h1, h2, h3⟩; cases a; cases b; simp only at h1 h2 h3; subst h1 h2 h3; rfl
    · rintro rfl; exact ⟨rfl, rfl, rfl⟩] at h
theorem row_edge {b : Nat} {ys : List EdgeD} {rst : List Value} {T : TypeId} {j : Nat} {y : EdgeD} (h : ys[j]? = some y) : ∀ i u, (edgeVs y)[i]? = some u → Rd (pt b (row (edgesV ys ++ rst) T)) ⟨b, 0 + j * 3 + i, none⟩ u := fun i u hu =>
  Rd.row (by
    have hl := (List.getElem?_eq_some_iff.1 h).1
    have hi : i < 3 := (List.getElem?_eq_some_iff.1 hu).1
    rw [Nat.zero_add, List.getElem?_append_left (by rw [edgesV_len]; omega)]
    unfold edgesV
    rw [flatX_get (enc := edgeVs) (k := 3) (fun _ => rfl) h hi]
    exact hu)
theorem edgesV_take (ys : List EdgeD) (i : Nat) : (edgesV ys).take (i * 3) = edgesV (ys.take i) := by
  by_cases h : i ≤ ys.length
  · have e : edgesV ys = edgesV (ys.take i) ++ edgesV (ys.drop i) := by rw [← edgesV_app, List.take_append_drop]
    rw [e, List.take_append_of_le_length (by rw [edgesV_len, List.length_take]; omega), List.take_of_length_le (by rw [edgesV_len, List.length_take]; omega)]
  · rw [List.take_of_length_le (by rw [edgesV_len]; omega), List.take_of_length_le (by omega)]
theorem edgesV_drop (ys : List EdgeD) (i : Nat) (h : i ≤ ys.length) : (edgesV ys).drop (i * 3) = edgesV (ys.drop i) := by
  have e : edgesV ys = edgesV (ys.take i) ++ edgesV (ys.drop i) := by rw [← edgesV_app, List.take_append_drop]
  rw [e, List.drop_append_of_le_length (by rw [edgesV_len, List.length_take]; omega), List.drop_eq_nil_of_le (by rw [edgesV_len, List.length_take]; omega), List.nil_append]
theorem row_edge_set {ys : List EdgeD} {rst : List Value} {i : Nat} {u : EdgeD} (h : i < ys.length) : (edgesV ys ++ rst).take (0 + i * 3) ++ [str u.src, str u.lab, str u.dst] ++ (edgesV ys ++ rst).drop (0 + i * 3 + 3) = edgesV (ys.set i u) ++ rst := by
  have hl := edgesV_len ys
  rw [show 0 + i * 3 = i * 3 by omega, show i * 3 + 3 = (i + 1) * 3 by omega, List.take_append_of_le_length (by omega), List.drop_append_of_le_length (by omega), edgesV_take, edgesV_drop _ _ (by omega), List.set_eq_take_append_cons_drop, if_pos h, edgesV_app]
  rw [show edgesV (u :: ys.drop (i + 1)) = [str u.src, str u.lab, str u.dst] ++ edgesV (ys.drop (i + 1)) from rfl]
  simp
attribute [local irreducible] capN capM G GO GR GT Fn FnX FnV FnXV Dfr pt init exs pur sat own ImpS compL
set_option maxRecDepth 40000 in
set_option maxHeartbeats 32000000 in
theorem compactE_spec (v : Value) (l : List EdgeD) (hn : ¬ 1048576 < l.length) : Fn Tryz.prog 105 #[v] [own 80 3 l.length v (edgesV l)] (fun r Q => Q = [own 80 3 (compL l).length r (edgesV (compL l))]) := by
  refine Fn.mk2 Tryz.func105 rfl rfl fun w0 F => ?_
  by_cases h2 : l.length < 2
  · have d0 : decide ((l.length : Int) < 2) = true := decide_eq_true (by omega)
    rw [compL_one (by omega)]
    (refine G.seq ?_; refine G.region ?_; refine GO.assign rfl rfl ?_; refine GO.nil ?_; refine kthen_n ?_; refine G.seq ?_; refine G.seq ?_; refine G.region ?_; refine GO.move rfl rfl ?_; refine GO.lenOwn rfl rfl Tk.h ?_; refine GO.lti rfl rfl rfl ?_; refine GO.nil ?_; refine kthen_n ?_; refine G.condT rfl (by assumption) ?_; refine G.seq ?_; refine G.region ?_; refine GO.move rfl rfl ?_; refine GO.assign rfl rfl ?_; refine GO.nil ?_; refine kthen_n ?_; refine G.ret ?_; refine kthen_r ?_)
    refine KF2.r1 rfl (RV.t rfl) rfl (ImpS.sb ?_)
    ((refine Sb.c Tk.h ?_); (exact Sb.r))
  have d0 : decide ((l.length : Int) < 2) = false := decide_eq_false (by omega)
  (refine G.seq ?_; refine G.region ?_; refine GO.assign rfl rfl ?_; refine GO.nil ?_; refine kthen_n ?_; refine G.seq ?_; refine G.seq ?_; refine G.region ?_; refine GO.move rfl rfl ?_; refine GO.lenOwn rfl rfl Tk.h ?_; refine GO.lti rfl rfl rfl ?_; refine GO.nil ?_; refine kthen_n ?_; refine G.condF rfl (by assumption) ?_; refine G.skip ?_; refine kthen_n ?_; refine G.seq ?_; refine G.seq ?_; refine G.region ?_; refine GO.assign rfl rfl ?_; refine GO.nil ?_; refine kthen_n ?_; refine G.block ?_)
  refine G.own_open (F := F) Tk.h (fun _ h _ => ?_) (fun b cap rst hv g1 g2 g3 g4 => ?_)
  · exfalso; omega
  subst hv
  unfold maxLen at g3
  skip
  refine G.loopI (σ := Nat) (fun k => [(0, .slice (some ⟨b, 0, none⟩) l.length cap), (3, i64 ((k + 1 : Nat) : Int))]) (fun _ => pt b (row (edgesV l ++ rst) 80) :: F) (fun k => k + 1 ≤ l.length ∧ compL (l.take (k + 1)) = l.take (k + 1)) (fun k => l.length - k) 0 ⟨by omega, compL_one (by rw [List.length_take]; omega)⟩ ?_ ?_ ?_
  · (refine SubE.c rfl rfl ?_; refine SubE.c rfl rfl ?_; exact SubE.n)
  · refine ImpS.sb ?_
    ((refine Sb.c Tk.h ?_); (exact Sb.r))
  rintro k ⟨hk, hU⟩
  (refine G.seq ?_; refine G.seq ?_; refine G.region ?_; refine GO.move rfl rfl ?_; refine GO.move rfl rfl ?_; refine GO.lenS rfl rfl ?_; refine GO.lti rfl rfl rfl ?_; refine GO.nil ?_; refine kthen_n ?_)
  by_cases hlt : k + 1 < l.length
  · have d1 : decide (((k + 1 : Nat) : Int) < (l.length : Int)) = true := decide_eq_true (by omega)
    obtain ⟨x, hx⟩ : ∃ x, l[k]? = some x := ⟨_, List.getElem?_eq_getElem (by omega)⟩
    obtain ⟨y, hy⟩ : ∃ y, l[k + 1]? = some y := ⟨_, List.getElem?_eq_getElem hlt⟩
    have hst := compL_step hx hy
    have rx := row_edge (b := b) (rst := rst) (T := 80) hx
    have ry := row_edge (b := b) (rst := rst) (T := 80) hy
    (refine G.condT rfl (by assumption) ?_; refine G.skip ?_; refine kthen_n ?_; refine G.seq ?_; refine G.block ?_; refine G.seq ?_)
    refine G.draw 10 (by kernel_rfl) ?_
    ((apply GQ.step; focus (intro Z; refine GO.move rfl rfl ?_; exact KQ.z)); (apply GQ.step; focus (intro Z; refine GO.move rfl rfl ?_; exact KQ.z)); (apply GQ.step; focus (intro Z; refine GO.idxS rfl rfl rfl ⟨rfl, by omega⟩ ?_; exact KQ.z)))
    apply GQ.step; focus (intro Z; refine GO.loadM (vs := edgeVs y) rfl rfl rfl Tk.h rfl ry ?_; exact KQ.z)
    ((apply GQ.step; focus (intro Z; refine GO.move rfl rfl ?_; exact KQ.z)); (apply GQ.step; focus (intro Z; refine GO.move rfl rfl ?_; exact KQ.z)); (apply GQ.step; focus (intro Z; refine GO.subi rfl rfl rfl (by omega) ?_; exact KQ.z)))
    apply GQ.step; focus (intro Z; refine GO.idxS (j := k) rfl rfl rfl ⟨by omega, by omega⟩ ?_; exact KQ.z)
    skip
    apply GQ.step; focus (intro Z; refine GO.loadM (vs := edgeVs x) rfl rfl rfl Tk.h rfl rx ?_; exact KQ.z)
    skip
    apply GQ.step; focus (intro Z; refine GO.eqlA (eqEdge y x) rfl rfl rfl ?_; exact KQ.z)
    (refine GQ.nil ?_)
    by_cases hxy : y = x
    · have d2 : decide (y = x) = true := decide_eq_true hxy
      rw [if_pos hxy, List.append_nil, hU] at hst
      (refine GO.nil ?_; refine kthen_n ?_; refine G.condT rfl (by assumption) ?_; refine G.seq ?_; refine G.region ?_; refine GO.move rfl rfl ?_; refine GO.move rfl rfl ?_)
      refine GO.sliceLo (l := k + 1) rfl rfl rfl ⟨rfl, by omega, by omega⟩ ?_
      (refine GO.assign rfl rfl ?_; refine GO.nil ?_; refine kthen_n ?_; refine G.seq ?_; refine G.seq ?_; refine G.region ?_; refine GO.assign rfl rfl ?_; refine GO.nil ?_; refine kthen_n ?_; refine G.block ?_)
      refine G.loopI (σ := Nat × Nat × List EdgeD) (fun z => [(0, .slice (some ⟨b, 0, none⟩) l.length cap), (3, i64 (z.1 : Nat)), (4, .slice (some ⟨b, 0 + (k + 1) * 3, none⟩) (l.length - (k + 1)) (cap - (k + 1))), (5, i64 ((z.2.1 + 1 : Nat) : Int))]) (fun z => pt b (row (edgesV z.2.2 ++ rst) 80) :: F)
        (fun z => k + 1 + z.2.1 + 1 ≤ l.length ∧ z.2.2.length = l.length ∧ 1 ≤ z.1 ∧ z.1 ≤ k + 1 + z.2.1 ∧ z.2.2.drop (k + 1 + z.2.1) = l.drop (k + 1 + z.2.1) ∧ z.2.2.take z.1 = compL (l.take (k + 1 + z.2.1 + 1))) (fun z => l.length - z.2.1) (k + 1, 0, l) ⟨by dsimp only; omega, rfl, by dsimp only; omega, by dsimp only; omega, rfl, hst.symm⟩ ?_ ?_ ?_
      · (refine SubE.c rfl rfl ?_; refine SubE.c rfl rfl ?_; refine SubE.c rfl rfl ?_; refine SubE.c rfl rfl ?_; exact SubE.n)
      · refine ImpS.sb ?_
        ((refine Sb.c Tk.h ?_); (exact Sb.r))
      clear hst rx ry hx hy hU
      rintro ⟨i, j, ys⟩ ⟨hj, hyl, hi1, hij, hdr, htk⟩
      dsimp only at hj hyl hi1 hij hdr htk ⊢
      (refine G.seq ?_; refine G.seq ?_; refine G.region ?_; refine GO.move rfl rfl ?_; refine GO.move rfl rfl ?_; refine GO.lenS rfl rfl ?_; refine GO.lti rfl rfl rfl ?_; refine GO.nil ?_; refine kthen_n ?_)
      by_cases hlt3 : k + 1 + j + 1 < l.length
      · have d3 : decide (((j + 1 : Nat) : Int) < ((l.length - (k + 1) : Nat) : Int)) = true := decide_eq_true (by omega)
        obtain ⟨u, hu⟩ : ∃ u, l[k + 1 + j + 1]? = some u := ⟨_, List.getElem?_eq_getElem hlt3⟩
        obtain ⟨t, ht⟩ : ∃ t, l[k + 1 + j]? = some t := ⟨_, List.getElem?_eq_getElem (by omega)⟩
        have hst := compL_step ht hu
        have hat : ∀ m, k + 1 + j ≤ m → ys[m]? = l[m]? := fun m hm => by
          have := congrArg (fun l => l[m - (k + 1 + j)]?) hdr
          simp only [List.getElem?_drop] at this
          rwa [show k + 1 + j + (m - (k + 1 + j)) = m by omega] at this
        have hu' := hu
        have ht' := ht
        rw [← hat _ (by omega)] at hu' ht'
        have ru := row_edge (b := b) (rst := rst) (T := 80) hu'
        have rt := row_edge (b := b) (rst := rst) (T := 80) ht'
        rw [show 0 + (k + 1 + j + 1) * 3 = 0 + (k + 1) * 3 + (j + 1) * 3 by omega] at ru
        rw [show 0 + (k + 1 + j) * 3 = 0 + (k + 1) * 3 + j * 3 by omega] at rt
        have hdr1 : ys.drop (k + 1 + (j + 1)) = l.drop (k + 1 + (j + 1)) := by
          have := congrArg (fun l => l.drop 1) hdr
          simpa [List.drop_drop, Nat.add_assoc] using this
        (refine G.condT rfl (by assumption) ?_; refine G.skip ?_; refine kthen_n ?_; refine G.seq ?_; refine G.block ?_; refine G.seq ?_)
        refine G.draw 10 (by kernel_rfl) ?_
        ((apply GQ.step; focus (intro Z; refine GO.move rfl rfl ?_; exact KQ.z)); (apply GQ.step; focus (intro Z; refine GO.move rfl rfl ?_; exact KQ.z)); (apply GQ.step; focus (intro Z; refine GO.idxS rfl rfl rfl ⟨rfl, by omega⟩ ?_; exact KQ.z)))
        apply GQ.step; focus (intro Z; refine GO.loadM (vs := edgeVs u) rfl rfl rfl Tk.h rfl ru ?_; exact KQ.z)
        ((apply GQ.step; focus (intro Z; refine GO.move rfl rfl ?_; exact KQ.z)); (apply GQ.step; focus (intro Z; refine GO.move rfl rfl ?_; exact KQ.z)); (apply GQ.step; focus (intro Z; refine GO.subi rfl rfl rfl (by omega) ?_; exact KQ.z)))
        apply GQ.step; focus (intro Z; refine GO.idxS (j := j) rfl rfl rfl ⟨by omega, by omega⟩ ?_; exact KQ.z)
        skip
        apply GQ.step; focus (intro Z; refine GO.loadM (vs := edgeVs t) rfl rfl rfl Tk.h rfl rt ?_; exact KQ.z)
        skip
        apply GQ.step; focus (intro Z; refine GO.neqA (eqEdge u t) rfl rfl rfl ?_; exact KQ.z)
        (refine GQ.nil ?_)
        by_cases hut : u = t
        · have d4 : (!decide (u = t)) = false := by rw [decide_eq_true hut]; rfl
          rw [d4]
          rw [if_pos hut, List.append_nil] at hst
          (refine GO.nil ?_; refine kthen_n ?_; refine G.condF rfl rfl ?_; refine G.skip ?_; refine kblock_n ?_; refine kthen_n ?_; refine G.region ?_; refine GO.move rfl rfl ?_; refine GO.addi rfl rfl rfl (by omega) ?_; refine GO.assign rfl rfl ?_; refine GO.nil ?_; refine kthen_n ?_)
          refine ⟨(i, j + 1, ys), ⟨by dsimp only; omega, hyl, hi1, by dsimp only; omega, hdr1, by dsimp only; rw [htk, ← hst]; rfl⟩, by dsimp only; omega, ?_, ImpS.sb ?_⟩
          · (refine SubE.c rfl rfl ?_; refine SubE.c rfl rfl ?_; refine SubE.c rfl rfl ?_; refine SubE.c rfl rfl ?_; exact SubE.n)
          · ((refine Sb.c Tk.h ?_); (exact Sb.r))
        · have d4 : (!decide (u = t)) = true := by rw [decide_eq_false hut]; rfl
          rw [d4]
          rw [if_neg hut] at hst
          have hil : i < ys.length := by omega
          have hset := row_edge_set (rst := rst) (u := u) hil
          have hlen : (edgesV ys).length = ys.length * 3 := edgesV_len ys
          (refine GO.nil ?_; refine kthen_n ?_; refine G.condT rfl rfl ?_; refine G.seq ?_; refine G.region ?_; refine GO.move rfl rfl ?_; refine GO.move rfl rfl ?_; refine GO.move rfl rfl ?_; refine GO.move rfl rfl ?_; refine GO.idxS rfl rfl rfl ⟨rfl, by omega⟩ ?_)
          refine GO.loadM (vs := [str u.src, str u.lab, str u.dst]) rfl rfl rfl Tk.h rfl ru ?_
          (refine GO.idxS rfl rfl rfl ⟨rfl, by omega⟩ ?_)
          refine GO.storeG (l := edgesV ys ++ rst) (vs := [str u.src, str u.lab, str u.dst]) rfl rfl rfl rfl Tk.h (by rw [List.length_append]; simp only [List.length_cons, List.length_nil]; omega) (by simp [Value.oneCell', str]) ?_
          simp only [List.length_cons, List.length_nil, Nat.zero_add 1, Nat.reduceAdd]
          rw [hset]
          (refine GO.nil ?_; refine kthen_n ?_; refine G.region ?_; refine GO.move rfl rfl ?_; refine GO.addi rfl rfl rfl (by omega) ?_; refine GO.assign rfl rfl ?_; refine GO.nil ?_; refine kblock_n ?_; refine kthen_n ?_; refine G.region ?_; refine GO.move rfl rfl ?_; refine GO.addi rfl rfl rfl (by omega) ?_; refine GO.assign rfl rfl ?_; refine GO.nil ?_; refine kthen_n ?_)
          refine ⟨(i + 1, j + 1, ys.set i u), ⟨by dsimp only; omega, by dsimp only; rw [List.length_set]; exact hyl, by dsimp only; omega, by dsimp only; omega, by dsimp only; rw [List.drop_set_of_lt (by omega)]; exact hdr1, ?_⟩, by dsimp only; omega, ?_, ImpS.sb ?_⟩
          · dsimp only
            rw [List.take_add_one, List.getElem?_set_self hil, List.take_set_of_le (Nat.le_refl _), htk]
            exact hst.symm
          · (refine SubE.c rfl rfl ?_; refine SubE.c rfl rfl ?_; refine SubE.c rfl rfl ?_; refine SubE.c rfl rfl ?_; exact SubE.n)
          · ((refine Sb.c Tk.h ?_); (exact Sb.r))
      · have d3 : decide (((j + 1 : Nat) : Int) < ((l.length - (k + 1) : Nat) : Int)) = false := decide_eq_false (by omega)
        rw [List.take_of_length_le (show l.length ≤ k + 1 + j + 1 by omega)] at htk
        have hlen : (edgesV ys).length = ys.length * 3 := edgesV_len ys
        have hel : (edgesV l).length = l.length * 3 := edgesV_len l
        have htl : (ys.take i).length = i := by rw [List.length_take]; omega
        have hlen2 : (edgesV (ys.take i)).length = (ys.take i).length * 3 := edgesV_len _
        rw [List.length_append] at g4
        (refine G.condF rfl (by assumption) ?_; refine G.exit ?_; refine kthen_x ?_; refine kthen_x ?_; refine kblock_x ?_; refine kthen_n ?_; refine G.seq ?_; refine G.region ?_; refine GO.move rfl rfl ?_; refine GO.move rfl rfl ?_)
        refine GO.sliceLo (l := i) rfl rfl rfl ⟨rfl, by omega, by omega⟩ ?_
        refine GO.clear (l := edgesV ys ++ rst) rfl Tk.h (by omega) (by rw [List.length_append]; simp only [List.length_cons, List.length_nil]; omega) (by simp [Value.oneCell']) fun vs hvs => ?_
        simp only [List.length_cons, List.length_nil] at hvs
        have e1 : (edgesV ys ++ rst).take (0 + i * 3) = edgesV (ys.take i) := by
          rw [Nat.zero_add, List.take_append_of_le_length (by omega), edgesV_take]
        rw [e1, List.append_assoc]
        (refine GO.nil ?_; refine kthen_n ?_; refine G.seq ?_; refine G.region ?_; refine GO.move rfl rfl ?_; refine GO.move rfl rfl ?_)
        refine GO.sliceHi (l := i) rfl rfl rfl ⟨rfl, by omega⟩ ?_
        refine GO.ownShut (sz := 3) (n := i) (cap := cap) rfl (by rw [hlen2, htl]) (by omega) (by unfold maxLen; omega) (by rw [List.length_append, List.length_append, List.length_drop, List.length_append, hlen2, htl]; omega) ?_
        rw [htk] at htl ⊢
        rw [htl]
        (refine GO.assign rfl rfl ?_; refine GO.nil ?_; refine kthen_n ?_; refine G.ret ?_; refine kblock_r ?_; refine kthen_r ?_; refine kthen_r ?_; refine kblock_r ?_; refine kthen_r ?_)
        refine KF2.r1 rfl (RV.t rfl) rfl (ImpS.sb ?_)
        ((refine Sb.c Tk.h ?_); (exact Sb.r))
    · have d2 : decide (y = x) = false := decide_eq_false hxy
      rw [if_neg hxy, hU, ← take_snoc hy] at hst
      (refine GO.nil ?_; refine kthen_n ?_; refine G.condF rfl (by assumption) ?_; refine G.skip ?_; refine kblock_n ?_; refine kthen_n ?_; refine G.region ?_; refine GO.move rfl rfl ?_; refine GO.addi rfl rfl rfl (by omega) ?_; refine GO.assign rfl rfl ?_; refine GO.nil ?_; refine kthen_n ?_)
      refine ⟨k + 1, ⟨by omega, hst⟩, by omega, ?_, ImpS.sb ?_⟩
      · (refine SubE.c rfl rfl ?_; refine SubE.c rfl rfl ?_; exact SubE.n)
      · ((refine Sb.c Tk.h ?_); (exact Sb.r))
  · have d1 : decide (((k + 1 : Nat) : Int) < (l.length : Int)) = false := decide_eq_false (by omega)
    rw [List.take_of_length_le (by omega)] at hU
    rw [hU]
    (refine G.condF rfl (by assumption) ?_; refine G.exit ?_; refine kthen_x ?_; refine kthen_x ?_; refine kblock_x ?_; refine kthen_n ?_; refine G.seq ?_; refine G.region ?_; refine GO.move rfl rfl ?_; refine GO.assign rfl rfl ?_; refine GO.nil ?_; refine kthen_n ?_; refine G.ret ?_)
    refine KF2.r1 rfl (RV.t rfl) rfl ?_
    refine ImpS.own (rest' := rst) rfl g1 g2 (by unfold maxLen; omega) g4 (ImpS.sb ?_)
    ((refine Sb.c Tk.h ?_); (exact Sb.r))
end Go.Proofs.YtpgfmfbpmkfbjaaGreat
namespace Go.Proofs.YtpgfmfbpmkfbjaaGreat
open Go
/-- A comparison that is a total order. -/
structure TOrd {α : Type} (cf : α → α → Int) : Prop where
  anti : ∀ a b, cf b a = - cf a b
  eq : ∀ a b, cf a b = 0 → a = b
  trans : ∀ a b c, cf a b < 0 → cf b c < 0 → cf a c < 0
theorem TOrd.self {α : Type} {cf : α → α → Int} (h : TOrd cf) (a : α) : cf a a = 0 := by have := h.anti a a; omega
theorem TOrd.swo {α : Type} {cf : α → α → Int} (h : TOrd cf) : Go.Sort.SWO (Go.Proofs.ltOf cf) where
  irrefl x := by unfold Go.Proofs.ltOf; rw [h.self x]; rfl
  trans x y z h1 h2 := by
    unfold Go.Proofs.ltOf at *
    exact decide_eq_true (h.trans x y z (of_decide_eq_true h1) (of_decide_eq_true h2))
  ntrans x y z h1 h2 := by
    unfold Go.Proofs.ltOf at *
    have h1 := of_decide_eq_false h1
    have h2 := of_decide_eq_false h2
    refine decide_eq_false fun h3 => ?_
    have a1 := h.anti x y
    have a2 := h.anti y z
    by_cases e1 : cf x y = 0
    · rw [h.eq x y e1] at h3; omega
    by_cases e2 : cf y z = 0
    · rw [← h.eq y z e2] at h3; omega
    have := h.trans z y x (by omega) (by omega)
    have a3 := h.anti x z
    omega
theorem TOrd.tot {α : Type} {cf : α → α → Int} (h : TOrd cf) : ∀ x y, Go.Proofs.ltOf cf x y = false → Go.Proofs.ltOf cf y x = false → x = y := fun x y h1 h2 => by
  unfold Go.Proofs.ltOf at *
  have h1 := of_decide_eq_false h1
  have h2 := of_decide_eq_false h2
  have := h.anti x y
  exact h.eq x y (by omega)
theorem cmpB_anti : ∀ a b : List UInt8, Lib.compareBytes b a = - Lib.compareBytes a b
  | [], [] => rfl
  | [], _ :: _ => rfl
  | _ :: _, [] => rfl
  | x :: a, y :: b => by
    simp only [Lib.compareBytes]
    by_cases h1 : x < y
    · have h2 : ¬ y < x := fun h => by have := UInt8.lt_iff_toNat_lt.1 h1; have := UInt8.lt_iff_toNat_lt.1 h; omega
      rw [if_neg h2, if_pos h1, if_pos h1]; rfl
    · by_cases h2 : y < x
      · rw [if_pos h2, if_neg h1, if_pos h2]
      · rw [if_neg h2, if_neg h1, if_neg h1, if_neg h2, cmpB_anti a b]
theorem cmpB_eq : ∀ a b : List UInt8, Lib.compareBytes a b = 0 → a = b
  | [], [], _ => rfl
  | [], _ :: _, h => by simp [Lib.compareBytes] at h
  | _ :: _, [], h => by simp [Lib.compareBytes] at h
  | x :: a, y :: b, h => by
    simp only [Lib.compareBytes] at h
    by_cases h1 : x < y
    · rw [if_pos h1] at h; cases h
    · rw [if_neg h1] at h
      by_cases h2 : y < x
      · rw [if_pos h2] at h; cases h
      · rw [if_neg h2] at h
        have e : x = y := by
          have h1 : ¬ x.toNat < y.toNat := fun g => h1 (UInt8.lt_iff_toNat_lt.2 g)
          have h2 : ¬ y.toNat < x.toNat := fun g => h2 (UInt8.lt_iff_toNat_lt.2 g)
          exact UInt8.toNat_inj.1 (by omega)
        rw [e, cmpB_eq a b h]
theorem cmpB_trans : ∀ a b c : List UInt8, Lib.compareBytes a b < 0 → Lib.compareBytes b c < 0 → Lib.compareBytes a c < 0
  | [], [], _, h, _ => by simp [Lib.compareBytes] at h
  | [], _ :: _, [], _, h => by simp [Lib.compareBytes] at h
  | [], _ :: _, _ :: _, _, _ => by simp [Lib.compareBytes]
  | _ :: _, [], _, h, _ => by simp [Lib.compareBytes] at h
  | _ :: _, _ :: _, [], _, h => by simp [Lib.compareBytes] at h
  | x :: a, y :: b, z :: c, h1, h2 => by
    have ih := cmpB_trans a b c
    simp only [Lib.compareBytes, UInt8.lt_iff_toNat_lt] at *
    by_cases g1 : x.toNat < y.toNat
    · by_cases g2 : y.toNat < z.toNat
      · rw [if_pos (by omega)]; decide
      · rw [if_neg g2] at h2
        by_cases g3 : z.toNat < y.toNat
        · rw [if_pos g3] at h2; exact absurd h2 (by decide)
        · rw [if_pos (by omega)]; decide
    · rw [if_neg g1] at h1
      by_cases g4 : y.toNat < x.toNat
      · rw [if_pos g4] at h1; exact absurd h1 (by decide)
      · rw [if_neg g4] at h1
        by_cases g2 : y.toNat < z.toNat
        · rw [if_pos (by omega)]; decide
        · rw [if_neg g2] at h2
          by_cases g3 : z.toNat < y.toNat
          · rw [if_pos g3] at h2; exact absurd h2 (by decide)
          · rw [if_neg g3] at h2
            rw [if_neg (by omega), if_neg (by omega)]
            exact ih h1 h2
theorem cmpS_ord : TOrd cmpS := ⟨cmpB_anti, cmpB_eq, cmpB_trans⟩
theorem orderE_ord : TOrd orderE where
  anti a b := by
    have h1 := cmpS_ord.anti a.src b.src
    have h2 := cmpS_ord.anti a.lab b.lab
    have h3 := cmpS_ord.anti a.dst b.dst
    unfold orderE
    simp only [orI]
    repeat' split
    all_goals omega
  eq a b h := by
    unfold orderE at h
    simp only [orI] at h
    have h1 : cmpS a.src b.src = 0 := by split at h; assumption; exact absurd h (by assumption)
    rw [if_pos h1] at h
    have h2 : cmpS a.lab b.lab = 0 := by split at h; assumption; exact absurd h (by assumption)
    rw [if_pos h2] at h
    have h3 : cmpS a.dst b.dst = 0 := by split at h; assumption; exact absurd h (by assumption)
    have e1 := cmpS_ord.eq _ _ h1
    have e2 := cmpS_ord.eq _ _ h2
    have e3 := cmpS_ord.eq _ _ h3
    clear h h1 h2 h3
    cases a; cases b; simp only at e1 e2 e3; subst e1 e2 e3; rfl
  trans a b c h1 h2 := by
    have key : ∀ x y : EdgeD, orderE x y < 0 → cmpS x.src y.src < 0 ∨ (x.src = y.src ∧ (cmpS x.lab y.lab < 0 ∨ (x.lab = y.lab ∧ cmpS x.dst y.dst < 0))) := fun x y h => by
      unfold orderE at h
      simp only [orI] at h
      by_cases g1 : cmpS x.src y.src = 0
      · rw [if_pos g1] at h
        refine .inr ⟨cmpS_ord.eq _ _ g1, ?_⟩
        by_cases g2 : cmpS x.lab y.lab = 0
        · rw [if_pos g2] at h
          refine .inr ⟨cmpS_ord.eq _ _ g2, ?_⟩
          by_cases g3 : cmpS x.dst y.dst = 0
          · rw [if_pos g3] at h; omega
          · rw [if_neg g3] at h; exact h
        · rw [if_neg g2] at h; exact .inl h
      · rw [if_neg g1] at h; exact .inl h
    have back : ∀ x y : EdgeD, (cmpS x.src y.src < 0 ∨ (x.src = y.src ∧ (cmpS x.lab y.lab < 0 ∨ (x.lab = y.lab ∧ cmpS x.dst y.dst < 0)))) → orderE x y < 0 := fun x y h => by
      unfold orderE
      simp only [orI]
      rcases h with h | ⟨e1, h⟩
      · rw [if_neg (by omega)]; exact h
      · rw [e1, cmpS_ord.self, if_pos rfl]
        rcases h with h | ⟨e2, h⟩
        · rw [if_neg (by omega)]; exact h
        · rw [e2, cmpS_ord.self, if_pos rfl, if_neg (by omega)]; exact h
    have t := cmpS_ord.trans
    refine back a c ?_
    rcases key a b h1 with k1 | ⟨e1, k1⟩ <;> rcases key b c h2 with k2 | ⟨e2, k2⟩
    · exact .inl (t _ _ _ k1 k2)
    · rw [← e2]; exact .inl k1
    · rw [e1]; exact .inl k2
    · rw [e1, e2]
      refine .inr ⟨rfl, ?_⟩
      rcases k1 with k1 | ⟨f1, k1⟩ <;> rcases k2 with k2 | ⟨f2, k2⟩
      · exact .inl (t _ _ _ k1 k2)
      · rw [← f2]; exact .inl k1
      · rw [f1]; exact .inl k2
      · rw [f1, f2]; exact .inr ⟨rfl, t _ _ _ k1 k2⟩
end Go.Proofs.YtpgfmfbpmkfbjaaGreat
namespace Go.Proofs.YtpgfmfbpmkfbjaaGreat
open Go Go.Sort Go.Shelf Go.RowKit
theorem grown_of {W w' : World} (h : Below W.heap.size W w') (hd : W.drawn ≤ w'.drawn) : ∃ q os', w' = grow (W.drewN q) os' := by
  obtain ⟨e1, e2, e3, e4, e5⟩ := h
  refine ⟨w'.drawn - W.drawn, w'.heap.extract W.heap.size w'.heap.size, ?_⟩
  have hh : w'.heap = W.heap ++ w'.heap.extract W.heap.size w'.heap.size := by
    apply Array.ext_getElem?
    intro k
    by_cases hk : k < W.heap.size
    · rw [e5 k hk, Array.getElem?_append_left hk]
    · rw [Array.getElem?_append_right (by omega), Array.getElem?_extract]
      by_cases h2 : k < w'.heap.size
      · rw [if_pos (by omega)]; congr 1; omega
      · rw [if_neg (by omega)]; exact Array.getElem?_eq_none (by omega)
  generalize w'.heap.extract W.heap.size w'.heap.size = os at hh
  obtain ⟨h1, h2, h3, h4, h5⟩ := w'
  obtain ⟨g1, g2, g3, g4, g5⟩ := W
  simp only at e1 e2 e3 hh hd
  subst e1 e2 e3 hh
  show World.mk (g1 ++ os) h2 h3 h4 h5 = World.mk (g1 ++ os) h2 (g3 + (h3 - g3)) h4 h5
  rw [Nat.add_sub_cancel' hd]
/-- A list put in order. -/
abbrev sortB {α : Type} (cf : α → α → Int) (l : List α) : List α := l.mergeSort fun x y => !(Go.Proofs.ltOf cf) y x
theorem sortFS_spec (v : Value) (l : List (List UInt8)) (hsz : ¬ 1048576 < l.length) :
    Fn Tryz.prog 100 #[v, fnC 78] [own 9 1 l.length v (strsV l)] (fun r Q => r = .tuple #[] ∧ Q = [own 9 1 l.length v (strsV (sortB cmpS l))]) := by
  intro F w s
  rcases own_shape s with ⟨rfl, h0, _, s2⟩ | ⟨b, cap, rest, rfl, g1, g2, g3, g4, s2⟩
  · have hl : l = [] := List.length_eq_zero_iff.1 h0
    subst hl
    refine callsIn_wide.2 ((Go.Proofs.AnyF.slices_SortFunc_none (ρ := sortF_ren) { sortF with } none 0 (fnC 78) w).mono ?_)
    rintro e w' ⟨rfl, rfl⟩
    exact ⟨_, _, rfl, Same.refl _, ⟨rfl, rfl⟩, by rw [show sortB cmpS ([] : List (List UInt8)) = [] from List.mergeSort_nil]; exact s⟩
  · have hb := sat_pt s2
    have hlt := (Array.getElem?_eq_some_iff.1 hb).1
    have hH : Holds encStr w b 0 l.toArray := by
      intro j hj
      have hj' : j < l.length := by simpa using hj
      constructor
      · simp only [World.cell?, hb, row, Nat.zero_add, List.getElem?_toArray]
        rw [List.getElem?_append_left (by simpa [strsV] using hj'), getElem!_pos l.toArray j hj]
        simp [strsV, hj']
      · simp [World.frozen?, hb, row]
    have hc : Go.Proofs.CmpLays1 Tryz.prog 78 #[] encStr cmpS b 0 l.toArray.size w := fun m os dk _ x y => (callsIn_wide (n := 0)).1 ((compare_spec x y [init _] _ (sat_init _)).mono fun e w' ⟨v, Q, e1, sm, ⟨e2, e3⟩, q⟩ => by
      subst e1 e2 e3
      exact ⟨rfl, grown_of (init_below sm q) sm.draws⟩)
    have h := Go.Proofs.Any.slices_SortFunc_total sortF encStr (fun _ => rfl) cmpS cmpS_ord.swo 78 #[] b 0 cap l.toArray w (fun args w => Cal.out args w) hc hH hlt (by simp; omega) cmpS_ord.tot
    have hyl : (sortB cmpS l).length = l.length := List.length_mergeSort l
    refine callsIn_wide.2 (h.mono ?_)
    rintro e w' ⟨rfl, m, os, rfl⟩
    refine ⟨_, _, rfl, ?_, ⟨rfl, rfl⟩, ?_⟩
    · refine ⟨rfl, rfl, rfl, ?_, ?_⟩
      · show w.heap.size ≤ (Array.append _ _).size
        simp [putRow, mapBlock]
      · show w.drawn ≤ w.drawn + m
        omega
    · refine sat_grow (own_in (rest := rest) rfl (by rw [strsV_len, hyl]) g2 g3 (by rw [List.length_append, strsV_len] at g4 ⊢; rw [hyl]; exact g4) (sat_upd (w := w) s2 ?_ ?_)) os
      · show ((w.heap.modify b (onCells (putCells encStr 0 (sortB cmpS l).toArray))))[b]? = _
        rw [Array.getElem?_modify, if_pos rfl, hb]
        simp only [Option.map_some, row, onCells]
        rw [putCells_str _ _ _ (by rw [hyl]; simp [strsV])]
      · intro j hj
        show ((w.heap.modify b (onCells (putCells encStr 0 (sortB cmpS l).toArray))))[j]? = _
        rw [Array.getElem?_modify, if_neg (Ne.symm hj)]
end Go.Proofs.YtpgfmfbpmkfbjaaGreat
namespace Go.Proofs.YtpgfmfbpmkfbjaaGreat
open Go Go.Sort Go.Shelf Go.RowKit
section
variable {α : Type}
theorem flat_get {enc : α → List Value} {k : Nat} (hk : ∀ x, (enc x).length = k) {j : Nat} (hj : j < k) : ∀ (l : List α) (i : Nat), (l.flatMap enc)[i * k + j]? = (l[i]?).bind fun x => (enc x)[j]?
  | [], i => by simp
  | x :: l, 0 => by rw [List.flatMap_cons, Nat.zero_mul, Nat.zero_add, List.getElem?_append_left (by rw [hk]; exact hj)]; rfl
  | x :: l, i + 1 => by
    rw [List.flatMap_cons, List.getElem?_append_right (by rw [hk, Nat.add_mul]; omega), hk, show (i + 1) * k + j - k = i * k + j by rw [Nat.add_mul]; omega, flat_get hk hj l i]
    rfl
theorem flat_len {enc : α → List Value} {k : Nat} (hk : ∀ x, (enc x).length = k) : ∀ (l : List α), (l.flatMap enc).length = l.length * k
  | [] => by simp
  | x :: l => by rw [List.flatMap_cons, List.length_append, hk, flat_len hk l, List.length_cons, Nat.add_mul]; omega
variable [Inhabited α]
theorem flatK_list {enc : α → List Value} {k : Nat} (hk : ∀ x, (enc x).length = k) (d : Array α) : (flatK enc k d).toList = d.toList.flatMap enc := by
  apply List.ext_getElem?
  intro t
  by_cases ht : t < d.size * k
  · have hk0 : 0 < k := by rcases Nat.eq_zero_or_pos k with h | h; · subst h; simp at ht
                           · exact h
    have e1 : t / k * k + t % k = t := by rw [Nat.mul_comm]; exact Nat.div_add_mod t k
    have h1 : t / k < d.size := Nat.div_lt_of_lt_mul (by rwa [Nat.mul_comm] at ht)
    have h2 : t % k < k := Nat.mod_lt _ hk0
    have a1 := get_flatK enc k d t ht
    rw [getElem!_pos (flatK enc k d) t (by simpa using ht), getElem!_pos d (t / k) h1, getElem!_pos (enc d[t / k]) (t % k) (by rw [hk]; exact h2)] at a1
    have a2 := flat_get hk h2 d.toList (t / k)
    rw [e1] at a2
    rw [a2, List.getElem?_eq_getElem (by simpa using ht), List.getElem?_eq_getElem (by simpa using h1)]
    simp only [Option.bind_some]
    rw [List.getElem?_eq_getElem (by rw [hk]; exact h2)]
    exact congrArg some a1
  · rw [List.getElem?_eq_none (by simpa using ht), List.getElem?_eq_none (by rw [flat_len hk]; simpa using ht)]
theorem putCells_row (F : Array Value) (l rest : List Value) (h : F.size = l.length) : putCells id 0 F (l ++ rest).toArray = (F.toList ++ rest).toArray := by
  apply Array.ext_getElem?
  intro k
  simp only [putCells, Array.getElem?_mapIdx, List.getElem?_toArray]
  by_cases hk : k < F.size
  · rw [List.getElem?_append_left (by omega), List.getElem?_append_left (by simpa using hk), List.getElem?_eq_getElem (by omega), List.getElem?_eq_getElem (by simpa using hk), Option.map_some, if_pos ⟨by omega, by omega⟩, Nat.sub_zero, getElem!_pos F k hk]
    rfl
  · have e1 : (l ++ rest)[k]? = rest[k - F.size]? := by rw [List.getElem?_append_right (by omega), h]
    have e2 : (F.toList ++ rest)[k]? = rest[k - F.size]? := by rw [List.getElem?_append_right (by simpa using hk)]; simp
    rw [e1, e2]
    cases rest[k - F.size]? with
    | none => rfl
    | some y => rw [Option.map_some, if_neg (by omega)]
end
instance : Inhabited EdgeD := ⟨⟨[], [], []⟩⟩
theorem sortFE_spec (v : Value) (l : List EdgeD) (hsz : ¬ 1048576 < l.length) :
    Fn Tryz.prog 104 #[v, fnC 80] [own 80 3 l.length v (edgesV l)] (fun r Q => r = .tuple #[] ∧ Q = [own 80 3 l.length v (edgesV (sortB orderE l))]) := by
  intro F w s
  rcases own_shape s with ⟨rfl, h0, _, s2⟩ | ⟨b, cap, rest, rfl, g1, g2, g3, g4, s2⟩
  · have hl : l = [] := List.length_eq_zero_iff.1 h0
    subst hl
    refine callsIn_wide.2 ((Go.Proofs.AnyF.slices_SortFunc_none (ρ := sortE_ren) sortE none 0 (fnC 80) w).mono ?_)
    rintro e w' ⟨rfl, rfl⟩
    exact ⟨_, _, rfl, Same.refl _, ⟨rfl, rfl⟩, by rw [show sortB orderE ([] : List EdgeD) = [] from List.mergeSort_nil]; exact s⟩
  · have hb := sat_pt s2
    have hlt := (Array.getElem?_eq_some_iff.1 hb).1
    have hk : ∀ x : EdgeD, (edgeVs x).length = 3 := fun _ => rfl
    have hone : ∀ x : EdgeD, ∀ u ∈ edgeVs x, u.oneCell' = true := fun x u hu => edgesV_one [x] u (by unfold edgesV; rw [List.flatMap_cons, List.flatMap_nil, List.append_nil]; exact hu)
    have hfl : (flatK edgeVs 3 l.toArray).toList = l.flatMap edgeVs := flatK_list hk l.toArray
    have hH : HoldsK edgeVs 3 w b 0 l.toArray := by
      intro j hj
      have hj' : j < (l.flatMap edgeVs).length := by rw [← hfl]; simpa using hj
      have e1 : (flatK edgeVs 3 l.toArray)[j]! = (l.flatMap edgeVs)[j] := by
        rw [getElem!_pos _ j hj]
        have : (flatK edgeVs 3 l.toArray).toList[j]? = (l.flatMap edgeVs)[j]? := by rw [hfl]
        rw [List.getElem?_eq_getElem (by simpa using hj), List.getElem?_eq_getElem hj'] at this
        exact Option.some.inj this
      constructor
      · simp only [World.cell?, hb, row, Nat.zero_add, List.getElem?_toArray]
        rw [List.getElem?_append_left (by unfold edgesV; exact hj')]
        unfold edgesV
        rw [List.getElem?_eq_getElem hj', e1]; rfl
      · simp [World.frozen?, hb, row]
    have hc : Go.Proofs.CmpLays Tryz.prog 80 #[] edgeVs 3 orderE b 0 l.toArray.size w := fun m os dk _ x y => (callsIn_wide (n := 0)).1 ((orderE_spec x y [init _] _ (sat_init _)).mono fun e w' ⟨v, Q, e1, sm, ⟨e2, e3⟩, q⟩ => by
      subst e1 e2 e3
      exact ⟨rfl, grown_of (init_below sm q) sm.draws⟩)
    have h := Go.Proofs.AnyQ.slices_SortFunc_total sortE 3 (fun w => Tryz.isAgg80 w) (fun w => Tryz.sizeOf80 w) edgeVs hk hone orderE orderE_ord.swo 80 #[] b 0 cap l.toArray w (fun args w => Cal.out args w) hc hH hlt (by simp; omega) orderE_ord.tot
    have hyl : (sortB orderE l).length = l.length := List.length_mergeSort l
    rw [show l.toArray.size = l.length by simp] at h
    refine callsIn_wide.2 (h.mono ?_)
    rintro e w' ⟨rfl, m, os, rfl⟩
    refine ⟨_, _, rfl, ?_, ⟨rfl, rfl⟩, ?_⟩
    · refine ⟨rfl, rfl, rfl, ?_, ?_⟩
      · show w.heap.size ≤ (Array.append _ _).size
        simp [putRowK, putRow, mapBlock]
      · show w.drawn ≤ w.drawn + m
        omega
    · refine sat_grow (own_in (rest := rest) rfl (by rw [edgesV_len, hyl]) g2 g3 (by rw [List.length_append, edgesV_len] at g4 ⊢; rw [hyl]; exact g4) (sat_upd (w := w) s2 ?_ ?_)) os
      · show ((w.heap.modify b (onCells (putCells id 0 (flatK edgeVs 3 (sortB orderE l).toArray)))))[b]? = _
        rw [Array.getElem?_modify, if_pos rfl, hb]
        simp only [Option.map_some, row, onCells]
        rw [putCells_row _ _ _ (by rw [size_flatK, edgesV_len]; simp), flatK_list hk]
        rfl
      · intro j hj
        show ((w.heap.modify b (onCells (putCells id 0 (flatK edgeVs 3 (sortB orderE l).toArray)))))[j]? = _
        rw [Array.getElem?_modify, if_neg (Ne.symm hj)]
end Go.Proofs.YtpgfmfbpmkfbjaaGreat
namespace Go.Proofs.YtpgfmfbpmkfbjaaGreat
open Go
theorem compG_len {α : Type} [DecidableEq α] : ∀ (r : List α) (x : α), (compG x r).length ≤ r.length
  | [], _ => Nat.le_refl _
  | y :: r, x => by
    have := compG_len r y
    simp only [compG]
    split
    · rw [List.length_cons]; omega
    · rw [List.length_cons, List.length_cons]; omega
theorem compL_len {α : Type} [DecidableEq α] (l : List α) : (compL l).length ≤ l.length := by
  cases l with
  | nil => exact Nat.le_refl _
  | cons x r => have := compG_len r x; simp only [compL, List.length_cons]; omega
attribute [local irreducible] capN capM G GO GR GT Fn FnX FnV FnXV Dfr pt init exs pur sat own ImpS compL
set_option maxHeartbeats 8000000 in
theorem sortedS_spec (q : HP) (v : Value) (l : List (List UInt8)) (hq : StrsR q v l) (hl : ¬ 1048576 < l.length) : Fn Tryz.prog 77 #[v, fnC 78] [q] (fun r Q => Q = [own 9 1 (compL (sortB cmpS l)).length r (strsV (compL (sortB cmpS l))), q]) := by
  have hsl : (sortB cmpS l).length = l.length := List.length_mergeSort l
  have hcl := compL_len (sortB cmpS l)
  refine Fn.mk2 Tryz.func77 rfl rfl fun w0 F => ?_
  (refine G.seq ?_; refine G.region ?_; refine GO.assign rfl rfl ?_; refine GO.nil ?_; refine kthen_n ?_; refine G.seq ?_; refine G.region ?_; refine GO.move rfl rfl ?_)
  refine GO.call1 rfl rfl (cloneS_spec q v l hq hl) (Tks.c Tk.h Tks.n) ?_
  rintro r _ rfl
  (refine GO.assign rfl rfl ?_; refine GO.nil ?_; refine kthen_n ?_; refine G.seq ?_; refine G.region ?_; refine GO.move rfl rfl ?_; refine GO.move rfl rfl ?_)
  refine GO.call2 rfl rfl rfl (sortFS_spec r l hl) (Tks.c Tk.h Tks.n) ?_
  rintro _ _ ⟨rfl, rfl⟩
  rw [← hsl]
  (refine GO.nil ?_; refine kthen_n ?_; refine G.seq ?_; refine G.region ?_; refine GO.move rfl rfl ?_)
  refine GO.call1 rfl rfl (compactS_spec r (sortB cmpS l) (by omega)) (Tks.c Tk.h Tks.n) ?_
  rintro r2 _ rfl
  refine GO.ownRdK Tk.h fun q2 hq2 => ?_
  skip
  refine GO.call1 rfl rfl (cloneS_spec q2 r2 _ hq2 (by omega)) (Tks.c Tk.h Tks.n) ?_
  rintro r3 _ rfl
  (refine GO.assign rfl rfl ?_; refine GO.nil ?_; refine kthen_n ?_; refine G.ret ?_)
  refine KF2.r1 rfl (RV.t rfl) rfl (ImpS.sb ?_)
  ((refine Sb.c Tk.h ?_; refine Sb.c (Tk.t Tk.h) ?_); (refine Sb.s ?_; exact Sb.r))
set_option maxHeartbeats 8000000 in
theorem sortedE_spec (q : HP) (v : Value) (l : List EdgeD) (hq : EdgesR q v l) (hl : ¬ 1048576 < l.length) : Fn Tryz.prog 79 #[v, fnC 80] [q] (fun r Q => Q = [own 80 3 (compL (sortB orderE l)).length r (edgesV (compL (sortB orderE l))), q]) := by
  have hsl : (sortB orderE l).length = l.length := List.length_mergeSort l
  have hcl := compL_len (sortB orderE l)
  refine Fn.mk2 Tryz.func79 rfl rfl fun w0 F => ?_
  (refine G.seq ?_; refine G.region ?_; refine GO.assign rfl rfl ?_; refine GO.nil ?_; refine kthen_n ?_; refine G.seq ?_; refine G.region ?_; refine GO.move rfl rfl ?_)
  refine GO.call1 rfl rfl (cloneE_spec q v l hq hl) (Tks.c Tk.h Tks.n) ?_
  rintro r _ rfl
  (refine GO.assign rfl rfl ?_; refine GO.nil ?_; refine kthen_n ?_; refine G.seq ?_; refine G.region ?_; refine GO.move rfl rfl ?_; refine GO.move rfl rfl ?_)
  refine GO.call2 rfl rfl rfl (sortFE_spec r l hl) (Tks.c Tk.h Tks.n) ?_
  rintro _ _ ⟨rfl, rfl⟩
  rw [← hsl]
  (refine GO.nil ?_; refine kthen_n ?_; refine G.seq ?_; refine G.region ?_; refine GO.move rfl rfl ?_)
  refine GO.call1 rfl rfl (compactE_spec r (sortB orderE l) (by omega)) (Tks.c Tk.h Tks.n) ?_
  rintro r2 _ rfl
  refine GO.ownRdK Tk.h fun q2 hq2 => ?_
  skip
  refine GO.call1 rfl rfl (cloneE_spec q2 r2 _ hq2 (by omega)) (Tks.c Tk.h Tks.n) ?_
  rintro r3 _ rfl
  (refine GO.assign rfl rfl ?_; refine GO.nil ?_; refine kthen_n ?_; refine G.ret ?_)
  refine KF2.r1 rfl (RV.t rfl) rfl (ImpS.sb ?_)
  ((refine Sb.c Tk.h ?_; refine Sb.c (Tk.t Tk.h) ?_); (refine Sb.s ?_; exact Sb.r))
end Go.Proofs.YtpgfmfbpmkfbjaaGreat
namespace Go.Proofs.YtpgfmfbpmkfbjaaGreat
open Go
def labelsG (g : GraphD) : List (List UInt8) := compL (sortL (g.edges.map EdgeD.lab))
attribute [local irreducible] capN capM G GO GR GT Fn FnX FnV FnXV Dfr pt init exs pur sat own ImpS compL cmpS orderE
set_option maxHeartbeats 8000000 in
theorem labels1_spec (x : EdgeD) (b : Nat) (v : Value) (l : List (List UInt8)) (hv : v.oneCell' = true) (hl : ¬ 4096 < l.length) : FnV Tryz.prog (.func (.func 107) #[] #[ptrV b]) [edgeA x] [pt b (row [v] 30), own 9 1 l.length v (strsV l)]
    (fun r Q => ∃ v', v'.oneCell' = true ∧ Q = [pt b (row [v'] 30), own 9 1 (l ++ [x.lab]).length v' (strsV (l ++ [x.lab]))]) := by
  refine FnV.of (caps := [ptrV b]) ?_
  refine Fn.mk2 Tryz.func107 rfl rfl fun w0 F => ?_
  (refine G.seq ?_; refine G.region ?_; refine GO.box rfl rfl rfl fun b2 => ?_; refine GO.nil ?_; refine kthen_n ?_; refine G.region ?_; refine GO.load1 rfl rfl rfl (Tk.t Tk.h) rfl ?_; refine GO.fieldAddr rfl rfl ?_; refine GO.load1 rfl rfl rfl Tk.h rfl ?_)
  refine GO.buildSlice1 (n := 1) rfl rfl (fun v hv => by rw [List.mem_singleton.1 hv]; rfl) rfl ⟨by decide, by decide⟩ fun bs => ?_
  refine GO.appendOwn (m := 1) (news := [str x.lab]) rfl rfl rfl (Tk.t (Tk.t (Tk.t Tk.h))) Tk.h rfl (by simp [Value.oneCell', str]) ⟨by decide, rfl⟩ Nat.one_pos (by unfold maxLen; omega) (by omega) fun v4 => ?_
  refine GO.ownOne Tk.h fun hone4 => ?_
  (refine GO.store1 rfl rfl (by assumption) (Tk.t (Tk.t (Tk.t Tk.h))) (by simp) ?_; refine GO.nil ?_)
  refine KF2.n0 rfl ⟨v4, hone4, rfl⟩ ?_
  rw [List.length_append, List.length_cons, List.length_nil, show strsV (l ++ [x.lab]) = strsV l ++ [str x.lab] by simp [strsV]]
  refine ImpS.sb ?_
  ((refine Sb.c Tk.h ?_; refine Sb.c Tk.h ?_); (refine Sb.s ?_; refine Sb.s ?_; exact Sb.r))
set_option maxHeartbeats 16000000 in
theorem labels_spec (q : HP) (vn ve : Value) (g : GraphD) (hq : GraphR q vn ve g) (hf : FitE g) : Fn Tryz.prog 83 #[graphA vn ve] [q] (fun r Q => Q = [own 9 1 (labelsG g).length r (strsV (labelsG g)), q]) := by
  have hre : ∀ i m, g.edges[i]? = some m → _ := fun i m h => edges_rd hq.e h
  have he := hf.e
  obtain ⟨an, cn, rfl⟩ := strsR_sl hq.n
  obtain ⟨ae, ce, rfl⟩ := edges_sl hq.e
  unfold labelsG
  generalize g.nodes = ns at *
  generalize g.edges = es at *
  clear hq hf
  refine Fn.mk2 Tryz.func83 rfl rfl fun w0 F => ?_
  refine G.ownNil (T := 9) (sz := 1) ?_
  (refine G.seq ?_; refine G.region ?_; refine GO.box rfl rfl rfl fun b1 => ?_; refine GO.assign rfl rfl ?_; refine GO.nil ?_; refine kthen_n ?_; refine G.seq ?_; refine G.region ?_; refine GO.alloc rfl fun b3 => ?_; refine GO.nil ?_; refine kthen_n ?_; refine G.seq ?_; refine G.region ?_; refine GO.makeFunc1 rfl rfl ?_; refine GO.assign rfl rfl ?_; refine GO.nil ?_; refine kthen_n ?_; refine G.seq ?_; refine G.seq ?_; refine G.region ?_; refine GO.fieldAddr rfl rfl ?_; refine GO.load1 rfl rfl rfl (Tk.t Tk.h) rfl ?_; refine GO.lenS rfl rfl ?_; refine GO.move rfl rfl ?_; refine GO.nil ?_; refine kthen_n ?_; refine G.block ?_)
  refine G.loopI (σ := Nat × Value) (fun z => [(3, ptrV b3), (4, .func (.func 107) #[] #[ptrV b3]), (9, .slice ae es.length ce), (10, i64 (es.length : Nat)), (11, i64 (z.1 : Nat))]) (fun z => pt b3 (row [z.2] 30) :: own 9 1 ((es.take z.1).map EdgeD.lab).length z.2 (strsV ((es.take z.1).map EdgeD.lab)) :: q :: F) (fun z => z.1 ≤ es.length ∧ z.2.oneCell' = true) (fun z => es.length - z.1) (0, .slice none 0 0) ⟨Nat.zero_le _, rfl⟩ ?_ ?_ ?_
  · (refine SubE.c rfl rfl ?_; refine SubE.c rfl rfl ?_; refine SubE.c rfl rfl ?_; refine SubE.c rfl rfl ?_; refine SubE.c rfl rfl ?_; exact SubE.n)
  · refine ImpS.sb ?_
    ((refine Sb.c Tk.h ?_; refine Sb.c (Tk.t Tk.h) ?_; refine Sb.c (Tk.t Tk.h) ?_); (refine Sb.s ?_; exact Sb.r))
  rintro ⟨i, v3⟩ ⟨hi, hv3⟩
  dsimp only at hi hv3 ⊢
  have htl : ((es.take i).map EdgeD.lab).length = i := by rw [List.length_map, List.length_take]; omega
  (refine G.seq ?_; refine G.region ?_; refine GO.lti rfl rfl rfl ?_; refine GO.nil ?_; refine kthen_n ?_; refine G.seq ?_)
  by_cases hlt : i < es.length
  · have d2 : decide ((i : Int) < (es.length : Int)) = true := decide_eq_true (by omega)
    obtain ⟨x, hx⟩ : ∃ x, es[i]? = some x := ⟨_, List.getElem?_eq_getElem hlt⟩
    obtain ⟨b, o, cp, e, _, rm⟩ := hre i x hx
    injection e with e _ e2
    subst e e2
    have hsn : (es.take (i + 1)).map EdgeD.lab = (es.take i).map EdgeD.lab ++ [x.lab] := by rw [take_snoc hx, List.map_append]; rfl
    have hc := labels1_spec x b3 v3 ((es.take i).map EdgeD.lab) hv3 (by omega)
    (refine G.condT rfl (by assumption) ?_; refine G.skip ?_; refine kthen_n ?_; refine G.seq ?_; refine G.block ?_; refine G.seq ?_; refine G.region ?_; refine GO.idxS rfl rfl rfl ⟨rfl, by omega⟩ ?_)
    refine GO.loadM (vs := [str x.src, str x.lab, str x.dst]) rfl rfl rfl (Tk.t (Tk.t Tk.h)) rfl rm ?_
    (refine GO.alloc rfl fun b6 => ?_; refine GO.storeW rfl rfl Tk.h ⟨rfl, rfl⟩ (by simp [Value.oneCell']) ?_; refine GO.nil ?_; refine kthen_n ?_; refine G.region ?_; refine GO.move rfl rfl ?_; refine GO.loadW rfl rfl rfl Tk.h rfl ?_)
    refine GO.callV1 rfl rfl rfl (hc) (Tks.c (Tk.t Tk.h) (Tks.c (Tk.t Tk.h) Tks.n)) ?_
    rintro _ _ ⟨v', hv', rfl⟩
    rw [← hsn]
    (refine GO.nil ?_; refine kblock_n ?_; refine kthen_n ?_; refine G.region ?_; refine GO.addi rfl rfl rfl (by omega) ?_; refine GO.move rfl rfl ?_; refine GO.nil ?_; refine kthen_n ?_)
    refine ⟨(i + 1, v'), ⟨hlt, hv'⟩, by dsimp only; omega, ?_, ImpS.sb ?_⟩
    · (refine SubE.c rfl rfl ?_; refine SubE.c rfl rfl ?_; refine SubE.c rfl rfl ?_; refine SubE.c rfl rfl ?_; refine SubE.c rfl rfl ?_; exact SubE.n)
    · ((refine Sb.c Tk.h ?_; refine Sb.c Tk.h ?_; refine Sb.c (Tk.t Tk.h) ?_); (refine Sb.s ?_; exact Sb.r))
  · have d2 : decide ((i : Int) < (es.length : Int)) = false := decide_eq_false (by omega)
    rw [List.take_of_length_le (show es.length ≤ i by omega)] at htl ⊢
    generalize es.map EdgeD.lab = ls at *
    have hsl : (sortL ls).length = ls.length := List.length_mergeSort ls
    have hcl := compL_len (sortL ls)
    (refine G.condF rfl (by assumption) ?_; refine G.exit ?_; refine kthen_x ?_; refine kthen_x ?_; refine kblock_x ?_; refine kthen_n ?_; refine G.seq ?_; refine G.region ?_; refine GO.load1 rfl rfl rfl Tk.h rfl ?_)
    refine GO.call1 rfl rfl (sortS_spec v3 ls (by omega)) (Tks.c (Tk.t Tk.h) Tks.n) ?_
    rintro _ _ ⟨rfl, rfl⟩
    rw [← hsl]
    (refine GO.nil ?_; refine kthen_n ?_; refine G.seq ?_; refine G.region ?_; refine GO.load1 rfl rfl rfl (Tk.t Tk.h) rfl ?_)
    refine GO.call1 rfl rfl (compactS_spec v3 (sortL ls) (by omega)) (Tks.c Tk.h Tks.n) ?_
    rintro r2 _ rfl
    refine GO.ownRdK Tk.h fun q2 hq2 => ?_
    skip
    refine GO.call1 rfl rfl (cloneS_spec q2 r2 _ hq2 (by omega)) (Tks.c Tk.h Tks.n) ?_
    rintro r3 _ rfl
    (refine GO.assign rfl rfl ?_; refine GO.nil ?_; refine kthen_n ?_; refine G.ret ?_)
    refine KF2.r1 rfl (RV.t rfl) rfl (ImpS.sb ?_)
    ((refine Sb.c Tk.h ?_; refine Sb.c (Tk.t (Tk.t Tk.h)) ?_); (refine Sb.s ?_; refine Sb.s ?_; exact Sb.r))
end Go.Proofs.YtpgfmfbpmkfbjaaGreat
namespace Go.Proofs.YtpgfmfbpmkfbjaaGreat
open Go
def metStep (acc : List SN) (x : EdgeD) : List SN := putN x.dst (getN x.dst (putN x.src (getN x.src acc + 1) acc) + 1) (putN x.src (getN x.src acc + 1) acc)
def metE (g : GraphD) : List SN := g.edges.foldl metStep []
def loneL (met : List SN) (l : List (List UInt8)) : List (List UInt8) := l.filter fun n => decide ((getN n met : Int) = 0)
def loneG (g : GraphD) : List (List UInt8) := loneL (metE g) g.nodes
theorem put_le {k : List UInt8} {N : Nat} {acc : List SN} (h : ∀ k, getN k acc ≤ N) : ∀ k', getN k' (putN k (getN k acc + 1) acc) ≤ N + 1 := fun k' => by
  rw [getN_put]
  have := h k; have := h k'
  split <;> omega
theorem lone_snoc {met : List SN} {l : List (List UInt8)} {i : Nat} {m : List UInt8} (h : l[i]? = some m) : loneL met (l.take (i + 1)) = loneL met (l.take i) ++ if decide ((getN m met : Int) = 0) = true then [m] else [] := by
  unfold loneL
  rw [take_snoc h, List.filter_append, List.filter_cons, List.filter_nil]
theorem lone_len (met : List SN) (l : List (List UInt8)) : (loneL met l).length ≤ l.length := List.length_filter_le _ _
attribute [local irreducible] capN capM G GO GR GT Fn FnX FnV FnXV Dfr pt init exs pur sat own ImpS mapP loneL
set_option maxHeartbeats 16000000 in
theorem lone_spec (q : HP) (vn ve : Value) (g : GraphD) (hq : GraphR q vn ve g) (hf : FitE g) : Fn Tryz.prog 47 #[graphA vn ve] [q] (fun r Q => Q = [own 9 1 (loneG g).length r (strsV (loneG g)), q]) := by
  have hrn : ∀ i m, g.nodes[i]? = some m → _ := fun i m h => strsK_rd hq.n h
  have hre : ∀ i m, g.edges[i]? = some m → _ := fun i m h => edges_rd hq.e h
  have hn := hf.n
  have he := hf.e
  obtain ⟨an, cn, rfl⟩ := strsR_sl hq.n
  obtain ⟨ae, ce, rfl⟩ := edges_sl hq.e
  unfold loneG metE
  generalize g.nodes = ns at *
  generalize g.edges = es at *
  clear hq hf
  generalize hmet : es.foldl metStep [] = met
  refine Fn.mk2 Tryz.func47 rfl rfl fun w0 F => ?_
  refine G.ownNil (T := 9) (sz := 1) ?_
  (refine G.seq ?_; refine G.region ?_; refine GO.box rfl rfl rfl fun b1 => ?_; refine GO.assign rfl rfl ?_; refine GO.nil ?_; refine kthen_n ?_; refine G.seq ?_; refine G.region ?_)
  refine GO.mapNew rfl fun mb => ?_
  (refine GO.assign rfl rfl ?_; refine GO.nil ?_; refine kthen_n ?_; refine G.seq ?_; refine G.seq ?_; refine G.region ?_; refine GO.fieldAddr rfl rfl ?_; refine GO.load1 rfl rfl rfl (Tk.t Tk.h) rfl ?_; refine GO.lenS rfl rfl ?_; refine GO.move rfl rfl ?_; refine GO.nil ?_; refine kthen_n ?_; refine G.block ?_)
  refine G.loopI (σ := Nat × List SN) (fun z => [(1, ptrV b1), (3, .map (some mb)), (11, .slice ae es.length ce), (12, i64 (es.length : Nat)), (13, i64 (z.1 : Nat))]) (fun z => mapP mb z.2 :: pt b1 (row [.slice an ns.length cn, .slice ae es.length ce] 33) :: own 9 1 0 (.slice none 0 0) [] :: q :: F) (fun z => z.1 ≤ es.length ∧ (es.drop z.1).foldl metStep z.2 = met ∧ ∀ k, getN k z.2 ≤ z.1 + z.1) (fun z => es.length - z.1) (0, []) ⟨Nat.zero_le _, hmet, fun k => Nat.zero_le _⟩ ?_ ?_ ?_
  · (refine SubE.c rfl rfl ?_; refine SubE.c rfl rfl ?_; refine SubE.c rfl rfl ?_; refine SubE.c rfl rfl ?_; refine SubE.c rfl rfl ?_; exact SubE.n)
  · refine ImpS.sb ?_
    ((refine Sb.c Tk.h ?_; refine Sb.c Tk.h ?_; refine Sb.c Tk.h ?_; refine Sb.c Tk.h ?_); (exact Sb.r))
  clear hmet
  rintro ⟨i, acc⟩ ⟨hi, hp, hle⟩
  dsimp only at hi hp hle ⊢
  (refine G.seq ?_; refine G.region ?_; refine GO.lti rfl rfl rfl ?_; refine GO.nil ?_; refine kthen_n ?_; refine G.seq ?_)
  by_cases hlt : i < es.length
  · have d1 : decide ((i : Int) < (es.length : Int)) = true := decide_eq_true (by omega)
    obtain ⟨x, hx⟩ : ∃ x, es[i]? = some x := ⟨_, List.getElem?_eq_getElem hlt⟩
    obtain ⟨b, o, cp, e, _, rm⟩ := hre i x hx
    injection e with e _ e2
    subst e e2
    rw [foldl_drop hx] at hp
    have hl1 := put_le (k := x.src) hle
    have hl2 := put_le (k := x.dst) hl1
    have g1 := hle x.src
    have g2 := hl1 x.dst
    unfold metStep at hp
    (refine G.condT rfl (by assumption) ?_; refine G.skip ?_; refine kthen_n ?_; refine G.seq ?_; refine G.block ?_; refine G.seq ?_; refine G.region ?_; refine GO.idxS rfl rfl rfl ⟨rfl, by omega⟩ ?_)
    refine GO.loadM (vs := [str x.src, str x.lab, str x.dst]) rfl rfl rfl (Tk.t (Tk.t (Tk.t Tk.h))) rfl rm ?_
    (refine GO.alloc rfl fun b5 => ?_; refine GO.storeW rfl rfl Tk.h ⟨rfl, rfl⟩ (by simp [Value.oneCell']) ?_; refine GO.nil ?_; refine kthen_n ?_; refine G.seq ?_; refine G.region ?_; refine GO.move rfl rfl ?_; refine GO.fieldAddr rfl rfl ?_; refine GO.load1 rfl rfl rfl Tk.h rfl ?_)
    refine GO.mapGet (k := x.src) (l := acc) rfl rfl rfl (Tk.t Tk.h) ?_
    (refine GO.addi rfl rfl rfl (by omega) ?_)
    refine GO.mapPut (k := x.src) (v := getN x.src acc + 1) (l := acc) rfl rfl rfl Tk.h ?_
    generalize putN x.src (getN x.src acc + 1) acc = ac at *
    (refine GO.nil ?_; refine kthen_n ?_; refine G.region ?_; refine GO.move rfl rfl ?_; refine GO.fieldAddr rfl rfl ?_; refine GO.load1 rfl rfl rfl (Tk.t Tk.h) rfl ?_)
    refine GO.mapGet (k := x.dst) (l := ac) rfl rfl rfl Tk.h ?_
    (refine GO.addi rfl rfl rfl (by omega) ?_)
    refine GO.mapPut (k := x.dst) (v := getN x.dst ac + 1) (l := ac) rfl rfl rfl Tk.h ?_
    (refine GO.nil ?_; refine kblock_n ?_; refine kthen_n ?_; refine G.region ?_; refine GO.addi rfl rfl rfl (by omega) ?_; refine GO.move rfl rfl ?_; refine GO.nil ?_; refine kthen_n ?_)
    refine ⟨(i + 1, putN x.dst (getN x.dst ac + 1) ac), ⟨hlt, hp, fun k => by have := hl2 k; dsimp only; omega⟩, by dsimp only; omega, ?_, ImpS.sb ?_⟩
    · (refine SubE.c rfl rfl ?_; refine SubE.c rfl rfl ?_; refine SubE.c rfl rfl ?_; refine SubE.c rfl rfl ?_; refine SubE.c rfl rfl ?_; exact SubE.n)
    · ((refine Sb.c Tk.h ?_; refine Sb.c (Tk.t Tk.h) ?_; refine Sb.c (Tk.t Tk.h) ?_; refine Sb.c (Tk.t Tk.h) ?_); (refine Sb.s ?_; exact Sb.r))
  have d1 : decide ((i : Int) < (es.length : Int)) = false := decide_eq_false (by omega)
  rw [List.drop_eq_nil_of_le (by omega), List.foldl_nil] at hp
  subst hp
  clear hre
  (refine G.condF rfl (by assumption) ?_; refine G.exit ?_; refine kthen_x ?_; refine kthen_x ?_; refine kblock_x ?_; refine kthen_n ?_; refine G.seq ?_; refine G.region ?_; refine GO.assign rfl rfl ?_; refine GO.nil ?_; refine kthen_n ?_; refine G.seq ?_; refine G.seq ?_; refine G.region ?_; refine GO.fieldAddr rfl rfl ?_; refine GO.load1 rfl rfl rfl (Tk.t Tk.h) rfl ?_; refine GO.lenS rfl rfl ?_; refine GO.move rfl rfl ?_; refine GO.nil ?_; refine kthen_n ?_; refine G.block ?_)
  refine G.loopI (σ := Nat × Value) (fun z => [(3, .map (some mb)), (6, z.2), (29, .slice an ns.length cn), (30, i64 (ns.length : Nat)), (31, i64 (z.1 : Nat))]) (fun z => own 9 1 (loneL acc (ns.take z.1)).length z.2 (strsV (loneL acc (ns.take z.1))) :: mapP mb acc :: q :: F) (fun z => z.1 ≤ ns.length) (fun z => ns.length - z.1) (0, .slice none 0 0) (Nat.zero_le _) ?_ ?_ ?_
  · (refine SubE.c rfl rfl ?_; refine SubE.c rfl rfl ?_; refine SubE.c rfl rfl ?_; refine SubE.c rfl rfl ?_; refine SubE.c rfl rfl ?_; exact SubE.n)
  · rw [List.take_zero, show loneL acc [] = [] by unfold loneL; rfl]
    refine ImpS.sb ?_
    ((refine Sb.c (Tk.t (Tk.t Tk.h)) ?_; refine Sb.c Tk.h ?_; refine Sb.c (Tk.t Tk.h) ?_); (refine Sb.s ?_; exact Sb.r))
  rintro ⟨j, v6⟩ hj
  dsimp only at hj ⊢
  (refine G.seq ?_; refine G.region ?_; refine GO.lti rfl rfl rfl ?_; refine GO.nil ?_; refine kthen_n ?_; refine G.seq ?_)
  by_cases hlt : j < ns.length
  · have d2 : decide ((j : Int) < (ns.length : Int)) = true := decide_eq_true (by omega)
    obtain ⟨m, hm⟩ : ∃ m, ns[j]? = some m := ⟨_, List.getElem?_eq_getElem hlt⟩
    obtain ⟨b, o, cp, e, rm⟩ := hrn j m hm
    injection e with e _ e2
    subst e e2
    have hsn := lone_snoc (met := acc) hm
    have hll := lone_len acc (ns.take j)
    rw [List.length_take] at hll
    generalize loneL acc (ns.take j) = lo at *
    (refine G.condT rfl (by assumption) ?_; refine G.skip ?_; refine kthen_n ?_; refine G.seq ?_; refine G.block ?_; refine G.seq ?_; refine G.region ?_; refine GO.idxS rfl rfl rfl ⟨rfl, by omega⟩ ?_; refine GO.loadQ rfl rfl rfl (Tk.t (Tk.t Tk.h)) (by assumption) ?_; refine GO.assign rfl rfl ?_; refine GO.nil ?_; refine kthen_n ?_; refine G.seq ?_; refine G.region ?_; refine GO.move rfl rfl ?_; refine GO.move rfl rfl ?_)
    refine GO.mapGet (k := m) (l := acc) rfl rfl rfl (Tk.t Tk.h) ?_
    (refine GO.eqi rfl rfl rfl ?_; refine GO.nil ?_; refine kthen_n ?_)
    cases h0 : decide ((getN m acc : Int) = 0)
    · rw [h0, if_neg (by decide), List.append_nil] at hsn
      (refine G.condF rfl rfl ?_; refine G.skip ?_; refine kblock_n ?_; refine kthen_n ?_; refine G.region ?_; refine GO.addi rfl rfl rfl (by omega) ?_; refine GO.move rfl rfl ?_; refine GO.nil ?_; refine kthen_n ?_)
      refine ⟨(j + 1, v6), hlt, by dsimp only; omega, ?_, ?_⟩
      · (refine SubE.c rfl rfl ?_; refine SubE.c rfl rfl ?_; refine SubE.c rfl rfl ?_; refine SubE.c rfl rfl ?_; refine SubE.c rfl rfl ?_; exact SubE.n)
      · dsimp only
        rw [hsn]
        refine ImpS.sb ?_
        ((refine Sb.c (Tk.t Tk.h) ?_; refine Sb.c Tk.h ?_; refine Sb.c Tk.h ?_); (exact Sb.r))
    · rw [h0, if_pos rfl] at hsn
      (refine G.condT rfl rfl ?_; refine G.region ?_; refine GO.move rfl rfl ?_; refine GO.move rfl rfl ?_)
      refine GO.buildSlice1 (n := 1) rfl rfl (fun v hv => by rw [List.mem_singleton.1 hv]; rfl) rfl ⟨by decide, by decide⟩ fun bs => ?_
      refine GO.appendOwn (m := 1) (news := [str m]) rfl rfl rfl (Tk.t (Tk.t Tk.h)) Tk.h rfl (by simp [Value.oneCell', str]) ⟨by decide, rfl⟩ Nat.one_pos (by unfold maxLen; omega) (by omega) fun v7 => ?_
      (refine GO.assign rfl rfl ?_; refine GO.nil ?_; refine kblock_n ?_; refine kthen_n ?_; refine G.region ?_; refine GO.addi rfl rfl rfl (by omega) ?_; refine GO.move rfl rfl ?_; refine GO.nil ?_; refine kthen_n ?_)
      refine ⟨(j + 1, v7), hlt, by dsimp only; omega, ?_, ?_⟩
      · (refine SubE.c rfl rfl ?_; refine SubE.c rfl rfl ?_; refine SubE.c rfl rfl ?_; refine SubE.c rfl rfl ?_; refine SubE.c rfl rfl ?_; exact SubE.n)
      · dsimp only
        rw [hsn, List.length_append, List.length_cons, List.length_nil, show strsV (lo ++ [m]) = strsV lo ++ [str m] by simp [strsV]]
        refine ImpS.sb ?_
        ((refine Sb.c Tk.h ?_; refine Sb.c (Tk.t Tk.h) ?_; refine Sb.c (Tk.t Tk.h) ?_); (refine Sb.s ?_; exact Sb.r))
  · have d2 : decide ((j : Int) < (ns.length : Int)) = false := decide_eq_false (by omega)
    rw [List.take_of_length_le (show ns.length ≤ j by omega)]
    (refine G.condF rfl (by assumption) ?_; refine G.exit ?_; refine kthen_x ?_; refine kthen_x ?_; refine kblock_x ?_; refine kthen_n ?_; refine G.seq ?_; refine G.region ?_; refine GO.move rfl rfl ?_; refine GO.assign rfl rfl ?_; refine GO.nil ?_; refine kthen_n ?_; refine G.ret ?_)
    refine KF2.r1 rfl (RV.t rfl) rfl (ImpS.sb ?_)
    ((refine Sb.c Tk.h ?_; refine Sb.c (Tk.t Tk.h) ?_); (refine Sb.s ?_; exact Sb.r))
end Go.Proofs.YtpgfmfbpmkfbjaaGreat
namespace Go.Proofs.YtpgfmfbpmkfbjaaGreat
open Go
def lineN (n : List UInt8) : List UInt8 := n ++ [32, 59, 10]
def lineE (x : EdgeD) : List UInt8 := x.src ++ [32] ++ x.lab ++ [32] ++ x.dst ++ [32, 59, 10]
def textE (g : GraphD) : List UInt8 := (loneG g).flatMap lineN ++ g.edges.flatMap lineE
/-- Names of such sizes. -/
structure FitT (g : GraphD) : Prop where
  n : ∀ x ∈ g.nodes, ¬ 4096 < x.length
  e : ∀ x ∈ g.edges, ¬ 4096 < x.src.length ∧ ¬ 4096 < x.lab.length ∧ ¬ 4096 < x.dst.length
def capT (i : Nat) : Nat := i * 16384
theorem capT_succ (i : Nat) : capT (i + 1) = capT i + 16384 := by unfold capT; omega
theorem capT_le {i : Nat} (h : ¬ 8192 < i) : ¬ 134217728 < capT i := by unfold capT; omega
theorem loneG_mem {g : GraphD} {x : List UInt8} (h : x ∈ loneG g) : x ∈ g.nodes := by unfold loneG loneL at h; exact (List.mem_filter.1 h).1
theorem loneG_len (g : GraphD) : (loneG g).length ≤ g.nodes.length := lone_len _ _
attribute [local irreducible] capN capM capT G GO GR GT Fn FnX FnV FnXV Dfr pt init exs pur sat own ImpS mapP loneG
set_option maxHeartbeats 32000000 in
theorem textE_spec (q : HP) (vn ve : Value) (g : GraphD) (hq : GraphR q vn ve g) (hf : FitE g) (ht : FitT g) : Fn Tryz.prog 25 #[graphA vn ve] [q] (fun r Q => r = str (textE g) ∧ Q = [q]) := by
  have hre : ∀ i m, g.edges[i]? = some m → _ := fun i m h => edges_rd hq.e h
  have hn := hf.n
  have he := hf.e
  have hlo := lone_spec q vn ve g hq hf
  have hln := loneG_len g
  have hlm : ∀ x ∈ loneG g, ¬ 4096 < x.length := fun x hx => ht.n x (loneG_mem hx)
  have htE := ht.e
  obtain ⟨an, cn, rfl⟩ := strsR_sl hq.n
  obtain ⟨ae, ce, rfl⟩ := edges_sl hq.e
  unfold textE
  generalize loneG g = lo at *
  generalize g.nodes = ns at *
  generalize g.edges = es at *
  clear hq hf ht
  refine Fn.mk2 Tryz.func25 rfl rfl fun w0 F => ?_
  refine G.ownNil (T := 5) (sz := 1) ?_
  (refine G.seq ?_; refine G.region ?_; refine GO.box rfl rfl rfl fun b1 => ?_; refine GO.assign rfl rfl ?_; refine GO.nil ?_; refine kthen_n ?_; refine G.seq ?_; refine G.region ?_; refine GO.alloc rfl fun b3 => ?_; refine GO.nil ?_; refine kthen_n ?_; refine G.seq ?_; refine G.seq ?_; refine G.region ?_; refine GO.loadW rfl rfl rfl (Tk.t Tk.h) rfl ?_)
  refine GO.call1 rfl rfl (hlo) (Tks.c (Tk.t (Tk.t (Tk.t Tk.h))) Tks.n) ?_
  rintro r _ rfl
  refine GO.ownRdK Tk.h fun q2 hq2 => ?_
  have hrl : ∀ i m, lo[i]? = some m → _ := fun i m h => strsK_rd hq2 h
  obtain ⟨al, cl, rfl⟩ := strsR_sl hq2
  (refine GO.lenS rfl rfl ?_; refine GO.move rfl rfl ?_; refine GO.nil ?_; refine kthen_n ?_; refine G.block ?_)
  refine G.loopI (σ := Nat × Value × Value) (fun z => [(1, ptrV b1), (3, ptrV b3), (9, .slice al lo.length cl), (10, i64 (lo.length : Nat)), (11, i64 (z.1 : Nat))]) (fun z => bldP b3 z.2.1 z.2.2 :: bufP z.2.2 ((lo.take z.1).flatMap lineN) :: pt b1 (row [.slice an ns.length cn, .slice ae es.length ce] 33) :: q2 :: q :: F)
    (fun z => z.1 ≤ lo.length ∧ BldP b3 z.2.1 ∧ ((lo.take z.1).flatMap lineN).length ≤ capT z.1 ∧ ((lo.take z.1).flatMap lineN = [] → z.2.2 = .slice none 0 0)) (fun z => lo.length - z.1) (0, .pointer none, .slice none 0 0) ⟨Nat.zero_le _, .inl rfl, Nat.zero_le _, fun _ => rfl⟩ ?_ ?_ ?_
  · (refine SubE.c rfl rfl ?_; refine SubE.c rfl rfl ?_; refine SubE.c rfl rfl ?_; refine SubE.c rfl rfl ?_; refine SubE.c rfl rfl ?_; exact SubE.n)
  · refine ImpS.sb ?_
    ((refine Sb.c (Tk.t (Tk.t Tk.h)) ?_; refine Sb.c (Tk.t (Tk.t (Tk.t Tk.h))) ?_; refine Sb.c (Tk.t (Tk.t Tk.h)) ?_; refine Sb.c Tk.h ?_; refine Sb.c Tk.h ?_); (exact Sb.r))
  rintro ⟨i, p, v⟩ ⟨hi, hp, hle, hnil⟩
  dsimp only at hi hp hle hnil ⊢
  have hcs := capT_succ i
  have hcl := capT_le (i := i) (by omega)
  (refine G.seq ?_; refine G.region ?_; refine GO.lti rfl rfl rfl ?_; refine GO.nil ?_; refine kthen_n ?_; refine G.seq ?_)
  by_cases hlt : i < lo.length
  · have d1 : decide ((i : Int) < (lo.length : Int)) = true := decide_eq_true (by omega)
    obtain ⟨m, hm⟩ : ∃ m, lo[i]? = some m := ⟨_, List.getElem?_eq_getElem hlt⟩
    have hml := hlm m (List.mem_of_getElem? hm)
    obtain ⟨b, o, cp, e, rm⟩ := hrl i m hm
    injection e with e _ e2
    subst e e2
    have htk : (lo.take (i + 1)).flatMap lineN = (lo.take i).flatMap lineN ++ lineN m := by rw [take_snoc hm, List.flatMap_append, List.flatMap_cons, List.flatMap_nil, List.append_nil]
    have hll : (lineN m).length = m.length + 3 := by unfold lineN; rw [List.length_append]; rfl
    generalize (lo.take i).flatMap lineN = tx at *
    (refine G.condT rfl (by assumption) ?_; refine G.skip ?_; refine kthen_n ?_; refine G.seq ?_; refine G.block ?_; refine G.seq ?_; refine G.region ?_; refine GO.idxS rfl rfl rfl ⟨rfl, by omega⟩ ?_; refine GO.loadQ rfl rfl rfl (Tk.t (Tk.t (Tk.t Tk.h))) (by assumption) ?_; refine GO.assign rfl rfl ?_; refine GO.nil ?_; refine kthen_n ?_; refine G.region ?_; refine GO.move rfl rfl ?_)
    refine GO.strCat (b := [32, 59, 10]) rfl rfl rfl (by simp only [List.length_append, List.length_cons, List.length_nil]; omega) ?_
    rw [show m ++ [32, 59, 10] = lineN m from rfl]
    generalize lineN m = ln at *
    refine GO.call2 rfl rfl rfl (bwrite_spec b3 p v hp tx ln (by omega) (by omega)) (Tks.c Tk.h (Tks.c Tk.h Tks.n)) ?_
    rintro _ _ ⟨rfl, v5, rfl⟩
    (refine GO.nil ?_; refine kblock_n ?_; refine kthen_n ?_; refine G.region ?_; refine GO.addi rfl rfl rfl (by omega) ?_; refine GO.move rfl rfl ?_; refine GO.nil ?_; refine kthen_n ?_)
    refine ⟨(i + 1, ptrV b3, v5), ⟨hlt, .inr rfl, by dsimp only; rw [htk, List.length_append]; omega, fun h => by dsimp only at h; rw [htk] at h; have := congrArg List.length h; rw [List.length_append, List.length_nil] at this; omega⟩, by dsimp only; omega, ?_, ?_⟩
    · (refine SubE.c rfl rfl ?_; refine SubE.c rfl rfl ?_; refine SubE.c rfl rfl ?_; refine SubE.c rfl rfl ?_; refine SubE.c rfl rfl ?_; exact SubE.n)
    · dsimp only
      rw [htk]
      refine ImpS.sb ?_
      ((refine Sb.c Tk.h ?_; refine Sb.c Tk.h ?_; refine Sb.c Tk.h ?_; refine Sb.c Tk.h ?_; refine Sb.c Tk.h ?_); (exact Sb.r))
  have d1 : decide ((i : Int) < (lo.length : Int)) = false := decide_eq_false (by omega)
  rw [List.take_of_length_le (show lo.length ≤ i by omega)] at hle hnil ⊢
  generalize lo.flatMap lineN = t0 at *
  have hcl0 := capT_le (i := i) (by omega)
  clear hcs hrl hlm hcl
  (refine G.condF rfl (by assumption) ?_; refine G.exit ?_; refine kthen_x ?_; refine kthen_x ?_; refine kblock_x ?_; refine kthen_n ?_; refine G.seq ?_; refine G.seq ?_; refine G.region ?_; refine GO.fieldAddr rfl rfl ?_; refine GO.load1 rfl rfl rfl (Tk.t (Tk.t Tk.h)) rfl ?_; refine GO.lenS rfl rfl ?_; refine GO.move rfl rfl ?_; refine GO.nil ?_; refine kthen_n ?_; refine G.block ?_)
  refine G.loopI (σ := Nat × Value × Value) (fun z => [(3, ptrV b3), (20, .slice ae es.length ce), (21, i64 (es.length : Nat)), (22, i64 (z.1 : Nat))]) (fun z => bldP b3 z.2.1 z.2.2 :: bufP z.2.2 (t0 ++ (es.take z.1).flatMap lineE) :: q :: F)
    (fun z => z.1 ≤ es.length ∧ BldP b3 z.2.1 ∧ (t0 ++ (es.take z.1).flatMap lineE).length ≤ 134217728 + capT z.1 ∧ (t0 ++ (es.take z.1).flatMap lineE = [] → z.2.2 = .slice none 0 0)) (fun z => es.length - z.1) (0, p, v) ⟨Nat.zero_le _, hp, by dsimp only; rw [List.take_zero, List.flatMap_nil, List.append_nil]; omega, by dsimp only; rw [List.take_zero, List.flatMap_nil, List.append_nil]; exact hnil⟩ ?_ ?_ ?_
  · (refine SubE.c rfl rfl ?_; refine SubE.c rfl rfl ?_; refine SubE.c rfl rfl ?_; refine SubE.c rfl rfl ?_; exact SubE.n)
  · dsimp only
    rw [List.take_zero, List.flatMap_nil, List.append_nil]
    refine ImpS.sb ?_
    ((refine Sb.c Tk.h ?_; refine Sb.c Tk.h ?_; refine Sb.c (Tk.t (Tk.t Tk.h)) ?_); (refine Sb.s ?_; refine Sb.s ?_; exact Sb.r))
  clear hp hle hnil
  rintro ⟨j, p, v⟩ ⟨hj, hp, hle, hnil⟩
  dsimp only at hj hp hle hnil ⊢
  have hcs := capT_succ j
  have hcl := capT_le (i := j) (by omega)
  (refine G.seq ?_; refine G.region ?_; refine GO.lti rfl rfl rfl ?_; refine GO.nil ?_; refine kthen_n ?_; refine G.seq ?_)
  by_cases hlt : j < es.length
  · have d1 : decide ((j : Int) < (es.length : Int)) = true := decide_eq_true (by omega)
    obtain ⟨x, hx⟩ : ∃ x, es[j]? = some x := ⟨_, List.getElem?_eq_getElem hlt⟩
    obtain ⟨k1, k2, k3⟩ := htE x (List.mem_of_getElem? hx)
    obtain ⟨b, o, cp, e, _, rm⟩ := hre j x hx
    injection e with e _ e2
    subst e e2
    have htk : t0 ++ (es.take (j + 1)).flatMap lineE = (t0 ++ (es.take j).flatMap lineE) ++ lineE x := by rw [take_snoc hx, List.flatMap_append, List.flatMap_cons, List.flatMap_nil, List.append_nil, List.append_assoc]
    have hll : (lineE x).length = x.src.length + x.lab.length + x.dst.length + 5 := by unfold lineE; simp only [List.length_append, List.length_cons, List.length_nil]; omega
    generalize t0 ++ (es.take j).flatMap lineE = tx at *
    (refine G.condT rfl (by assumption) ?_; refine G.skip ?_; refine kthen_n ?_; refine G.seq ?_; refine G.block ?_; refine G.seq ?_; refine G.region ?_; refine GO.idxS rfl rfl rfl ⟨rfl, by omega⟩ ?_)
    refine GO.loadM (vs := [str x.src, str x.lab, str x.dst]) rfl rfl rfl (Tk.t (Tk.t Tk.h)) rfl rm ?_
    (refine GO.alloc rfl fun b7 => ?_; refine GO.storeW rfl rfl Tk.h ⟨rfl, rfl⟩ (by simp [Value.oneCell']) ?_; refine GO.nil ?_; refine kthen_n ?_; refine G.region ?_; refine GO.fieldAddr rfl rfl ?_; refine GO.load1 rfl rfl rfl Tk.h rfl ?_)
    refine GO.strCat (b := [32]) rfl rfl rfl (by simp only [List.length_append, List.length_cons, List.length_nil]; omega) ?_
    (refine GO.fieldAddr rfl rfl ?_; refine GO.load1 rfl rfl rfl Tk.h rfl ?_)
    refine GO.strCat rfl rfl rfl (by simp only [List.length_append, List.length_cons, List.length_nil]; omega) ?_
    refine GO.strCat (b := [32]) rfl rfl rfl (by simp only [List.length_append, List.length_cons, List.length_nil]; omega) ?_
    (refine GO.fieldAddr rfl rfl ?_; refine GO.load1 rfl rfl rfl Tk.h rfl ?_)
    refine GO.strCat rfl rfl rfl (by simp only [List.length_append, List.length_cons, List.length_nil]; omega) ?_
    refine GO.strCat (b := [32, 59, 10]) rfl rfl rfl (by simp only [List.length_append, List.length_cons, List.length_nil]; omega) ?_
    rw [show x.src ++ [32] ++ x.lab ++ [32] ++ x.dst ++ [32, 59, 10] = lineE x from rfl]
    generalize lineE x = ln at *
    refine GO.call2 rfl rfl rfl (bwrite_spec b3 p v hp tx ln (by omega) (by omega)) (Tks.c (Tk.t Tk.h) (Tks.c (Tk.t Tk.h) Tks.n)) ?_
    rintro _ _ ⟨rfl, v5, rfl⟩
    (refine GO.nil ?_; refine kblock_n ?_; refine kthen_n ?_; refine G.region ?_; refine GO.addi rfl rfl rfl (by omega) ?_; refine GO.move rfl rfl ?_; refine GO.nil ?_; refine kthen_n ?_)
    refine ⟨(j + 1, ptrV b3, v5), ⟨hlt, .inr rfl, by dsimp only; rw [htk, List.length_append]; omega, fun h => by dsimp only at h; rw [htk] at h; have := congrArg List.length h; rw [List.length_append, List.length_nil] at this; omega⟩, by dsimp only; omega, ?_, ?_⟩
    · (refine SubE.c rfl rfl ?_; refine SubE.c rfl rfl ?_; refine SubE.c rfl rfl ?_; refine SubE.c rfl rfl ?_; exact SubE.n)
    · dsimp only
      rw [htk]
      refine ImpS.sb ?_
      ((refine Sb.c Tk.h ?_; refine Sb.c Tk.h ?_; refine Sb.c (Tk.t Tk.h) ?_); (refine Sb.s ?_; exact Sb.r))
  have d1 : decide ((j : Int) < (es.length : Int)) = false := decide_eq_false (by omega)
  rw [List.take_of_length_le (show es.length ≤ j by omega)] at hnil ⊢
  generalize t0 ++ es.flatMap lineE = tx at *
  by_cases htx : tx = []
  · have hv := hnil htx
    subst htx
    subst hv
    (refine G.condF rfl (by assumption) ?_; refine G.exit ?_; refine kthen_x ?_; refine kthen_x ?_; refine kblock_x ?_; refine kthen_n ?_; refine G.seq ?_; refine G.region ?_)
    refine GO.call1 rfl rfl (bstr0_spec b3 p) (Tks.c Tk.h Tks.n) ?_
    rintro _ _ ⟨rfl, rfl⟩
    (refine GO.assign rfl rfl ?_; refine GO.nil ?_; refine kthen_n ?_; refine G.ret ?_)
    refine KF2.r1 rfl (RV.t rfl) ⟨rfl, rfl⟩ (ImpS.sb ?_)
    ((refine Sb.c (Tk.t (Tk.t Tk.h)) ?_); (refine Sb.s ?_; refine Sb.s ?_; exact Sb.r))
  · (refine G.condF rfl (by assumption) ?_; refine G.exit ?_; refine kthen_x ?_; refine kthen_x ?_; refine kblock_x ?_; refine kthen_n ?_; refine G.seq ?_; refine G.region ?_)
    refine GO.call1 rfl rfl (bstr_spec b3 p v tx htx) (Tks.c Tk.h (Tks.c Tk.h Tks.n)) ?_
    rintro _ _ ⟨rfl, rfl⟩
    (refine GO.assign rfl rfl ?_; refine GO.nil ?_; refine kthen_n ?_; refine G.ret ?_)
    refine KF2.r1 rfl (RV.t rfl) ⟨rfl, rfl⟩ (ImpS.sb ?_)
    ((refine Sb.c (Tk.t Tk.h) ?_); (refine Sb.s ?_; exact Sb.r))
end Go.Proofs.YtpgfmfbpmkfbjaaGreat
namespace Go.Proofs.YtpgfmfbpmkfbjaaGreat
open Go
def capsF (g : GraphD) : Nat := if 32 < g.nodes.length then 260 else if 16 < (labelsG g).length then 261 else if 256 < g.edges.length then 262 else if 2048 < (textE g).length then 174 else 0
def checkE (g : GraphD) : Nat := if formG g = true then (if namedG g = true then capsF g else 173) else 2
attribute [local irreducible] capN capM capT G GO GR GT Fn FnX FnV FnXV Dfr pt init exs pur sat own ImpS mapP labelsG textE formG namedG
set_option maxHeartbeats 16000000 in
set_option maxRecDepth 40000 in
theorem caps_spec (q : HP) (vn ve : Value) (g : GraphD) (hq : GraphR q vn ve g) (hf : FitE g) (ht : FitT g) : Fn Tryz.prog 46 #[graphA vn ve] [q] (fun r Q => r = i64 (capsF g : Nat) ∧ Q = [q]) := by
  have h1 := labels_spec q vn ve g hq hf
  have h2 := textE_spec q vn ve g hq hf ht
  obtain ⟨an, cn, rfl⟩ := strsR_sl hq.n
  obtain ⟨ae, ce, rfl⟩ := edges_sl hq.e
  unfold capsF
  refine Fn.mk2 Tryz.func46 rfl rfl fun w0 F => ?_
  (refine G.seq ?_; refine G.region ?_; refine GO.box rfl rfl rfl fun b1 => ?_; refine GO.assign rfl rfl ?_; refine GO.nil ?_; refine kthen_n ?_; refine G.seq ?_; refine G.block ?_; refine G.seq ?_; refine G.region ?_; refine GO.fieldAddr rfl rfl ?_; refine GO.load1 rfl rfl rfl Tk.h rfl ?_; refine GO.lenS rfl rfl ?_; refine GO.gti rfl rfl rfl ?_; refine GO.assign rfl rfl ?_; refine GO.nil ?_; refine kthen_n ?_)
  by_cases c1 : 32 < g.nodes.length
  · have d1 : decide ((32 : Int) < (g.nodes.length : Int)) = true := decide_eq_true (by omega)
    rw [if_pos c1]
    (refine G.condT rfl (by assumption) ?_; refine G.seq ?_; refine G.region ?_; refine GO.assign rfl rfl ?_; refine GO.nil ?_; refine kthen_n ?_; refine G.ret ?_; refine kblock_r ?_; refine kthen_r ?_)
    refine KF2.r1 rfl (RV.t rfl) ⟨rfl, rfl⟩ (ImpS.sb ?_)
    ((refine Sb.c (Tk.t Tk.h) ?_); (refine Sb.s ?_; exact Sb.r))
  have d1 : decide ((32 : Int) < (g.nodes.length : Int)) = false := decide_eq_false (by omega)
  rw [if_neg c1]
  (refine G.condF rfl (by assumption) ?_; refine G.seq ?_; refine G.region ?_; refine GO.loadW rfl rfl rfl Tk.h rfl ?_)
  refine GO.call1 rfl rfl (h1) (Tks.c (Tk.t Tk.h) Tks.n) ?_
  rintro r _ rfl
  by_cases c2 : 16 < (labelsG g).length
  · have d2 : decide ((16 : Int) < ((labelsG g).length : Int)) = true := decide_eq_true (by omega)
    rw [if_pos c2]
    (refine GO.lenOwn rfl rfl Tk.h ?_; refine GO.gti rfl rfl rfl ?_; refine GO.assign rfl rfl ?_; refine GO.nil ?_; refine kthen_n ?_; refine G.condT rfl (by assumption) ?_; refine G.seq ?_; refine G.region ?_; refine GO.assign rfl rfl ?_; refine GO.nil ?_; refine kthen_n ?_; refine G.ret ?_; refine kblock_r ?_; refine kthen_r ?_)
    refine KF2.r1 rfl (RV.t rfl) ⟨rfl, rfl⟩ (ImpS.sb ?_)
    ((refine Sb.c (Tk.t Tk.h) ?_); (refine Sb.s ?_; refine Sb.s ?_; exact Sb.r))
  have d2 : decide ((16 : Int) < ((labelsG g).length : Int)) = false := decide_eq_false (by omega)
  rw [if_neg c2]
  (refine GO.lenOwn rfl rfl Tk.h ?_; refine GO.gti rfl rfl rfl ?_; refine GO.assign rfl rfl ?_; refine GO.nil ?_; refine kthen_n ?_; refine G.condF rfl (by assumption) ?_; refine G.seq ?_; refine G.region ?_; refine GO.fieldAddr rfl rfl ?_; refine GO.load1 rfl rfl rfl (Tk.t (Tk.t Tk.h)) rfl ?_; refine GO.lenS rfl rfl ?_; refine GO.gti rfl rfl rfl ?_; refine GO.assign rfl rfl ?_; refine GO.nil ?_; refine kthen_n ?_)
  by_cases c3 : 256 < g.edges.length
  · rw [show decide ((256 : Int) < (g.edges.length : Int)) = true from decide_eq_true (by omega), if_pos c3]
    (refine G.condT rfl rfl ?_; refine G.seq ?_; refine G.region ?_; refine GO.assign rfl rfl ?_; refine GO.nil ?_; refine kthen_n ?_; refine G.ret ?_; refine kblock_r ?_; refine kthen_r ?_)
    refine KF2.r1 rfl (RV.t rfl) ⟨rfl, rfl⟩ (ImpS.sb ?_)
    ((refine Sb.c (Tk.t Tk.h) ?_); (refine Sb.s ?_; refine Sb.s ?_; exact Sb.r))
  rw [show decide ((256 : Int) < (g.edges.length : Int)) = false from decide_eq_false (by omega), if_neg c3]
  (refine G.condF rfl rfl ?_; refine G.seq ?_; refine G.region ?_; refine GO.loadW rfl rfl rfl (Tk.t (Tk.t Tk.h)) rfl ?_)
  refine GO.call1 rfl rfl (h2) (Tks.c (Tk.t Tk.h) Tks.n) ?_
  rintro _ _ ⟨rfl, rfl⟩
  (refine GO.strLen rfl rfl ?_; refine GO.gti rfl rfl rfl ?_; refine GO.assign rfl rfl ?_; refine GO.nil ?_; refine kthen_n ?_)
  by_cases c4 : 2048 < (textE g).length
  · rw [show decide ((2048 : Int) < ((textE g).length : Int)) = true from decide_eq_true (by omega), if_pos c4]
    (refine G.condT rfl rfl ?_; refine G.seq ?_; refine G.region ?_; refine GO.assign rfl rfl ?_; refine GO.nil ?_; refine kthen_n ?_; refine G.ret ?_; refine kblock_r ?_; refine kthen_r ?_)
    refine KF2.r1 rfl (RV.t rfl) ⟨rfl, rfl⟩ (ImpS.sb ?_)
    ((refine Sb.c Tk.h ?_); (refine Sb.s ?_; refine Sb.s ?_; exact Sb.r))
  rw [show decide ((2048 : Int) < ((textE g).length : Int)) = false from decide_eq_false (by omega), if_neg c4]
  (refine G.condF rfl rfl ?_; refine G.skip ?_; refine kblock_n ?_; refine kthen_n ?_; refine G.seq ?_; refine G.region ?_; refine GO.assign rfl rfl ?_; refine GO.nil ?_; refine kthen_n ?_; refine G.ret ?_)
  refine KF2.r1 rfl (RV.t rfl) ⟨rfl, rfl⟩ (ImpS.sb ?_)
  ((refine Sb.c Tk.h ?_); (refine Sb.s ?_; refine Sb.s ?_; exact Sb.r))
attribute [local irreducible] capsF
set_option maxHeartbeats 8000000 in
theorem checkE_spec (q : HP) (vn ve : Value) (g : GraphD) (hq : GraphR q vn ve g) (hf : FitE g) (ht : FitT g) : Fn Tryz.prog 24 #[graphA vn ve] [q] (fun r Q => r = i64 (checkE g : Nat) ∧ Q = [q]) := by
  have h1 := form_spec q vn ve g hq hf
  have h2 := named_spec2 q vn ve g hq hf
  have h3 := caps_spec q vn ve g hq hf ht
  obtain ⟨an, cn, rfl⟩ := strsR_sl hq.n
  obtain ⟨ae, ce, rfl⟩ := edges_sl hq.e
  unfold checkE
  refine Fn.mk2 Tryz.func24 rfl rfl fun w0 F => ?_
  (refine G.seq ?_; refine G.region ?_; refine GO.box rfl rfl rfl fun b1 => ?_; refine GO.assign rfl rfl ?_; refine GO.nil ?_; refine kthen_n ?_; refine G.seq ?_; refine G.block ?_; refine G.seq ?_; refine G.region ?_; refine GO.loadW rfl rfl rfl Tk.h rfl ?_)
  refine GO.call1 rfl rfl (h1) (Tks.c (Tk.t Tk.h) Tks.n) ?_
  rintro _ _ ⟨rfl, rfl⟩
  cases c1 : formG g
  · rw [if_neg (by decide)]
    (refine GO.not rfl rfl ?_; refine GO.assign rfl rfl ?_; refine GO.nil ?_; refine kthen_n ?_; refine G.condT rfl rfl ?_; refine G.seq ?_; refine G.region ?_; refine GO.assign rfl rfl ?_; refine GO.nil ?_; refine kthen_n ?_; refine G.ret ?_; refine kblock_r ?_; refine kthen_r ?_)
    refine KF2.r1 rfl (RV.t rfl) ⟨rfl, rfl⟩ (ImpS.sb ?_)
    ((refine Sb.c Tk.h ?_); (refine Sb.s ?_; exact Sb.r))
  rw [if_pos rfl]
  (refine GO.not rfl rfl ?_; refine GO.assign rfl rfl ?_; refine GO.nil ?_; refine kthen_n ?_; refine G.condF rfl rfl ?_; refine G.seq ?_; refine G.region ?_; refine GO.loadW rfl rfl rfl (Tk.t Tk.h) rfl ?_)
  refine GO.call1 rfl rfl (h2) (Tks.c Tk.h Tks.n) ?_
  rintro _ _ ⟨rfl, rfl⟩
  cases c2 : namedG g
  · rw [if_neg (by decide)]
    (refine GO.not rfl rfl ?_; refine GO.assign rfl rfl ?_; refine GO.nil ?_; refine kthen_n ?_; refine G.condT rfl rfl ?_; refine G.seq ?_; refine G.region ?_; refine GO.assign rfl rfl ?_; refine GO.nil ?_; refine kthen_n ?_; refine G.ret ?_; refine kblock_r ?_; refine kthen_r ?_)
    refine KF2.r1 rfl (RV.t rfl) ⟨rfl, rfl⟩ (ImpS.sb ?_)
    ((refine Sb.c Tk.h ?_); (refine Sb.s ?_; exact Sb.r))
  rw [if_pos rfl]
  (refine GO.not rfl rfl ?_; refine GO.assign rfl rfl ?_; refine GO.nil ?_; refine kthen_n ?_; refine G.condF rfl rfl ?_; refine G.skip ?_; refine kblock_n ?_; refine kthen_n ?_; refine G.seq ?_; refine G.region ?_; refine GO.loadW rfl rfl rfl (Tk.t Tk.h) rfl ?_)
  refine GO.call1 rfl rfl (h3) (Tks.c Tk.h Tks.n) ?_
  rintro _ _ ⟨rfl, rfl⟩
  (refine GO.assign rfl rfl ?_; refine GO.nil ?_; refine kthen_n ?_; refine G.ret ?_)
  refine KF2.r1 rfl (RV.t rfl) ⟨rfl, rfl⟩ (ImpS.sb ?_)
  ((refine Sb.c Tk.h ?_); (refine Sb.s ?_; exact Sb.r))
end Go.Proofs.YtpgfmfbpmkfbjaaGreat
namespace Go.Proofs.YtpgfmfbpmkfbjaaGreat
open Go
def endsE (es : List EdgeD) : List (List UInt8) := es.flatMap fun x => [x.src, x.dst]
/-- The graph with these nodes, edges, and their ends. -/
def madeG (g : GraphD) : GraphD := ⟨compL (sortB cmpS (g.nodes ++ endsE g.edges)), compL (sortB orderE g.edges)⟩
/-- What made answers: a graph, an error. -/
def madeF (g : GraphD) : GraphD × Nat := if capsF (madeG g) = 0 then (madeG g, 0) else (⟨[], []⟩, capsF (madeG g))
def ofF (g : GraphD) : GraphD × Nat := if namedG g = true then madeF g else (⟨[], []⟩, 173)
/-- Sizes of what is told. -/
structure FitM (g : GraphD) : Prop where
  n : ¬ 2048 < g.nodes.length
  e : ¬ 1024 < g.edges.length
theorem endsE_len (es : List EdgeD) : (endsE es).length = es.length * 2 := by
  unfold endsE
  induction es with
  | nil => rfl
  | cons x es ih => simp only [List.flatMap_cons, List.length_append, List.length_cons, List.length_nil] at ih ⊢; omega
theorem endsE_snoc {es : List EdgeD} {i : Nat} {x : EdgeD} (h : es[i]? = some x) : endsE (es.take (i + 1)) = endsE (es.take i) ++ [x.src, x.dst] := by
  unfold endsE
  rw [take_snoc h, List.flatMap_append, List.flatMap_cons, List.flatMap_nil, List.append_nil]
theorem compG_sub {α : Type} [DecidableEq α] : ∀ (r : List α) (x y : α), y ∈ compG x r → y ∈ r
  | [], _, _, h => h
  | z :: r, x, y, h => by
    simp only [compG] at h
    split at h
    · exact List.mem_cons_of_mem _ (compG_sub r z y h)
    · rcases List.mem_cons.1 h with rfl | h
      · exact List.mem_cons_self
      · exact List.mem_cons_of_mem _ (compG_sub r z y h)
theorem compL_sub {α : Type} [DecidableEq α] {l : List α} {y : α} (h : y ∈ compL l) : y ∈ l := by
  cases l with
  | nil => exact h
  | cons x r =>
    rcases List.mem_cons.1 h with rfl | h
    · exact List.mem_cons_self
    · exact List.mem_cons_of_mem _ (compG_sub r x y h)
theorem sortB_mem {α : Type} {c : α → α → Int} {l : List α} {y : α} : y ∈ sortB c l ↔ y ∈ l := List.mem_mergeSort
theorem endsE_mem {es : List EdgeD} {y : List UInt8} (h : y ∈ endsE es) : ∃ x ∈ es, y = x.src ∨ y = x.dst := by
  obtain ⟨x, hx, h⟩ := List.mem_flatMap.1 h
  simp only [List.mem_cons, List.not_mem_nil, or_false] at h
  exact ⟨x, hx, h⟩
theorem madeG_fit {g : GraphD} (h : FitM g) (ht : FitT g) : FitE (madeG g) ∧ FitT (madeG g) := by
  have h1 := compL_len (sortB cmpS (g.nodes ++ endsE g.edges))
  have h2 := compL_len (sortB orderE g.edges)
  have e1 : (sortB cmpS (g.nodes ++ endsE g.edges)).length = _ := List.length_mergeSort _
  have e2 : (sortB orderE g.edges).length = _ := List.length_mergeSort _
  rw [List.length_append, endsE_len] at e1
  have := h.n; have := h.e
  refine ⟨⟨by show ¬ 4096 < (compL _).length; omega, by show ¬ 4096 < (compL _).length; omega⟩, ⟨fun x hx => ?_, fun x hx => ht.e x (sortB_mem.1 (compL_sub hx))⟩⟩
  have hx := sortB_mem.1 (compL_sub hx)
  rcases List.mem_append.1 hx with hx | hx
  · exact ht.n x hx
  · obtain ⟨y, hy, rfl | rfl⟩ := endsE_mem hx
    · exact (ht.e y hy).1
    · exact (ht.e y hy).2.2
/-- A graph, an error, as they lie in memory. -/
def MadeR (z : GraphD × Nat) (q : HP) : Value → List HP → Prop := fun r Q => ∃ vn ve z', r = .tuple #[graphA vn ve, i64 (z.2 : Nat)] ∧ GraphR z' vn ve z.1 ∧ Q = [z', q]
theorem GraphR.nil (q : HP) : GraphR q (.slice none 0 0) (.slice none 0 0) ⟨[], []⟩ := ⟨⟨none, 0, rfl, Nat.le_refl _, rfl, fun h => absurd h (Nat.lt_irrefl 0)⟩, ⟨none, 0, rfl, Nat.le_refl _, rfl, fun h => absurd h (Nat.lt_irrefl 0)⟩⟩
theorem GraphR.sup {q q' : HP} (hs : Sup q q') {vn ve : Value} {g : GraphD} (h : GraphR q vn ve g) : GraphR q' vn ve g := ⟨h.n.sup hs, h.e.sup hs⟩
theorem strsV_ends (l : List (List UInt8)) (a b : List UInt8) : strsV (l ++ [a, b]) = strsV l ++ [str a, str b] := by simp [strsV]
section
variable {P : Program} {c : Cx} {A : Array Oper} {K : Kont} {L : Env} {H : List HP} {rest : List Oper} {t ty : TypeId} {p : String} {e : Array Edge} {d : Nat}
end
attribute [local irreducible] capN capM capT G GO GR GT Fn FnX FnV FnXV Dfr pt init exs pur sat own ImpS mapP capsF compL endsE
set_option maxHeartbeats 16000000 in
set_option maxRecDepth 40000 in
theorem made_spec (q : HP) (vn ve : Value) (g : GraphD) (hq : GraphR q vn ve g) (hf : FitM g) (ht : FitT g) : Fn Tryz.prog 44 #[vn, ve] [q] (MadeR (madeF g) q) := by
  obtain ⟨hfE, hfT⟩ := madeG_fit hf ht
  have hre : ∀ i m, g.edges[i]? = some m → _ := fun i m h => edges_rd hq.e h
  have hcl := cloneS_spec q vn g.nodes hq.n (by have := hf.n; omega)
  have hse := sortedE_spec q ve g.edges hq.e (by have := hf.e; omega)
  have hn := hf.n
  have he := hf.e
  have hel := endsE_len g.edges
  obtain ⟨an, cn, rfl⟩ := strsR_sl hq.n
  obtain ⟨ae, ce, rfl⟩ := edges_sl hq.e
  have hmg : madeG g = ⟨compL (sortB cmpS (g.nodes ++ endsE g.edges)), compL (sortB orderE g.edges)⟩ := rfl
  unfold madeF
  generalize g.nodes = ns at *
  generalize g.edges = es at *
  refine Fn.mk2 Tryz.func44 rfl rfl fun w0 F => ?_
  (refine G.seq ?_; refine G.region ?_; refine GO.alloc rfl fun b4 => ?_; refine GO.assign rfl rfl ?_; refine GO.nil ?_; refine kthen_n ?_; refine G.seq ?_; refine G.region ?_; refine GO.move rfl rfl ?_)
  refine GO.call1 rfl rfl (hcl) (Tks.c (Tk.t Tk.h) Tks.n) ?_
  rintro r _ rfl
  (refine GO.assign rfl rfl ?_; refine GO.nil ?_; refine kthen_n ?_; refine G.seq ?_; refine G.seq ?_; refine G.region ?_; refine GO.move rfl rfl ?_; refine GO.lenS rfl rfl ?_; refine GO.move rfl rfl ?_; refine GO.nil ?_; refine kthen_n ?_; refine G.block ?_)
  refine G.loopI (σ := Nat × Value) (fun z => [(1, .slice ae es.length ce), (4, ptrV b4), (5, i64 0), (6, z.2), (13, .slice ae es.length ce), (14, i64 (es.length : Nat)), (15, i64 (z.1 : Nat))]) (fun z => own 9 1 (ns ++ endsE (es.take z.1)).length z.2 (strsV (ns ++ endsE (es.take z.1))) :: q :: pt b4 (row [.slice none 0 0, .slice none 0 0] 33) :: F) (fun z => z.1 ≤ es.length) (fun z => es.length - z.1) (0, r) (Nat.zero_le _) ?_ ?_ ?_
  · (refine SubE.c rfl rfl ?_; refine SubE.c rfl rfl ?_; refine SubE.c rfl rfl ?_; refine SubE.c rfl rfl ?_; refine SubE.c rfl rfl ?_; refine SubE.c rfl rfl ?_; refine SubE.c rfl rfl ?_; exact SubE.n)
  · rw [List.take_zero, show endsE [] = [] by unfold endsE; rfl, List.append_nil]
    refine ImpS.sb ?_
    ((refine Sb.c Tk.h ?_; refine Sb.c Tk.h ?_; refine Sb.c Tk.h ?_); (exact Sb.r))
  rintro ⟨i, v6⟩ hi
  dsimp only at hi ⊢
  (refine G.seq ?_; refine G.region ?_; refine GO.lti rfl rfl rfl ?_; refine GO.nil ?_; refine kthen_n ?_; refine G.seq ?_)
  by_cases hlt : i < es.length
  · have d1 : decide ((i : Int) < (es.length : Int)) = true := decide_eq_true (by omega)
    obtain ⟨x, hx⟩ : ∃ x, es[i]? = some x := ⟨_, List.getElem?_eq_getElem hlt⟩
    obtain ⟨b, o, cp, e, _, rm⟩ := hre i x hx
    injection e with e _ e2
    subst e e2
    have hsn : ns ++ endsE (es.take (i + 1)) = (ns ++ endsE (es.take i)) ++ [x.src, x.dst] := by rw [endsE_snoc hx, List.append_assoc]
    have hlo : (ns ++ endsE (es.take i)).length ≤ 4096 := by rw [List.length_append, endsE_len, List.length_take]; omega
    generalize ns ++ endsE (es.take i) = lo at *
    (refine G.condT rfl (by assumption) ?_; refine G.skip ?_; refine kthen_n ?_; refine G.seq ?_; refine G.block ?_; refine G.seq ?_; refine G.region ?_; refine GO.idxS rfl rfl rfl ⟨rfl, by omega⟩ ?_)
    refine GO.loadM (vs := [str x.src, str x.lab, str x.dst]) rfl rfl rfl (Tk.t Tk.h) rfl rm ?_
    (refine GO.alloc rfl fun b8 => ?_; refine GO.storeW rfl rfl Tk.h ⟨rfl, rfl⟩ (by simp [Value.oneCell']) ?_; refine GO.nil ?_; refine kthen_n ?_; refine G.region ?_; refine GO.move rfl rfl ?_; refine GO.fieldAddr rfl rfl ?_; refine GO.load1 rfl rfl rfl Tk.h rfl ?_; refine GO.fieldAddr rfl rfl ?_; refine GO.load1 rfl rfl rfl Tk.h rfl ?_)
    refine GO.buildSlice2 (n := 1) rfl rfl rfl (fun v hv => by simp only [List.mem_cons, List.not_mem_nil, or_false] at hv; rcases hv with rfl | rfl <;> rfl) rfl ⟨by decide, by decide⟩ fun bs => ?_
    refine GO.appendOwn (m := 2) (news := [str x.src, str x.dst]) rfl rfl rfl (Tk.t (Tk.t Tk.h)) Tk.h rfl (by simp [Value.oneCell', str]) ⟨by decide, rfl⟩ (by decide) (by unfold maxLen; omega) (by omega) fun v7 => ?_
    (refine GO.assign rfl rfl ?_; refine GO.nil ?_; refine kblock_n ?_; refine kthen_n ?_; refine G.region ?_; refine GO.addi rfl rfl rfl (by omega) ?_; refine GO.move rfl rfl ?_; refine GO.nil ?_; refine kthen_n ?_)
    refine ⟨(i + 1, v7), hlt, by dsimp only; omega, ?_, ?_⟩
    · (refine SubE.c rfl rfl ?_; refine SubE.c rfl rfl ?_; refine SubE.c rfl rfl ?_; refine SubE.c rfl rfl ?_; refine SubE.c rfl rfl ?_; refine SubE.c rfl rfl ?_; refine SubE.c rfl rfl ?_; exact SubE.n)
    · dsimp only
      rw [hsn, List.length_append, strsV_ends]
      refine ImpS.sb ?_
      ((refine Sb.c Tk.h ?_; refine Sb.c (Tk.t (Tk.t Tk.h)) ?_; refine Sb.c (Tk.t (Tk.t Tk.h)) ?_); (refine Sb.s ?_; refine Sb.s ?_; exact Sb.r))
  have d1 : decide ((i : Int) < (es.length : Int)) = false := decide_eq_false (by omega)
  rw [List.take_of_length_le (show es.length ≤ i by omega)]
  clear hre
  have hal : (ns ++ endsE es).length ≤ 4096 := by rw [List.length_append]; omega
  generalize ns ++ endsE es = al at *
  refine G.ownRdK Tk.h fun q2 hq2 => ?_
  have hss := sortedS_spec q2 v6 al hq2 (by omega)
  obtain ⟨a2, c2, rfl⟩ := strsR_sl hq2
  (refine G.condF rfl (by assumption) ?_; refine G.exit ?_; refine kthen_x ?_; refine kthen_x ?_; refine kblock_x ?_; refine kthen_n ?_; refine G.seq ?_; refine G.region ?_; refine GO.move rfl rfl ?_)
  refine GO.call2 rfl rfl rfl (hss) (Tks.c Tk.h Tks.n) ?_
  rintro r3 _ rfl
  refine GO.ownRdK Tk.h fun q3 hq3 => ?_
  obtain ⟨a3, c3, rfl⟩ := strsR_sl hq3
  (refine GO.move rfl rfl ?_)
  refine GO.call2 rfl rfl rfl (hse) (Tks.c (Tk.t (Tk.t Tk.h)) Tks.n) ?_
  rintro r4 _ rfl
  refine GO.ownRdK Tk.h fun q4 hq4 => ?_
  obtain ⟨a4, c4, rfl⟩ := edges_sl hq4
  refine GO.merge (x := q3) (y := q4) (Tks.c (Tk.t (Tk.t Tk.h)) (Tks.c Tk.h Tks.n)) ?_
  have hgr : GraphR (star [q3, q4]) _ _ ⟨compL (sortB cmpS al), compL (sortB orderE es)⟩ := ⟨hq3.sup (Sup.left _ _), hq4.sup (Sup.right _ _)⟩
  rw [← hmg] at hgr
  have hlN : (compL (sortB cmpS al)).length = (madeG g).nodes.length := by rw [hmg]
  have hlE : (compL (sortB orderE es)).length = (madeG g).edges.length := by rw [hmg]
  rw [hlN, hlE] at hgr
  have hca := caps_spec _ _ _ _ hgr hfE hfT
  rw [hlN, hlE]
  generalize star [q3, q4] = qg at *
  (refine GO.build2 rfl rfl rfl rfl ?_; refine GO.alloc rfl fun b9 => ?_)
  refine GO.storeW (vs := [Value.slice a3 (madeG g).nodes.length c3, Value.slice a4 (madeG g).edges.length c4]) rfl rfl Tk.h ⟨rfl, rfl⟩ (by simp [Value.oneCell']) ?_
  (refine GO.nil ?_; refine kthen_n ?_; refine G.seq ?_; refine G.region ?_; refine GO.loadW rfl rfl rfl Tk.h rfl ?_)
  refine GO.call1 rfl rfl (hca) (Tks.c (Tk.t Tk.h) Tks.n) ?_
  rintro _ _ ⟨rfl, rfl⟩
  by_cases hc : capsF (madeG g) = 0
  · rw [if_pos hc]
    have d2 : decide ((capsF (madeG g) : Int) ≠ 0) = false := decide_eq_false (by omega)
    (refine GO.assign rfl rfl ?_; refine GO.nil ?_; refine kthen_n ?_; refine G.seq ?_; refine G.seq ?_; refine G.region ?_; refine GO.move rfl rfl ?_; refine GO.nei rfl rfl rfl ?_; refine GO.nil ?_; refine kthen_n ?_; refine G.condF rfl (by assumption) ?_; refine G.skip ?_; refine kthen_n ?_; refine G.seq ?_; refine G.region ?_; refine GO.loadW rfl rfl rfl (Tk.t Tk.h) rfl ?_; refine GO.storeW rfl rfl (Tk.t (Tk.t (Tk.t (Tk.t Tk.h)))) ⟨rfl, rfl⟩ (by simp [Value.oneCell']) ?_; refine GO.assign rfl rfl ?_; refine GO.nil ?_; refine kthen_n ?_; refine G.ret ?_)
    refine KF2.r2 rfl (RV.cW rfl rfl Tk.h rfl) (RV.t rfl) ⟨_, _, qg, rfl, hgr, rfl⟩ (ImpS.sb ?_)
    ((refine Sb.c (Tk.t Tk.h) ?_; refine Sb.c (Tk.t (Tk.t Tk.h)) ?_); (refine Sb.s ?_; refine Sb.s ?_; refine Sb.s ?_; exact Sb.r))
  · rw [if_neg hc]
    have d2 : decide ((capsF (madeG g) : Int) ≠ 0) = true := decide_eq_true (by omega)
    (refine GO.assign rfl rfl ?_; refine GO.nil ?_; refine kthen_n ?_; refine G.seq ?_; refine G.seq ?_; refine G.region ?_; refine GO.move rfl rfl ?_; refine GO.nei rfl rfl rfl ?_; refine GO.nil ?_; refine kthen_n ?_; refine G.condT rfl (by assumption) ?_; refine G.seq ?_; refine G.region ?_; refine GO.build0 rfl ?_; refine GO.move rfl rfl ?_; refine GO.storeW rfl rfl (Tk.t (Tk.t (Tk.t (Tk.t Tk.h)))) ⟨rfl, rfl⟩ (by simp [Value.oneCell']) ?_; refine GO.assign rfl rfl ?_; refine GO.nil ?_; refine kthen_n ?_; refine G.ret ?_; refine kthen_r ?_)
    refine KF2.r2 rfl (RV.cW rfl rfl Tk.h rfl) (RV.t rfl) ⟨_, _, qg, rfl, GraphR.nil _, rfl⟩ (ImpS.sb ?_)
    ((refine Sb.c (Tk.t Tk.h) ?_; refine Sb.c (Tk.t (Tk.t Tk.h)) ?_); (refine Sb.s ?_; refine Sb.s ?_; refine Sb.s ?_; exact Sb.r))
attribute [local irreducible] madeF namedG
theorem made_nodes {g : GraphD} (h : FitM g) : FitE g := ⟨by have := h.n; omega, by have := h.e; omega⟩
set_option maxHeartbeats 16000000 in
theorem of_spec (q : HP) (vn ve : Value) (g : GraphD) (hq : GraphR q vn ve g) (hf : FitM g) (ht : FitT g) : Fn Tryz.prog 23 #[vn, ve] [q] (MadeR (ofF g) q) := by
  have hna := named_spec2 q vn ve g hq (made_nodes hf)
  have hma := made_spec q vn ve g hq hf ht
  obtain ⟨an, cn, rfl⟩ := strsR_sl hq.n
  obtain ⟨ae, ce, rfl⟩ := edges_sl hq.e
  unfold ofF
  refine Fn.mk2 Tryz.func23 rfl rfl fun w0 F => ?_
  (refine G.seq ?_; refine G.region ?_; refine GO.alloc rfl fun b4 => ?_; refine GO.assign rfl rfl ?_; refine GO.nil ?_; refine kthen_n ?_; refine G.seq ?_; refine G.seq ?_; refine G.region ?_; refine GO.move rfl rfl ?_; refine GO.move rfl rfl ?_; refine GO.build2 rfl rfl rfl rfl ?_)
  refine GO.call1 rfl rfl (hna) (Tks.c (Tk.t Tk.h) Tks.n) ?_
  rintro _ _ ⟨rfl, rfl⟩
  cases hc : namedG g
  · rw [if_neg (by decide)]
    (refine GO.not rfl rfl ?_; refine GO.nil ?_; refine kthen_n ?_; refine G.condT rfl rfl ?_; refine G.seq ?_; refine G.region ?_; refine GO.build0 rfl ?_; refine GO.storeW rfl rfl (Tk.t Tk.h) ⟨rfl, rfl⟩ (by simp [Value.oneCell']) ?_; refine GO.assign rfl rfl ?_; refine GO.nil ?_; refine kthen_n ?_; refine G.ret ?_; refine kthen_r ?_)
    refine KF2.r2 rfl (RV.cW rfl rfl Tk.h rfl) (RV.t rfl) ⟨_, _, Go.Proofs.YtpgfmfbpmkfbjaaGreat.pur True, rfl, GraphR.nil _, rfl⟩ (ImpS.trans (ImpS.sb (M := [q] ++ F) ?_) ImpS.tt)
    ((refine Sb.c (Tk.t Tk.h) ?_); (refine Sb.s ?_; exact Sb.r))
  · rw [if_pos rfl]
    (refine GO.not rfl rfl ?_; refine GO.nil ?_; refine kthen_n ?_; refine G.condF rfl rfl ?_; refine G.skip ?_; refine kthen_n ?_; refine G.seq ?_; refine G.region ?_; refine GO.move rfl rfl ?_; refine GO.move rfl rfl ?_)
    refine GO.call2 rfl rfl rfl (hma) (Tks.c Tk.h Tks.n) ?_
    rintro _ _ ⟨v1, v2, z, rfl, hR, rfl⟩
    obtain ⟨a1, c1, rfl⟩ := strsR_sl hR.n
    obtain ⟨a2, c2, rfl⟩ := edges_sl hR.e
    (refine GO.extract rfl rfl rfl ?_; refine GO.extract rfl rfl rfl ?_; refine GO.storeW rfl rfl (Tk.t (Tk.t Tk.h)) ⟨rfl, rfl⟩ (by simp [Value.oneCell']) ?_; refine GO.assign rfl rfl ?_; refine GO.nil ?_; refine kthen_n ?_; refine G.ret ?_)
    refine KF2.r2 rfl (RV.cW rfl rfl Tk.h rfl) (RV.t rfl) ⟨_, _, z, rfl, hR, rfl⟩ (ImpS.sb ?_)
    ((refine Sb.c (Tk.t Tk.h) ?_; refine Sb.c (Tk.t Tk.h) ?_); (refine Sb.s ?_; exact Sb.r))
end Go.Proofs.YtpgfmfbpmkfbjaaGreat
