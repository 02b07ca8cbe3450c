/-
  The law TopTexts, part 5.
-/
import Derived.Test.YtpgfmfbpmkfbjaaGreatM4
namespace Go.Proofs.YtpgfmfbpmkfbjaaGreat
open Go
def hereM (ms : List MarkD) (e k : Nat) : MarkD := match ms[k]? with | some m => m | none => ⟨0, e, []⟩
def wordM (m : MarkD) : Bool := decide (1 ≤ (m.kind : Int)) && decide ((m.kind : Int) ≤ 3)
def readE (ms : List MarkD) (e : Nat) : Nat → Nat → GraphD → Except Nat GraphD
  | 0, _, g => .ok g
  | f + 1, k, g =>
    if k = ms.length then .ok g else
    if wordM (hereM ms e k) = false then .error (hereM ms e k).place else
    if (hereM ms e (k + 1)).kind = 5 then readE ms e f (k + 2) ⟨g.nodes ++ [(hereM ms e k).text], g.edges⟩ else
    if (hereM ms e (k + 1)).kind ≠ 2 then .error (hereM ms e (k + 1)).place else
    if wordM (hereM ms e (k + 2)) = false then .error (hereM ms e (k + 2)).place else
    if (hereM ms e (k + 3)).kind ≠ 5 then .error (hereM ms e (k + 3)).place else
    readE ms e f (k + 4) ⟨g.nodes, g.edges ++ [⟨(hereM ms e k).text, (hereM ms e (k + 1)).text, (hereM ms e (k + 2)).text⟩]⟩
theorem hereM_some {ms : List MarkD} {e k : Nat} {m : MarkD} (h : ms[k]? = some m) : hereM ms e k = m := by unfold hereM; rw [h]
theorem hereM_none {ms : List MarkD} {e k : Nat} (h : ms.length ≤ k) : hereM ms e k = ⟨0, e, []⟩ := by unfold hereM; rw [List.getElem?_eq_none h]
theorem hereM_lt {ms : List MarkD} {e k : Nat} (h : (hereM ms e k).kind ≠ 0) : k < ms.length := by
  unfold hereM at h
  cases hm : ms[k]? with
  | none => rw [hm] at h; exact absurd rfl h
  | some m => exact (List.getElem?_eq_some_iff.1 hm).1
theorem wordM_lt {ms : List MarkD} {e k : Nat} (h : wordM (hereM ms e k) = true) : k < ms.length := by
  refine hereM_lt (e := e) fun h0 => ?_
  unfold wordM at h
  rw [h0] at h
  exact absurd h (by decide)
theorem hereM_place (ms : List MarkD) (e k : Nat) : (hereM ms e k).place = placeAt ms e k := by
  unfold hereM placeAt
  cases ms[k]? <;> rfl
attribute [local irreducible] capN capM capT G GO GR GT Fn FnX FnV FnXV Dfr pt init exs pur sat own ImpS mapP
set_option maxHeartbeats 8000000 in
theorem here_spec (q : HP) (v : Value) (ms : List MarkD) (hq : MarksR q v ms) (b9 b2 b3 e k : Nat) (hk : ¬ 1048576 < k) :
    FnV Tryz.prog (.func (.func 41) #[] #[ptrV b9, ptrV b2, ptrV b3]) [] [pt b9 (row [i64 (k : Nat)] 3), pt b2 (row [v] 43), pt b3 (row [i64 (e : Nat)] 3), q]
      (fun r Q => r = .agg (markVs (hereM ms e k)).toArray ∧ Q = [pt b9 (row [i64 (k : Nat)] 3), pt b2 (row [v] 43), pt b3 (row [i64 (e : Nat)] 3), q]) := by
  refine FnV.of (caps := [ptrV b9, ptrV b2, ptrV b3]) ?_
  by_cases hlt : k < ms.length
  · obtain ⟨m, hm⟩ : ∃ m, ms[k]? = some m := ⟨_, List.getElem?_eq_getElem hlt⟩
    obtain ⟨b, o, cap, rfl, r0, r1, r2⟩ := marks_rd hq hm
    rw [hereM_some hm]
    have e1 : decide ((k : Int) < (ms.length : Int)) = true := decide_eq_true (by omega)
    clear hq
    refine Fn.mk2 Tryz.func41 rfl rfl fun w0 F => ?_
    (refine G.seq ?_; refine G.region ?_; refine GO.alloc rfl fun b3 => ?_; refine GO.nil ?_; refine kthen_n ?_; refine G.seq ?_; refine G.seq ?_; refine G.region ?_; refine GO.load1 rfl rfl rfl (Tk.t Tk.h) rfl ?_; refine GO.load1 rfl rfl rfl (Tk.t (Tk.t Tk.h)) rfl ?_; refine GO.lenS rfl rfl ?_; refine GO.lti rfl rfl rfl ?_; refine GO.nil ?_; refine kthen_n ?_; refine G.condT rfl (by assumption) ?_; refine G.seq ?_; refine G.region ?_; refine GO.load1 rfl rfl rfl (Tk.t (Tk.t Tk.h)) rfl ?_; refine GO.load1 rfl rfl rfl (Tk.t Tk.h) rfl ?_; refine GO.idxS rfl rfl rfl ⟨rfl, by omega⟩ ?_)
    refine GO.loadM (vs := [i64 (m.kind : Nat), i64 (m.place : Nat), str m.text]) rfl rfl rfl (Tk.t (Tk.t (Tk.t (Tk.t Tk.h)))) rfl (fun j u hu => by match j, hu with | 0, hu => (cases hu; exact r0) | 1, hu => (cases hu; exact r1) | 2, hu => (cases hu; exact r2)) ?_
    (refine GO.storeW rfl rfl Tk.h ⟨rfl, rfl⟩ (by simp [Value.oneCell']) ?_; refine GO.nil ?_; refine kthen_n ?_; refine G.ret ?_; refine kthen_r ?_)
    refine KF2.r1 rfl (RV.cW rfl rfl Tk.h rfl) ⟨rfl, rfl⟩ (ImpS.sb ?_)
    ((refine Sb.c (Tk.t Tk.h) ?_; refine Sb.c (Tk.t Tk.h) ?_; refine Sb.c (Tk.t Tk.h) ?_; refine Sb.c (Tk.t Tk.h) ?_); (refine Sb.s ?_; exact Sb.r))
  · obtain ⟨a, cap, rfl⟩ := marks_sl hq
    rw [hereM_none (by omega)]
    have e1 : decide ((k : Int) < (ms.length : Int)) = false := decide_eq_false (by omega)
    clear hq
    refine Fn.mk2 Tryz.func41 rfl rfl fun w0 F => ?_
    (refine G.seq ?_; refine G.region ?_; refine GO.alloc rfl fun b3 => ?_; refine GO.nil ?_; refine kthen_n ?_; refine G.seq ?_; refine G.seq ?_; refine G.region ?_; refine GO.load1 rfl rfl rfl (Tk.t Tk.h) rfl ?_; refine GO.load1 rfl rfl rfl (Tk.t (Tk.t Tk.h)) rfl ?_; refine GO.lenS rfl rfl ?_; refine GO.lti rfl rfl rfl ?_; refine GO.nil ?_; refine kthen_n ?_; refine G.condF rfl (by assumption) ?_; refine G.skip ?_; refine kthen_n ?_; refine G.seq ?_; refine G.region ?_; refine GO.load1 rfl rfl rfl (Tk.t (Tk.t (Tk.t Tk.h))) rfl ?_)
    refine GO.buildPart1 (built_markA e) rfl rfl ?_
    (refine GO.storeW rfl rfl Tk.h ⟨rfl, rfl⟩ (by simp [Value.oneCell']) ?_; refine GO.nil ?_; refine kthen_n ?_; refine G.ret ?_)
    refine KF2.r1 rfl (RV.cW rfl rfl Tk.h rfl) ⟨rfl, rfl⟩ (ImpS.sb ?_)
    ((refine Sb.c (Tk.t Tk.h) ?_; refine Sb.c (Tk.t Tk.h) ?_; refine Sb.c (Tk.t Tk.h) ?_; refine Sb.c (Tk.t Tk.h) ?_); (refine Sb.s ?_; exact Sb.r))
set_option maxHeartbeats 8000000 in
theorem word_spec (m : MarkD) : Fn Tryz.prog 42 #[.agg (markVs m).toArray] [] (fun r Q => r = .bool (wordM m) ∧ Q = []) := by
  unfold wordM markVs
  refine Fn.mk2 Tryz.func42 rfl rfl fun w0 F => ?_
  cases h : decide (1 ≤ (m.kind : Int))
  · (refine G.seq ?_; refine G.region ?_; refine GO.box rfl rfl rfl fun b1 => ?_; refine GO.assign rfl rfl ?_; refine GO.nil ?_; refine kthen_n ?_; refine G.seq ?_; refine G.region ?_; refine GO.fieldAddr rfl rfl ?_; refine GO.load1 rfl rfl rfl Tk.h rfl ?_; refine GO.gei rfl rfl rfl ?_; refine GO.move rfl rfl ?_; refine GO.gF rfl rfl rfl (by assumption) ?_; refine GO.gF rfl rfl rfl (by assumption) ?_; refine GO.gF rfl rfl rfl (by assumption) ?_; refine GO.pickFa rfl rfl (by assumption) rfl ?_; refine GO.assign rfl rfl ?_; refine GO.nil ?_; refine kthen_n ?_; refine G.ret ?_)
    refine KF2.r1 rfl (RV.t rfl) ⟨rfl, rfl⟩ (ImpS.sb ?_)
    (skip; (refine Sb.s ?_; exact Sb.r))
  · (refine G.seq ?_; refine G.region ?_; refine GO.box rfl rfl rfl fun b1 => ?_; refine GO.assign rfl rfl ?_; refine GO.nil ?_; refine kthen_n ?_; refine G.seq ?_; refine G.region ?_; refine GO.fieldAddr rfl rfl ?_; refine GO.load1 rfl rfl rfl Tk.h rfl ?_; refine GO.gei rfl rfl rfl ?_; refine GO.move rfl rfl ?_; refine GO.gT rfl rfl (by assumption) ?_; refine GO.fieldAddr rfl rfl ?_; refine GO.gT rfl rfl (by assumption) ?_; refine GO.load1 rfl rfl rfl Tk.h rfl ?_; refine GO.gT rfl rfl (by assumption) ?_; refine GO.lei rfl rfl rfl ?_; refine GO.pickTa rfl rfl (by assumption) rfl ?_; refine GO.assign rfl rfl ?_; refine GO.nil ?_; refine kthen_n ?_; refine G.ret ?_)
    refine KF2.r1 rfl (RV.t rfl) ⟨rfl, rfl⟩ (ImpS.sb ?_)
    (skip; (refine Sb.s ?_; exact Sb.r))
end Go.Proofs.YtpgfmfbpmkfbjaaGreat
namespace Go.Proofs.YtpgfmfbpmkfbjaaGreat
open Go
section
variable {P : Program} {c : Cx} {K : Kont} {L : Env} {H : List HP}
/-- A scope with two labels. -/
def twoE (E0 E1 : Nat → Env → List HP → Prop) : Nat → Nat → Env → List HP → Prop
  | 0 => E0
  | 1 => E1
  | _ => fun _ _ _ => False
theorem G.scope2 {x y0 y1 : Code} (E0 E1 : Nat → Env → List HP → Prop) (h0 : findLabel x 0 = some (.seq .skip y0)) (h1 : findLabel x 1 = some (.seq .skip y1))
    (k0 : ∀ m L H, E0 m L H → G P c y0 (kscope (fun l' L' H' => ∃ m', m' < m ∧ twoE E0 E1 l' m' L' H') K) L H)
    (k1 : ∀ m L H, E1 m L H → G P c y1 (kscope (fun l' L' H' => ∃ m', m' < m ∧ twoE E0 E1 l' m' L' H') K) L H)
    (first : (∀ m L H, E0 m L H → G P c y0 (kscope (fun l' L' H' => ∃ m', twoE E0 E1 l' m' L' H') K) L H) → G P c x (kscope (fun l' L' H' => ∃ m', twoE E0 E1 l' m' L' H') K) L H) : G P c (.scope x) K L H := by
  refine G.scope (twoE E0 E1) ?_ (first fun m L H h => ?_)
  · intro l m L H h
    match l, h with
    | 0, h => exact ⟨_, h0, G.seq (G.skip (kthen_n (k0 m L H h)))⟩
    | 1, h => exact ⟨_, h1, G.seq (G.skip (kthen_n (k1 m L H h)))⟩
    | _ + 2, h => exact h.elim
  · refine G.mono (k0 m L H h) fun e L' H' h3 => ?_
    cases e with
    | goto l' => obtain ⟨m', _, h4⟩ := h3; exact ⟨m', h4⟩
    | _ => exact h3
end
/-- What read answers, as it lies in memory. -/
def ReadER (q : HP) (e : Nat) : Except Nat GraphD → Value → List HP → Prop
  | .ok g => fun r Q => ∃ v1 v2, v1.oneCell' = true ∧ v2.oneCell' = true ∧ r = .tuple #[.agg [v1, v2].toArray, i64 (e : Nat), .bool false] ∧ Q = [own 9 1 g.nodes.length v1 (strsV g.nodes), own 80 3 g.edges.length v2 (edgesV g.edges), q]
  | .error p => fun r Q => r = .tuple #[.agg [.slice none 0 0, .slice none 0 0].toArray, i64 (p : Nat), .bool true] ∧ Q = [q]
theorem built_edge1 (s : List UInt8) : Tryz.prog.built 80 [(0, str s)] = some [str s, str [], str []].toArray := by kernel_rfl
abbrev hereV (b9 b2 b3 : Nat) : Value := .func (.func 41) #[] #[ptrV b9, ptrV b2, ptrV b3]
/-- What holds at the beginning of a statement. -/
def Beg (q : HP) (w : Value) (ms : List MarkD) (e b2 b3 b4 : Nat) (res : Except Nat GraphD) (F : List HP) (m : Nat) (L : Env) (H : List HP) : Prop := ∃ (z : Nat × Nat × GraphD) (v1 v2 : Value) (b7 b8 b9 : Nat) (xs : List Value),
  z.1 ≤ ms.length ∧ ms.length < z.1 + z.2.1 ∧ readE ms e z.2.1 z.1 z.2.2 = res ∧ z.2.2.nodes.length ≤ z.1 ∧ z.2.2.edges.length ≤ z.1 ∧ m = ms.length - z.1 + 1 ∧ v1.oneCell' = true ∧ v2.oneCell' = true ∧ xs.length = 3 ∧
  SubE [(2, ptrV b2), (3, ptrV b3), (4, ptrV b4), (5, i64 0), (6, .bool false), (7, ptrV b7), (8, ptrV b8), (9, ptrV b9), (10, hereV b9 b2 b3)] L ∧
  ImpS H (pt b9 (row [i64 (z.1 : Nat)] 3) :: pt b2 (row [w] 43) :: pt b3 (row [i64 (e : Nat)] 3) :: pt b7 (row [v1, v2] 70) :: pt b8 (row xs 80) :: pt b4 (row [.slice none 0 0, .slice none 0 0] 70) :: own 9 1 z.2.2.nodes.length v1 (strsV z.2.2.nodes) :: own 80 3 z.2.2.edges.length v2 (edgesV z.2.2.edges) :: q :: F)
/-- What holds where a wrong mark is told. -/
def Wrg (q : HP) (w : Value) (ms : List MarkD) (e b2 b3 b4 : Nat) (res : Except Nat GraphD) (F : List HP) (m : Nat) (L : Env) (H : List HP) : Prop := ∃ (k b9 : Nat),
  k ≤ ms.length + 3 ∧ res = .error (hereM ms e k).place ∧ m = 0 ∧ SubE [(4, ptrV b4), (10, hereV b9 b2 b3)] L ∧
  ImpS H (pt b9 (row [i64 (k : Nat)] 3) :: pt b2 (row [w] 43) :: pt b3 (row [i64 (e : Nat)] 3) :: pt b4 (row [.slice none 0 0, .slice none 0 0] 70) :: q :: F)
attribute [local irreducible] capN capM capT G GO GR GT Fn FnX FnV FnXV Dfr pt init exs pur sat own ImpS mapP hereM wordM placeAt
set_option maxHeartbeats 32000000 in
theorem read_spec2 (q : HP) (v : Value) (ms : List MarkD) (hq : MarksR q v ms) (e : Nat) (hms : ¬ 4096 < ms.length) :
    Fn Tryz.prog 22 #[v, i64 (e : Nat)] [q] (ReadER q e (readE ms e (ms.length + 1) 0 ⟨[], []⟩)) := by
  have hhe := fun b9 b2 b3 k hk => here_spec q v ms hq b9 b2 b3 e k hk
  obtain ⟨a, cap, rfl⟩ := marks_sl hq
  clear hq
  generalize hres : readE ms e (ms.length + 1) 0 ⟨[], []⟩ = res
  refine Fn.mk2 Tryz.func22 rfl rfl fun w0 F => ?_
  refine G.seq (G.region ?_)
  refine GO.box rfl rfl rfl fun b2 => ?_
  refine GO.box rfl rfl rfl fun b3 => ?_
  refine GO.alloc rfl fun b4 => ?_
  refine GO.assign rfl rfl ?_
  refine GO.assign rfl rfl ?_
  refine GO.nil (kthen_n ?_)
  refine G.scope2 (Beg q (.slice a ms.length cap) ms e b2 b3 b4 res F) (Wrg q (.slice a ms.length cap) ms e b2 b3 b4 res F) rfl rfl ?_ ?_ ?_
  · rintro m L H ⟨⟨k, f, g⟩, v1, v2, b7, b8, b9, xs, hk, hf, hr, hgn, hge, rfl, ho1, ho2, hxs, hL, hH⟩
    dsimp only at hk hf hr hgn hge hH
    refine G.subI hL hH ?_
    clear hL hH
    obtain ⟨x0, x1, x2, rfl⟩ : ∃ x0 x1 x2, xs = [x0, x1, x2] := by
      match xs, hxs with
      | [x0, x1, x2], _ => exact ⟨x0, x1, x2, rfl⟩
    obtain ⟨f, rfl⟩ : ∃ f', f = f' + 1 := ⟨f - 1, by omega⟩
    rw [readE] at hr
    (refine G.seq ?_; refine G.seq ?_; refine G.region ?_; refine GO.load1 rfl rfl rfl Tk.h rfl ?_; refine GO.load1 rfl rfl rfl (Tk.t Tk.h) rfl ?_; refine GO.lenS rfl rfl ?_; refine GO.eqi rfl rfl rfl ?_; refine GO.nil ?_; refine kthen_n ?_)
    by_cases hend : k = ms.length
    · rw [if_pos hend] at hr
      subst hr
      have d1 : decide ((k : Int) = (ms.length : Int)) = true := decide_eq_true (by omega)
      (refine G.condT rfl (by assumption) ?_; refine G.seq ?_)
      refine G.drawT 5 4 [pt b7 (row [v1, v2] 70), pt b3 (row [i64 (e : Nat)] 3)] (pt b4 (row [.slice none 0 0, .slice none 0 0] 70) :: own 9 1 g.nodes.length v1 (strsV g.nodes) :: own 80 3 g.edges.length v2 (edgesV g.edges) :: q :: F) (by kernel_rfl) (keys_of rfl) (ImpS.sb (by ((refine Sb.c (Tk.t (Tk.t (Tk.t Tk.h))) ?_; refine Sb.c (Tk.t (Tk.t Tk.h)) ?_; refine Sb.c (Tk.t (Tk.t (Tk.t Tk.h))) ?_; refine Sb.c (Tk.t (Tk.t (Tk.t Tk.h))) ?_; refine Sb.c (Tk.t (Tk.t (Tk.t Tk.h))) ?_; refine Sb.c (Tk.t (Tk.t (Tk.t Tk.h))) ?_); (refine Sb.s ?_; refine Sb.s ?_; refine Sb.s ?_; exact Sb.r)))) ?_
      ((apply GR.step rfl; focus (intro Z; refine GO.loadW rfl rfl rfl Tk.h rfl ?_; exact KQ.z)); (apply GR.step rfl; focus (intro Z; refine GO.load1 rfl rfl rfl (Tk.t Tk.h) rfl ?_; exact KQ.z)); refine GR.skip rfl ?_; (apply GR.step rfl; focus (intro Z; refine GO.assign rfl rfl ?_; exact KQ.z)); (apply GR.step rfl; focus (intro Z; refine GO.assign rfl rfl ?_; exact KQ.z)); refine GR.nil ?_)
      (repeat refine GT.skip rfl ?_)
      refine GT.step rfl ?_
      refine GO.storeW (vs := [v1, v2]) rfl rfl (Tk.t (Tk.t Tk.h)) ⟨rfl, rfl⟩ (fun u hu => by simp only [List.mem_cons, List.not_mem_nil, or_false] at hu; rcases hu with rfl | rfl <;> assumption) ?_
      (refine GO.nil ?_)
      refine ⟨rfl, .tuple #[], pt b4 (row [v1, v2] 70) :: own 9 1 g.nodes.length v1 (strsV g.nodes) :: own 80 3 g.edges.length v2 (edgesV g.edges) :: q :: F, rfl, ImpS.sb (by ((refine Sb.c (Tk.t Tk.h) ?_; refine Sb.c (Tk.t Tk.h) ?_; refine Sb.c Tk.h ?_; refine Sb.c Tk.h ?_; refine Sb.c Tk.h ?_; refine Sb.c Tk.h ?_); (exact Sb.r))), ?_⟩
      (repeat refine GT.skip rfl ?_)
      refine GT.nil ?_
      (refine GO.nil ?_; refine kthen_n ?_; refine G.ret ?_; refine kthen_r ?_; refine kscope_r ?_)
      refine KF2.r3 rfl (RV.cW (l := [v1, v2]) rfl rfl (Tk.t (Tk.t Tk.h)) rfl) (RV.t rfl) (RV.t rfl) ⟨_, _, ho1, ho2, rfl, rfl⟩ (ImpS.sb ?_)
      ((refine Sb.c (Tk.t (Tk.t (Tk.t Tk.h))) ?_; refine Sb.c (Tk.t (Tk.t (Tk.t Tk.h))) ?_; refine Sb.c (Tk.t (Tk.t (Tk.t Tk.h))) ?_); (refine Sb.s ?_; refine Sb.s ?_; refine Sb.s ?_; exact Sb.r))
    have d1 : decide ((k : Int) = (ms.length : Int)) = false := decide_eq_false (by omega)
    rw [if_neg hend] at hr
    (refine G.condF rfl (by assumption) ?_; refine G.skip ?_; refine kthen_n ?_; refine G.seq ?_; refine G.seq ?_; refine G.region ?_; refine GO.move rfl rfl ?_)
    refine GO.callV0 rfl rfl (hhe b9 b2 b3 k (by omega)) (Tks.c Tk.h (Tks.c Tk.h (Tks.c Tk.h (Tks.c (Tk.t (Tk.t (Tk.t (Tk.t (Tk.t Tk.h))))) Tks.n)))) ?_
    rintro _ _ ⟨rfl, rfl⟩
    skip
    refine GO.call1 rfl rfl (word_spec (hereM ms e k)) Tks.n ?_
    rintro _ _ ⟨rfl, rfl⟩
    cases hw : wordM (hereM ms e k)
    · rw [if_pos hw] at hr
      (refine GO.not rfl rfl ?_; refine GO.nil ?_; refine kthen_n ?_; refine G.condT rfl rfl ?_)
      refine G.goto (kthen_g (kscope_g ?_))
      refine ⟨0, by omega, k, b9, by omega, hr.symm, rfl, ?_, ImpS.sb ?_⟩
      · (refine SubE.c rfl rfl ?_; refine SubE.c rfl rfl ?_; exact SubE.n)
      · ((refine Sb.c Tk.h ?_; refine Sb.c Tk.h ?_; refine Sb.c Tk.h ?_; refine Sb.c (Tk.t (Tk.t (Tk.t Tk.h))) ?_; refine Sb.c Tk.h ?_); (refine Sb.s ?_; refine Sb.s ?_; refine Sb.s ?_; refine Sb.s ?_; exact Sb.r))
    · rw [if_neg (by rw [hw]; decide)] at hr
      have hlt := wordM_lt hw
      (refine GO.not rfl rfl ?_; refine GO.nil ?_; refine kthen_n ?_; refine G.condF rfl rfl ?_; refine G.skip ?_; refine kthen_n ?_; refine G.seq ?_; refine G.region ?_; refine GO.move rfl rfl ?_)
      refine GO.callV0 rfl rfl (hhe b9 b2 b3 k (by omega)) (Tks.c Tk.h (Tks.c Tk.h (Tks.c Tk.h (Tks.c Tk.h Tks.n)))) ?_
      rintro _ _ ⟨rfl, rfl⟩
      skip
      refine GO.field1 rfl rfl rfl ?_
      refine GO.buildPart1 (built_edge1 (hereM ms e k).text) rfl rfl ?_
      refine GO.storeW (vs := [str (hereM ms e k).text, str [], str []]) rfl rfl (Tk.t (Tk.t (Tk.t (Tk.t (Tk.t Tk.h))))) ⟨rfl, rfl⟩ (by simp [Value.oneCell']) ?_
      (refine GO.nil ?_; refine kthen_n ?_; refine G.seq ?_; refine G.region ?_; refine GO.load1 rfl rfl rfl (Tk.t Tk.h) rfl ?_; refine GO.addi rfl rfl rfl (by omega) ?_; refine GO.store1 rfl rfl rfl (Tk.t Tk.h) (by simp) ?_; refine GO.nil ?_; refine kthen_n ?_; refine G.seq ?_; refine G.seq ?_; refine G.region ?_; refine GO.move rfl rfl ?_)
      refine GO.callV0 rfl rfl (hhe b9 b2 b3 (k + 1) (by omega)) (Tks.c Tk.h (Tks.c (Tk.t Tk.h) (Tks.c (Tk.t Tk.h) (Tks.c (Tk.t Tk.h) Tks.n)))) ?_
      rintro _ _ ⟨rfl, rfl⟩
      skip
      refine GO.field1 rfl rfl rfl ?_
      (refine GO.eqi rfl rfl rfl ?_; refine GO.nil ?_; refine kthen_n ?_)
      by_cases h5 : (hereM ms e (k + 1)).kind = 5
      · rw [if_pos h5] at hr
        have hlt1 := hereM_lt (ms := ms) (e := e) (k := k + 1) (by omega)
        have d5 : decide (((hereM ms e (k + 1)).kind : Int) = 5) = true := decide_eq_true (by omega)
        (refine G.condT rfl (by assumption) ?_; refine G.seq ?_; refine G.region ?_; refine GO.fieldAddr rfl rfl ?_; refine GO.load1 rfl rfl rfl (Tk.t (Tk.t (Tk.t (Tk.t (Tk.t Tk.h))))) rfl ?_; refine GO.fieldAddr rfl rfl ?_; refine GO.load1 rfl rfl rfl (Tk.t (Tk.t (Tk.t (Tk.t Tk.h)))) rfl ?_)
        refine GO.buildSlice1 (n := 1) rfl rfl (fun v hv => by rw [List.mem_singleton.1 hv]; rfl) rfl ⟨by decide, by decide⟩ fun bs => ?_
        refine GO.appendOwn (m := 1) (news := [str (hereM ms e k).text]) rfl rfl rfl (Tk.t (Tk.t (Tk.t (Tk.t (Tk.t (Tk.t (Tk.t (Tk.t Tk.h)))))))) Tk.h rfl (by simp [Value.oneCell', str]) ⟨by decide, rfl⟩ Nat.one_pos (by unfold maxLen; omega) (by omega) fun v7 => ?_
        refine GO.ownOne Tk.h fun hone => ?_
        (refine GO.fieldAddr rfl rfl ?_; refine GO.store1 rfl rfl (by assumption) (Tk.t (Tk.t (Tk.t (Tk.t (Tk.t (Tk.t (Tk.t Tk.h))))))) (by simp) ?_; refine GO.nil ?_; refine kthen_n ?_; refine G.seq ?_; refine G.region ?_; refine GO.load1 rfl rfl rfl (Tk.t (Tk.t (Tk.t Tk.h))) rfl ?_; refine GO.addi rfl rfl rfl (by omega) ?_; refine GO.store1 rfl rfl rfl (Tk.t (Tk.t (Tk.t Tk.h))) (by simp) ?_; refine GO.nil ?_; refine kthen_n ?_)
        refine G.goto (kthen_g (kscope_g ?_))
        refine ⟨ms.length - (k + 2) + 1, by dsimp only; omega, (k + 2, f, ⟨g.nodes ++ [(hereM ms e k).text], g.edges⟩), v7, v2, b7, b8, b9, [str (hereM ms e k).text, str [], str []], by dsimp only; omega, by dsimp only; omega, hr, by dsimp only; rw [List.length_append, List.length_cons, List.length_nil]; omega, by dsimp only; omega, rfl, hone, ho2, rfl, ?_, ?_⟩
        · (refine SubE.c rfl rfl ?_; refine SubE.c rfl rfl ?_; refine SubE.c rfl rfl ?_; refine SubE.c rfl rfl ?_; refine SubE.c rfl rfl ?_; refine SubE.c rfl rfl ?_; refine SubE.c rfl rfl ?_; refine SubE.c rfl rfl ?_; refine SubE.c rfl rfl ?_; exact SubE.n)
        · dsimp only
          rw [List.length_append, List.length_cons, List.length_nil, show strsV (g.nodes ++ [(hereM ms e k).text]) = strsV g.nodes ++ [str (hereM ms e k).text] by simp [strsV]]
          refine ImpS.sb ?_
          ((refine Sb.c Tk.h ?_; refine Sb.c (Tk.t (Tk.t (Tk.t Tk.h))) ?_; refine Sb.c (Tk.t (Tk.t (Tk.t Tk.h))) ?_; refine Sb.c Tk.h ?_; refine Sb.c (Tk.t (Tk.t (Tk.t Tk.h))) ?_; refine Sb.c (Tk.t (Tk.t (Tk.t Tk.h))) ?_; refine Sb.c Tk.h ?_; refine Sb.c (Tk.t (Tk.t Tk.h)) ?_; refine Sb.c (Tk.t Tk.h) ?_); (refine Sb.s ?_; exact Sb.r))
      have d5 : decide (((hereM ms e (k + 1)).kind : Int) = 5) = false := decide_eq_false (by omega)
      rw [if_neg h5] at hr
      (refine G.condF rfl (by assumption) ?_; refine G.skip ?_; refine kthen_n ?_; refine G.seq ?_; refine G.seq ?_; refine G.region ?_; refine GO.move rfl rfl ?_)
      refine GO.callV0 rfl rfl (hhe b9 b2 b3 (k + 1) (by omega)) (Tks.c Tk.h (Tks.c Tk.h (Tks.c Tk.h (Tks.c Tk.h Tks.n)))) ?_
      rintro _ _ ⟨rfl, rfl⟩
      skip
      refine GO.field1 rfl rfl rfl ?_
      (refine GO.nei rfl rfl rfl ?_; refine GO.nil ?_; refine kthen_n ?_)
      by_cases h2 : (hereM ms e (k + 1)).kind = 2
      case neg =>
        rw [if_pos h2] at hr
        have d2 : decide (((hereM ms e (k + 1)).kind : Int) ≠ 2) = true := decide_eq_true (by omega)
        (refine G.condT rfl (by assumption) ?_)
        refine G.goto (kthen_g (kscope_g ?_))
        refine ⟨0, by omega, k + 1, b9, by omega, hr.symm, rfl, ?_, ImpS.sb ?_⟩
        · (refine SubE.c rfl rfl ?_; refine SubE.c rfl rfl ?_; exact SubE.n)
        · ((refine Sb.c Tk.h ?_; refine Sb.c Tk.h ?_; refine Sb.c Tk.h ?_; refine Sb.c (Tk.t (Tk.t (Tk.t Tk.h))) ?_; refine Sb.c Tk.h ?_); (refine Sb.s ?_; refine Sb.s ?_; refine Sb.s ?_; refine Sb.s ?_; exact Sb.r))
      have hlt1 := hereM_lt (ms := ms) (e := e) (k := k + 1) (by omega)
      have d2 : decide (((hereM ms e (k + 1)).kind : Int) ≠ 2) = false := decide_eq_false (by omega)
      rw [if_neg (by omega)] at hr
      (refine G.condF rfl (by assumption) ?_; refine G.skip ?_; refine kthen_n ?_; refine G.seq ?_; refine G.region ?_; refine GO.move rfl rfl ?_)
      refine GO.callV0 rfl rfl (hhe b9 b2 b3 (k + 1) (by omega)) (Tks.c Tk.h (Tks.c Tk.h (Tks.c Tk.h (Tks.c Tk.h Tks.n)))) ?_
      rintro _ _ ⟨rfl, rfl⟩
      skip
      refine GO.field1 rfl rfl rfl ?_
      (refine GO.fieldAddr rfl rfl ?_; refine GO.store1 rfl rfl rfl (Tk.t (Tk.t (Tk.t (Tk.t Tk.h)))) (by simp) ?_; refine GO.nil ?_; refine kthen_n ?_; refine G.seq ?_; refine G.region ?_; refine GO.load1 rfl rfl rfl (Tk.t Tk.h) rfl ?_; refine GO.addi rfl rfl rfl (by omega) ?_; refine GO.store1 rfl rfl rfl (Tk.t Tk.h) (by simp) ?_; refine GO.nil ?_; refine kthen_n ?_; refine G.seq ?_; refine G.seq ?_; refine G.region ?_; refine GO.move rfl rfl ?_)
      refine GO.callV0 rfl rfl (hhe b9 b2 b3 (k + 2) (by omega)) (Tks.c Tk.h (Tks.c (Tk.t Tk.h) (Tks.c (Tk.t Tk.h) (Tks.c (Tk.t Tk.h) Tks.n)))) ?_
      rintro _ _ ⟨rfl, rfl⟩
      skip
      refine GO.call1 rfl rfl (word_spec (hereM ms e (k + 2))) Tks.n ?_
      rintro _ _ ⟨rfl, rfl⟩
      cases hw2 : wordM (hereM ms e (k + 2))
      · rw [if_pos hw2] at hr
        (refine GO.not rfl rfl ?_; refine GO.nil ?_; refine kthen_n ?_; refine G.condT rfl rfl ?_)
        refine G.goto (kthen_g (kscope_g ?_))
        refine ⟨0, by omega, k + 2, b9, by omega, hr.symm, rfl, ?_, ImpS.sb ?_⟩
        · (refine SubE.c rfl rfl ?_; refine SubE.c rfl rfl ?_; exact SubE.n)
        · ((refine Sb.c Tk.h ?_; refine Sb.c Tk.h ?_; refine Sb.c Tk.h ?_; refine Sb.c (Tk.t (Tk.t (Tk.t Tk.h))) ?_; refine Sb.c Tk.h ?_); (refine Sb.s ?_; refine Sb.s ?_; refine Sb.s ?_; refine Sb.s ?_; exact Sb.r))
      rw [if_neg (by rw [hw2]; decide)] at hr
      have hlt2 := wordM_lt hw2
      (refine GO.not rfl rfl ?_; refine GO.nil ?_; refine kthen_n ?_; refine G.condF rfl rfl ?_; refine G.skip ?_; refine kthen_n ?_; refine G.seq ?_; refine G.region ?_; refine GO.move rfl rfl ?_)
      refine GO.callV0 rfl rfl (hhe b9 b2 b3 (k + 2) (by omega)) (Tks.c Tk.h (Tks.c Tk.h (Tks.c Tk.h (Tks.c Tk.h Tks.n)))) ?_
      rintro _ _ ⟨rfl, rfl⟩
      skip
      refine GO.field1 rfl rfl rfl ?_
      (refine GO.fieldAddr rfl rfl ?_; refine GO.store1 rfl rfl rfl (Tk.t (Tk.t (Tk.t (Tk.t Tk.h)))) (by simp) ?_; refine GO.nil ?_; refine kthen_n ?_; refine G.seq ?_; refine G.region ?_; refine GO.load1 rfl rfl rfl (Tk.t Tk.h) rfl ?_; refine GO.addi rfl rfl rfl (by omega) ?_; refine GO.store1 rfl rfl rfl (Tk.t Tk.h) (by simp) ?_; refine GO.nil ?_; refine kthen_n ?_; refine G.seq ?_; refine G.seq ?_; refine G.region ?_; refine GO.move rfl rfl ?_)
      refine GO.callV0 rfl rfl (hhe b9 b2 b3 (k + 3) (by omega)) (Tks.c Tk.h (Tks.c (Tk.t Tk.h) (Tks.c (Tk.t Tk.h) (Tks.c (Tk.t Tk.h) Tks.n)))) ?_
      rintro _ _ ⟨rfl, rfl⟩
      skip
      refine GO.field1 rfl rfl rfl ?_
      (refine GO.nei rfl rfl rfl ?_; refine GO.nil ?_; refine kthen_n ?_)
      by_cases h6 : (hereM ms e (k + 3)).kind = 5
      case neg =>
        rw [if_pos h6] at hr
        have d6 : decide (((hereM ms e (k + 3)).kind : Int) ≠ 5) = true := decide_eq_true (by omega)
        (refine G.condT rfl (by assumption) ?_)
        refine G.goto (kthen_g (kscope_g ?_))
        refine ⟨0, by omega, k + 3, b9, by omega, hr.symm, rfl, ?_, ImpS.sb ?_⟩
        · (refine SubE.c rfl rfl ?_; refine SubE.c rfl rfl ?_; exact SubE.n)
        · ((refine Sb.c Tk.h ?_; refine Sb.c Tk.h ?_; refine Sb.c Tk.h ?_; refine Sb.c (Tk.t (Tk.t (Tk.t Tk.h))) ?_; refine Sb.c Tk.h ?_); (refine Sb.s ?_; refine Sb.s ?_; refine Sb.s ?_; refine Sb.s ?_; exact Sb.r))
      have hlt3 := hereM_lt (ms := ms) (e := e) (k := k + 3) (by omega)
      have d6 : decide (((hereM ms e (k + 3)).kind : Int) ≠ 5) = false := decide_eq_false (by omega)
      rw [if_neg (by omega)] at hr
      (refine G.condF rfl (by assumption) ?_; refine G.skip ?_; refine kthen_n ?_; refine G.seq ?_; refine G.region ?_; refine GO.fieldAddr rfl rfl ?_; refine GO.load1 rfl rfl rfl (Tk.t (Tk.t (Tk.t (Tk.t (Tk.t Tk.h))))) rfl ?_; refine GO.loadW rfl rfl rfl (Tk.t (Tk.t (Tk.t (Tk.t Tk.h)))) rfl ?_)
      refine GO.buildSlice1 (n := 3) rfl rfl (fun v hv => by rw [List.mem_singleton.1 hv]; rfl) rfl ⟨by decide, by decide⟩ fun bs => ?_
      refine GO.appendOwn (m := 1) (news := [str (hereM ms e k).text, str (hereM ms e (k + 1)).text, str (hereM ms e (k + 2)).text]) rfl rfl rfl (Tk.t (Tk.t (Tk.t (Tk.t (Tk.t (Tk.t (Tk.t (Tk.t (Tk.t Tk.h))))))))) Tk.h rfl (by simp [Value.oneCell', str]) ⟨by decide, rfl⟩ Nat.one_pos (by unfold maxLen; omega) (by omega) fun v7 => ?_
      refine GO.ownOne Tk.h fun hone => ?_
      (refine GO.fieldAddr rfl rfl ?_; refine GO.store1 rfl rfl (by assumption) (Tk.t (Tk.t (Tk.t (Tk.t (Tk.t (Tk.t (Tk.t Tk.h))))))) (by simp) ?_; refine GO.nil ?_; refine kthen_n ?_; refine G.seq ?_; refine G.region ?_; refine GO.load1 rfl rfl rfl (Tk.t (Tk.t (Tk.t Tk.h))) rfl ?_; refine GO.addi rfl rfl rfl (by omega) ?_; refine GO.store1 rfl rfl rfl (Tk.t (Tk.t (Tk.t Tk.h))) (by simp) ?_; refine GO.nil ?_; refine kthen_n ?_; refine G.seq ?_)
      refine G.goto (kthen_g (kscope_g ?_))
      refine ⟨ms.length - (k + 4) + 1, by dsimp only; omega, (k + 4, f, ⟨g.nodes, g.edges ++ [⟨(hereM ms e k).text, (hereM ms e (k + 1)).text, (hereM ms e (k + 2)).text⟩]⟩), v1, v7, b7, b8, b9, [str (hereM ms e k).text, str (hereM ms e (k + 1)).text, str (hereM ms e (k + 2)).text], by dsimp only; omega, by dsimp only; omega, hr, by dsimp only; omega, by dsimp only; rw [List.length_append, List.length_cons, List.length_nil]; omega, rfl, ho1, hone, rfl, ?_, ?_⟩
      · (refine SubE.c rfl rfl ?_; refine SubE.c rfl rfl ?_; refine SubE.c rfl rfl ?_; refine SubE.c rfl rfl ?_; refine SubE.c rfl rfl ?_; refine SubE.c rfl rfl ?_; refine SubE.c rfl rfl ?_; refine SubE.c rfl rfl ?_; refine SubE.c rfl rfl ?_; exact SubE.n)
      · dsimp only
        rw [List.length_append, List.length_cons, List.length_nil, show edgesV (g.edges ++ [⟨(hereM ms e k).text, (hereM ms e (k + 1)).text, (hereM ms e (k + 2)).text⟩]) = edgesV g.edges ++ [str (hereM ms e k).text, str (hereM ms e (k + 1)).text, str (hereM ms e (k + 2)).text] by simp [edgesV, edgeVs]]
        refine ImpS.sb ?_
        ((refine Sb.c Tk.h ?_; refine Sb.c (Tk.t (Tk.t (Tk.t Tk.h))) ?_; refine Sb.c (Tk.t (Tk.t (Tk.t Tk.h))) ?_; refine Sb.c Tk.h ?_; refine Sb.c (Tk.t (Tk.t (Tk.t Tk.h))) ?_; refine Sb.c (Tk.t (Tk.t (Tk.t Tk.h))) ?_; refine Sb.c (Tk.t (Tk.t (Tk.t Tk.h))) ?_; refine Sb.c Tk.h ?_; refine Sb.c (Tk.t Tk.h) ?_); (refine Sb.s ?_; exact Sb.r))
  · rintro m L H ⟨k, b9, hk, he, rfl, hL, hH⟩
    subst he
    refine G.subI hL hH ?_
    clear hL hH
    (refine G.seq ?_; refine G.region ?_; refine GO.build0 rfl ?_; refine GO.move rfl rfl ?_)
    refine GO.callV0 rfl rfl (hhe b9 b2 b3 k (by omega)) (Tks.c Tk.h (Tks.c Tk.h (Tks.c Tk.h (Tks.c (Tk.t Tk.h) Tks.n)))) ?_
    rintro _ _ ⟨rfl, rfl⟩
    skip
    refine GO.field1 rfl rfl rfl ?_
    (refine GO.storeW rfl rfl (Tk.t (Tk.t (Tk.t (Tk.t Tk.h)))) ⟨rfl, rfl⟩ (by simp [Value.oneCell']) ?_; refine GO.assign rfl rfl ?_; refine GO.assign rfl rfl ?_; refine GO.nil ?_; refine kthen_n ?_; refine G.ret ?_; refine kscope_r ?_)
    refine KF2.r3 rfl (RV.cW rfl rfl Tk.h rfl) (RV.t rfl) (RV.t rfl) ⟨rfl, rfl⟩ (ImpS.sb ?_)
    ((refine Sb.c (Tk.t (Tk.t (Tk.t (Tk.t Tk.h)))) ?_); (refine Sb.s ?_; refine Sb.s ?_; refine Sb.s ?_; refine Sb.s ?_; exact Sb.r))
  intro hbeg
  refine G.ownNil (T := 9) (sz := 1) ?_
  refine G.ownNil (T := 80) (sz := 3) ?_
  refine G.seq (G.region ?_)
  refine GO.alloc rfl fun b7 => ?_
  refine GO.nil (kthen_n ?_)
  refine G.seq (G.region ?_)
  refine GO.alloc rfl fun b8 => ?_
  refine GO.nil (kthen_n ?_)
  refine G.seq (G.region ?_)
  refine GO.alloc rfl fun b9 => ?_
  refine GO.store1 rfl rfl rfl Tk.h (by decide) ?_
  refine GO.nil (kthen_n ?_)
  refine G.seq (G.region ?_)
  refine GO.makeFunc3 rfl rfl rfl rfl ?_
  refine GO.assign rfl rfl ?_
  refine GO.nil (kthen_n ?_)
  refine G.seq (G.label (kthen_n ?_))
  refine hbeg (ms.length + 1) _ _ ⟨(0, ms.length + 1, ⟨[], []⟩), .slice none 0 0, .slice none 0 0, b7, b8, b9, [str [], str [], str []], Nat.zero_le _, by dsimp only; omega, hres, Nat.zero_le _, Nat.zero_le _, rfl, rfl, rfl, rfl, ?_, ?_⟩
  · (refine SubE.c rfl rfl ?_; refine SubE.c rfl rfl ?_; refine SubE.c rfl rfl ?_; refine SubE.c rfl rfl ?_; refine SubE.c rfl rfl ?_; refine SubE.c rfl rfl ?_; refine SubE.c rfl rfl ?_; refine SubE.c rfl rfl ?_; refine SubE.c rfl rfl ?_; exact SubE.n)
  · refine ImpS.sb ?_
    ((refine Sb.c Tk.h ?_; refine Sb.c (Tk.t (Tk.t (Tk.t (Tk.t (Tk.t (Tk.t Tk.h)))))) ?_; refine Sb.c (Tk.t (Tk.t (Tk.t (Tk.t (Tk.t Tk.h))))) ?_; refine Sb.c (Tk.t Tk.h) ?_; refine Sb.c Tk.h ?_; refine Sb.c (Tk.t (Tk.t Tk.h)) ?_; refine Sb.c (Tk.t Tk.h) ?_; refine Sb.c Tk.h ?_; refine Sb.c Tk.h ?_); (exact Sb.r))
end Go.Proofs.YtpgfmfbpmkfbjaaGreat
namespace Go.Proofs.YtpgfmfbpmkfbjaaGreat
open Go
attribute [local irreducible] capN capM capT G GO GR GT Fn FnX FnV FnXV Dfr pt init exs pur sat own ImpS mapP
set_option maxHeartbeats 16000000 in
theorem equalE_spec (q1 q2 : HP) (v1 v2 : Value) (l k : List EdgeD) (h1 : EdgesR q1 v1 l) (h2 : EdgesR q2 v2 k) (hl : ¬ 1048576 < l.length) : Fn Tryz.prog 27 #[v1, v2] [q1, q2] (fun r Q => r = .bool (decide (l = k)) ∧ Q = [q1, q2]) := by
  have hr1 : ∀ i m, l[i]? = some m → _ := fun i m h => edges_rd h1 h
  have hr2 : ∀ i m, k[i]? = some m → _ := fun i m h => edges_rd h2 h
  obtain ⟨a, cap, rfl⟩ := edges_sl h1
  obtain ⟨a2, cap2, rfl⟩ := edges_sl h2
  refine Fn.mk2 Tryz.func27 rfl rfl fun w0 F => ?_
  (refine G.seq ?_; refine G.region ?_; refine GO.assign rfl rfl ?_; refine GO.nil ?_; refine kthen_n ?_; refine G.seq ?_; refine G.seq ?_; refine G.region ?_; refine GO.move rfl rfl ?_; refine GO.lenS rfl rfl ?_; refine GO.move rfl rfl ?_; refine GO.lenS rfl rfl ?_; refine GO.nei rfl rfl rfl ?_; refine GO.nil ?_; refine kthen_n ?_)
  by_cases hlen : l.length = k.length
  · have d0 : decide ((l.length : Int) ≠ (k.length : Int)) = false := decide_eq_false (by omega)
    generalize hres : decide (l = k) = res
    (refine G.condF rfl (by assumption) ?_; refine G.skip ?_; refine kthen_n ?_; refine G.seq ?_; refine G.seq ?_; refine G.region ?_; refine GO.move rfl rfl ?_; refine GO.lenS rfl rfl ?_; refine GO.move rfl rfl ?_; refine GO.nil ?_; refine kthen_n ?_; refine G.block ?_)
    refine G.loopI (σ := Nat) (fun i => [(0, .slice a l.length cap), (1, .slice a2 k.length cap2), (11, .slice a l.length cap), (12, i64 (l.length : Nat)), (13, i64 (i : Nat))]) (fun _ => q1 :: q2 :: F) (fun i => i ≤ l.length ∧ decide (l.drop i = k.drop i) = res) (fun i => l.length - i) 0 ⟨Nat.zero_le _, hres⟩ ?_ ?_ ?_
    · (refine SubE.c rfl rfl ?_; refine SubE.c rfl rfl ?_; refine SubE.c rfl rfl ?_; refine SubE.c rfl rfl ?_; refine SubE.c rfl rfl ?_; exact SubE.n)
    · refine ImpS.sb ?_
      ((refine Sb.c Tk.h ?_; refine Sb.c Tk.h ?_); (exact Sb.r))
    clear hres
    rintro i ⟨hi, hp⟩
    (refine G.seq ?_; refine G.region ?_; refine GO.lti rfl rfl rfl ?_; refine GO.nil ?_; refine kthen_n ?_; refine G.seq ?_)
    by_cases hlt : i < l.length
    · have d1 : decide ((i : Int) < (l.length : Int)) = true := decide_eq_true (by omega)
      obtain ⟨m, hm⟩ : ∃ m, l[i]? = some m := ⟨_, List.getElem?_eq_getElem hlt⟩
      obtain ⟨m2, hm2⟩ : ∃ m, k[i]? = some m := ⟨_, List.getElem?_eq_getElem (by omega)⟩
      obtain ⟨b, o, cp, e, _, rm⟩ := hr1 i m hm
      injection e with e _ e2
      subst e e2
      obtain ⟨b', o', cp', e, _, rm2⟩ := hr2 i m2 hm2
      injection e with e _ e2
      subst e e2
      rw [eq_drop hm hm2] at hp
      (refine G.condT rfl (by assumption) ?_; refine G.skip ?_; refine kthen_n ?_; refine G.seq ?_; refine G.block ?_; refine G.seq ?_; refine G.region ?_; refine GO.move rfl rfl ?_; refine GO.assign rfl rfl ?_; refine GO.nil ?_; refine kthen_n ?_; refine G.seq ?_)
      refine G.draw 9 (by kernel_rfl) ?_
      ((apply GQ.step; focus (intro Z; refine GO.move rfl rfl ?_; exact KQ.z)); (apply GQ.step; focus (intro Z; refine GO.move rfl rfl ?_; exact KQ.z)); (apply GQ.step; focus (intro Z; refine GO.idxS rfl rfl rfl ⟨rfl, by omega⟩ ?_; exact KQ.z)))
      apply GQ.step; focus (intro Z; refine GO.loadM (vs := edgeVs m) rfl rfl rfl Tk.h rfl rm ?_; exact KQ.z)
      ((apply GQ.step; focus (intro Z; refine GO.move rfl rfl ?_; exact KQ.z)); (apply GQ.step; focus (intro Z; refine GO.move rfl rfl ?_; exact KQ.z)); (apply GQ.step; focus (intro Z; refine GO.idxS rfl rfl rfl ⟨rfl, by omega⟩ ?_; exact KQ.z)))
      apply GQ.step; focus (intro Z; refine GO.loadM (vs := edgeVs m2) rfl rfl rfl (Tk.t Tk.h) rfl rm2 ?_; exact KQ.z)
      skip
      apply GQ.step; focus (intro Z; refine GO.neqA (eqEdge m m2) rfl rfl rfl ?_; exact KQ.z)
      (refine GQ.nil ?_)
      by_cases hmm : m = m2
      · have d2 : decide (m = m2) = true := decide_eq_true hmm
        rw [d2, Bool.true_and] at hp
        rw [d2]
        (refine GO.nil ?_; refine kthen_n ?_; refine G.condF rfl rfl ?_; refine G.skip ?_; refine kblock_n ?_; refine kthen_n ?_; refine G.region ?_; refine GO.addi rfl rfl rfl (by omega) ?_; refine GO.move rfl rfl ?_; refine GO.nil ?_; refine kthen_n ?_)
        refine ⟨i + 1, ⟨hlt, hp⟩, by omega, ?_, ImpS.sb ?_⟩
        · (refine SubE.c rfl rfl ?_; refine SubE.c rfl rfl ?_; refine SubE.c rfl rfl ?_; refine SubE.c rfl rfl ?_; refine SubE.c rfl rfl ?_; exact SubE.n)
        · ((refine Sb.c Tk.h ?_; refine Sb.c Tk.h ?_); (exact Sb.r))
      · have d2 : decide (m = m2) = false := decide_eq_false hmm
        rw [d2, Bool.false_and] at hp
        subst hp
        rw [d2]
        (refine GO.nil ?_; refine kthen_n ?_; refine G.condT rfl rfl ?_; refine G.seq ?_; refine G.region ?_; refine GO.assign rfl rfl ?_; refine GO.nil ?_; refine kthen_n ?_; refine G.ret ?_; refine kblock_r ?_; refine kthen_r ?_; refine kthen_r ?_; refine kblock_r ?_; refine kthen_r ?_)
        refine KF2.r1 rfl (RV.t rfl) ⟨rfl, rfl⟩ (ImpS.sb ?_)
        ((refine Sb.c Tk.h ?_; refine Sb.c Tk.h ?_); (exact Sb.r))
    · have d1 : decide ((i : Int) < (l.length : Int)) = false := decide_eq_false (by omega)
      rw [List.drop_eq_nil_of_le (by omega), List.drop_eq_nil_of_le (by omega)] at hp
      subst hp
      (refine G.condF rfl (by assumption) ?_; refine G.exit ?_; refine kthen_x ?_; refine kthen_x ?_; refine kblock_x ?_; refine kthen_n ?_; refine G.seq ?_; refine G.region ?_; refine GO.assign rfl rfl ?_; refine GO.nil ?_; refine kthen_n ?_; refine G.ret ?_)
      refine KF2.r1 rfl (RV.t rfl) ⟨rfl, rfl⟩ (ImpS.sb ?_)
      ((refine Sb.c Tk.h ?_; refine Sb.c Tk.h ?_); (exact Sb.r))
  · have d0 : decide ((l.length : Int) ≠ (k.length : Int)) = true := decide_eq_true (by omega)
    rw [decide_eq_false (fun h => hlen (by rw [h]))]
    (refine G.condT rfl (by assumption) ?_; refine G.seq ?_; refine G.region ?_; refine GO.assign rfl rfl ?_; refine GO.nil ?_; refine kthen_n ?_; refine G.ret ?_; refine kthen_r ?_)
    refine KF2.r1 rfl (RV.t rfl) ⟨rfl, rfl⟩ (ImpS.sb ?_)
    ((refine Sb.c Tk.h ?_; refine Sb.c Tk.h ?_); (exact Sb.r))
set_option maxHeartbeats 16000000 in
theorem equalS_spec (q1 q2 : HP) (v1 v2 : Value) (l k : List (List UInt8)) (h1 : StrsR q1 v1 l) (h2 : StrsR q2 v2 k) (hl : ¬ 1048576 < l.length) : Fn Tryz.prog 26 #[v1, v2] [q1, q2] (fun r Q => r = .bool (decide (l = k)) ∧ Q = [q1, q2]) := by
  have hr1 : ∀ i m, l[i]? = some m → _ := fun i m h => strs_rd h1 h
  have hr2 : ∀ i m, k[i]? = some m → _ := fun i m h => strs_rd h2 h
  obtain ⟨a, cap, rfl⟩ := strsR_sl h1
  obtain ⟨a2, cap2, rfl⟩ := strsR_sl h2
  refine Fn.mk2 Tryz.func26 rfl rfl fun w0 F => ?_
  (refine G.seq ?_; refine G.region ?_; refine GO.assign rfl rfl ?_; refine GO.nil ?_; refine kthen_n ?_; refine G.seq ?_; refine G.seq ?_; refine G.region ?_; refine GO.move rfl rfl ?_; refine GO.lenS rfl rfl ?_; refine GO.move rfl rfl ?_; refine GO.lenS rfl rfl ?_; refine GO.nei rfl rfl rfl ?_; refine GO.nil ?_; refine kthen_n ?_)
  by_cases hlen : l.length = k.length
  · have d0 : decide ((l.length : Int) ≠ (k.length : Int)) = false := decide_eq_false (by omega)
    generalize hres : decide (l = k) = res
    (refine G.condF rfl (by assumption) ?_; refine G.skip ?_; refine kthen_n ?_; refine G.seq ?_; refine G.seq ?_; refine G.region ?_; refine GO.move rfl rfl ?_; refine GO.lenS rfl rfl ?_; refine GO.move rfl rfl ?_; refine GO.nil ?_; refine kthen_n ?_; refine G.block ?_)
    refine G.loopI (σ := Nat) (fun i => [(0, .slice a l.length cap), (1, .slice a2 k.length cap2), (11, .slice a l.length cap), (12, i64 (l.length : Nat)), (13, i64 (i : Nat))]) (fun _ => q1 :: q2 :: F) (fun i => i ≤ l.length ∧ decide (l.drop i = k.drop i) = res) (fun i => l.length - i) 0 ⟨Nat.zero_le _, hres⟩ ?_ ?_ ?_
    · (refine SubE.c rfl rfl ?_; refine SubE.c rfl rfl ?_; refine SubE.c rfl rfl ?_; refine SubE.c rfl rfl ?_; refine SubE.c rfl rfl ?_; exact SubE.n)
    · refine ImpS.sb ?_
      ((refine Sb.c Tk.h ?_; refine Sb.c Tk.h ?_); (exact Sb.r))
    clear hres
    rintro i ⟨hi, hp⟩
    (refine G.seq ?_; refine G.region ?_; refine GO.lti rfl rfl rfl ?_; refine GO.nil ?_; refine kthen_n ?_; refine G.seq ?_)
    by_cases hlt : i < l.length
    · have d1 : decide ((i : Int) < (l.length : Int)) = true := decide_eq_true (by omega)
      obtain ⟨m, hm⟩ : ∃ m, l[i]? = some m := ⟨_, List.getElem?_eq_getElem hlt⟩
      obtain ⟨m2, hm2⟩ : ∃ m, k[i]? = some m := ⟨_, List.getElem?_eq_getElem (by omega)⟩
      obtain ⟨b, o, cp, e, _, rm⟩ := hr1 i m hm
      injection e with e _ e2
      subst e e2
      obtain ⟨b', o', cp', e, _, rm2⟩ := hr2 i m2 hm2
      injection e with e _ e2
      subst e e2
      rw [eq_drop hm hm2] at hp
      (refine G.condT rfl (by assumption) ?_; refine G.skip ?_; refine kthen_n ?_; refine G.seq ?_; refine G.block ?_; refine G.seq ?_; refine G.region ?_; refine GO.move rfl rfl ?_; refine GO.assign rfl rfl ?_; refine GO.nil ?_; refine kthen_n ?_; refine G.seq ?_)
      refine G.draw 9 (by kernel_rfl) ?_
      ((apply GQ.step; focus (intro Z; refine GO.move rfl rfl ?_; exact KQ.z)); (apply GQ.step; focus (intro Z; refine GO.move rfl rfl ?_; exact KQ.z)); (apply GQ.step; focus (intro Z; refine GO.idxS rfl rfl rfl ⟨rfl, by omega⟩ ?_; exact KQ.z)); (apply GQ.step; focus (intro Z; refine GO.loadQ rfl rfl rfl Tk.h (by assumption) ?_; exact KQ.z)); (apply GQ.step; focus (intro Z; refine GO.move rfl rfl ?_; exact KQ.z)); (apply GQ.step; focus (intro Z; refine GO.move rfl rfl ?_; exact KQ.z)); (apply GQ.step; focus (intro Z; refine GO.idxS rfl rfl rfl ⟨rfl, by omega⟩ ?_; exact KQ.z)); (apply GQ.step; focus (intro Z; refine GO.loadQ rfl rfl rfl (Tk.t Tk.h) (by assumption) ?_; exact KQ.z)); (apply GQ.step; focus (intro Z; refine GO.binS rfl rfl rfl rfl ?_; exact KQ.z)); refine GQ.nil ?_)
      by_cases hmm : m = m2
      · have d2 : decide (m = m2) = true := decide_eq_true hmm
        rw [d2, Bool.true_and] at hp
        rw [show decide (m ≠ m2) = false from decide_eq_false (fun h => h hmm)]
        (refine GO.nil ?_; refine kthen_n ?_; refine G.condF rfl rfl ?_; refine G.skip ?_; refine kblock_n ?_; refine kthen_n ?_; refine G.region ?_; refine GO.addi rfl rfl rfl (by omega) ?_; refine GO.move rfl rfl ?_; refine GO.nil ?_; refine kthen_n ?_)
        refine ⟨i + 1, ⟨hlt, hp⟩, by omega, ?_, ImpS.sb ?_⟩
        · (refine SubE.c rfl rfl ?_; refine SubE.c rfl rfl ?_; refine SubE.c rfl rfl ?_; refine SubE.c rfl rfl ?_; refine SubE.c rfl rfl ?_; exact SubE.n)
        · ((refine Sb.c Tk.h ?_; refine Sb.c Tk.h ?_); (exact Sb.r))
      · have d2 : decide (m = m2) = false := decide_eq_false hmm
        rw [d2, Bool.false_and] at hp
        subst hp
        rw [show decide (m ≠ m2) = true from decide_eq_true hmm]
        (refine GO.nil ?_; refine kthen_n ?_; refine G.condT rfl rfl ?_; refine G.seq ?_; refine G.region ?_; refine GO.assign rfl rfl ?_; refine GO.nil ?_; refine kthen_n ?_; refine G.ret ?_; refine kblock_r ?_; refine kthen_r ?_; refine kthen_r ?_; refine kblock_r ?_; refine kthen_r ?_)
        refine KF2.r1 rfl (RV.t rfl) ⟨rfl, rfl⟩ (ImpS.sb ?_)
        ((refine Sb.c Tk.h ?_; refine Sb.c Tk.h ?_); (exact Sb.r))
    · have d1 : decide ((i : Int) < (l.length : Int)) = false := decide_eq_false (by omega)
      rw [List.drop_eq_nil_of_le (by omega), List.drop_eq_nil_of_le (by omega)] at hp
      subst hp
      (refine G.condF rfl (by assumption) ?_; refine G.exit ?_; refine kthen_x ?_; refine kthen_x ?_; refine kblock_x ?_; refine kthen_n ?_; refine G.seq ?_; refine G.region ?_; refine GO.assign rfl rfl ?_; refine GO.nil ?_; refine kthen_n ?_; refine G.ret ?_)
      refine KF2.r1 rfl (RV.t rfl) ⟨rfl, rfl⟩ (ImpS.sb ?_)
      ((refine Sb.c Tk.h ?_; refine Sb.c Tk.h ?_); (exact Sb.r))
  · have d0 : decide ((l.length : Int) ≠ (k.length : Int)) = true := decide_eq_true (by omega)
    rw [decide_eq_false (fun h => hlen (by rw [h]))]
    (refine G.condT rfl (by assumption) ?_; refine G.seq ?_; refine G.region ?_; refine GO.assign rfl rfl ?_; refine GO.nil ?_; refine kthen_n ?_; refine G.ret ?_; refine kthen_r ?_)
    refine KF2.r1 rfl (RV.t rfl) ⟨rfl, rfl⟩ (ImpS.sb ?_)
    ((refine Sb.c Tk.h ?_; refine Sb.c Tk.h ?_); (exact Sb.r))
set_option maxHeartbeats 8000000 in
theorem sameE_spec (q1 q2 : HP) (vn1 ve1 vn2 ve2 : Value) (g k : GraphD) (h1 : GraphR q1 vn1 ve1 g) (h2 : GraphR q2 vn2 ve2 k) (hf : FitE g) : Fn Tryz.prog 10 #[graphA vn1 ve1, graphA vn2 ve2] [q1, q2] (fun r Q => r = .bool (decide (g = k)) ∧ Q = [q1, q2]) := by
  have e1 := equalS_spec q1 q2 vn1 vn2 g.nodes k.nodes h1.n h2.n (by have := hf.n; omega)
  have e2 := equalE_spec q1 q2 ve1 ve2 g.edges k.edges h1.e h2.e (by have := hf.e; omega)
  rw [show decide (g = k) = (decide (g.nodes = k.nodes) && decide (g.edges = k.edges)) by
    rw [Bool.eq_iff_iff]; simp only [Bool.and_eq_true, decide_eq_true_iff]
    constructor
    · rintro rfl; exact ⟨rfl, rfl⟩
    · rintro ⟨h1, h2⟩; cases g; cases k; simp only at h1 h2; rw [h1, h2]]
  obtain ⟨a1, c1, rfl⟩ := strsR_sl h1.n
  obtain ⟨a2, c2, rfl⟩ := strsR_sl h2.n
  obtain ⟨a3, c3, rfl⟩ := edges_sl h1.e
  obtain ⟨a4, c4, rfl⟩ := edges_sl h2.e
  refine Fn.mk2 Tryz.func10 rfl rfl fun w0 F => ?_
  (refine G.seq ?_; refine G.region ?_; refine GO.box rfl rfl rfl fun b2 => ?_; refine GO.box rfl rfl rfl fun b3 => ?_; refine GO.assign rfl rfl ?_; refine GO.nil ?_; refine kthen_n ?_; refine G.seq ?_; refine G.region ?_; refine GO.fieldAddr rfl rfl ?_; refine GO.load1 rfl rfl rfl (Tk.t Tk.h) rfl ?_; refine GO.fieldAddr rfl rfl ?_; refine GO.load1 rfl rfl rfl Tk.h rfl ?_)
  refine GO.call2 rfl rfl rfl (e1) (Tks.c (Tk.t (Tk.t Tk.h)) (Tks.c (Tk.t (Tk.t Tk.h)) Tks.n)) ?_
  rintro _ _ ⟨rfl, rfl⟩
  cases h : decide (g.nodes = k.nodes)
  · rw [Bool.false_and]
    (refine GO.move rfl rfl ?_; refine GO.gF rfl rfl rfl rfl ?_; refine GO.gF rfl rfl rfl rfl ?_; refine GO.gF rfl rfl rfl rfl ?_; refine GO.gF rfl rfl rfl rfl ?_; refine GO.gF rfl rfl rfl rfl ?_; refine GO.pickF rfl rfl rfl ?_; refine GO.assign rfl rfl ?_; refine GO.nil ?_; refine kthen_n ?_; refine G.ret ?_)
    refine KF2.r1 rfl (RV.t rfl) ⟨rfl, rfl⟩ (ImpS.sb ?_)
    ((refine Sb.c Tk.h ?_; refine Sb.c Tk.h ?_); (refine Sb.s ?_; refine Sb.s ?_; exact Sb.r))
  · rw [Bool.true_and]
    (refine GO.move rfl rfl ?_; refine GO.gT rfl rfl rfl ?_; refine GO.fieldAddr rfl rfl ?_; refine GO.gT rfl rfl rfl ?_; refine GO.load1 rfl rfl rfl (Tk.t (Tk.t (Tk.t Tk.h))) rfl ?_; refine GO.gT rfl rfl rfl ?_; refine GO.fieldAddr rfl rfl ?_; refine GO.gT rfl rfl rfl ?_; refine GO.load1 rfl rfl rfl (Tk.t (Tk.t Tk.h)) rfl ?_; refine GO.gT rfl rfl rfl ?_)
    refine GO.call2 rfl rfl rfl (e2) (Tks.c Tk.h (Tks.c Tk.h Tks.n)) ?_
    rintro _ _ ⟨rfl, rfl⟩
    (refine GO.pickT rfl rfl rfl ?_; refine GO.assign rfl rfl ?_; refine GO.nil ?_; refine kthen_n ?_; refine G.ret ?_)
    refine KF2.r1 rfl (RV.t rfl) ⟨rfl, rfl⟩ (ImpS.sb ?_)
    ((refine Sb.c Tk.h ?_; refine Sb.c Tk.h ?_); (refine Sb.s ?_; refine Sb.s ?_; exact Sb.r))
def printE (g : GraphD) : List UInt8 := if checkE g = 0 then textE g else []
attribute [local irreducible] checkE textE
set_option maxHeartbeats 8000000 in
theorem printE_spec (q : HP) (vn ve : Value) (g : GraphD) (hq : GraphR q vn ve g) (hf : FitE g) (ht : FitT g) : Fn Tryz.prog 9 #[graphA vn ve] [q] (fun r Q => r = .tuple #[str (printE g), i64 (checkE g : Nat)] ∧ Q = [q]) := by
  have h1 := checkE_spec q vn ve g hq hf ht
  have h2 := textE_spec q vn ve g hq hf ht
  obtain ⟨an, cn, rfl⟩ := strsR_sl hq.n
  obtain ⟨ae, ce, rfl⟩ := edges_sl hq.e
  refine Fn.mk2 Tryz.func9 rfl rfl fun w0 F => ?_
  unfold printE
  (refine G.seq ?_; refine G.region ?_; refine GO.box rfl rfl rfl fun b1 => ?_; refine GO.assign rfl rfl ?_; refine GO.assign rfl rfl ?_; refine GO.nil ?_; refine kthen_n ?_; refine G.seq ?_; refine G.region ?_; refine GO.loadW rfl rfl rfl Tk.h rfl ?_)
  refine GO.call1 rfl rfl (h1) (Tks.c (Tk.t Tk.h) Tks.n) ?_
  rintro _ _ ⟨rfl, rfl⟩
  by_cases h : checkE g = 0
  · have d1 : decide ((checkE g : Int) ≠ 0) = false := decide_eq_false (by omega)
    rw [if_pos h]
    (refine GO.assign rfl rfl ?_; refine GO.nil ?_; refine kthen_n ?_; refine G.seq ?_; refine G.seq ?_; refine G.region ?_; refine GO.move rfl rfl ?_; refine GO.nei rfl rfl rfl ?_; refine GO.nil ?_; refine kthen_n ?_; refine G.condF rfl (by assumption) ?_; refine G.skip ?_; refine kthen_n ?_; refine G.seq ?_; refine G.region ?_; refine GO.loadW rfl rfl rfl (Tk.t Tk.h) rfl ?_)
    refine GO.call1 rfl rfl (h2) (Tks.c Tk.h Tks.n) ?_
    rintro _ _ ⟨rfl, rfl⟩
    rw [h]
    (refine GO.assign rfl rfl ?_; refine GO.assign rfl rfl ?_; refine GO.nil ?_; refine kthen_n ?_; refine G.ret ?_)
    refine KF2.r2 rfl (RV.t rfl) (RV.t rfl) ⟨rfl, rfl⟩ (ImpS.sb ?_)
    ((refine Sb.c Tk.h ?_); (refine Sb.s ?_; exact Sb.r))
  · have d1 : decide ((checkE g : Int) ≠ 0) = true := decide_eq_true (by omega)
    rw [if_neg h]
    (refine GO.assign rfl rfl ?_; refine GO.nil ?_; refine kthen_n ?_; refine G.seq ?_; refine G.seq ?_; refine G.region ?_; refine GO.move rfl rfl ?_; refine GO.nei rfl rfl rfl ?_; refine GO.nil ?_; refine kthen_n ?_; refine G.condT rfl (by assumption) ?_; refine G.seq ?_; refine G.region ?_; refine GO.move rfl rfl ?_; refine GO.assign rfl rfl ?_; refine GO.assign rfl rfl ?_; refine GO.nil ?_; refine kthen_n ?_; refine G.ret ?_; refine kthen_r ?_)
    refine KF2.r2 rfl (RV.t rfl) (RV.t rfl) ⟨rfl, rfl⟩ (ImpS.sb ?_)
    ((refine Sb.c Tk.h ?_); (refine Sb.s ?_; exact Sb.r))
end Go.Proofs.YtpgfmfbpmkfbjaaGreat
namespace Go.Proofs.YtpgfmfbpmkfbjaaGreat
open Go
/-- What Parse answers: a graph, a place, an error. -/
def parseE (s : List UInt8) : GraphD × Nat × Nat :=
  if 2048 < s.length then (⟨[], []⟩, 0, 3) else
  match readE (marksF s) (badF s) ((marksF s).length + 1) 0 ⟨[], []⟩ with
  | .error p => (⟨[], []⟩, p, 172)
  | .ok t => if badF s < s.length then (⟨[], []⟩, badF s, 172) else ((ofF t).1, 0, (ofF t).2)
theorem readE_fit {ms : List MarkD} {e N : Nat} (hN : ∀ m ∈ ms, m.text.length ≤ N) : ∀ (f k : Nat) (g g' : GraphD), k ≤ ms.length → g.nodes.length + 2 * g.edges.length ≤ k → (∀ x ∈ g.nodes, x.length ≤ N) → (∀ x ∈ g.edges, x.src.length ≤ N ∧ x.lab.length ≤ N ∧ x.dst.length ≤ N) → readE ms e f k g = .ok g' →
    g'.nodes.length + 2 * g'.edges.length ≤ ms.length ∧ (∀ x ∈ g'.nodes, x.length ≤ N) ∧ (∀ x ∈ g'.edges, x.src.length ≤ N ∧ x.lab.length ≤ N ∧ x.dst.length ≤ N)
  | 0, k, g, g', h1, h2, h3, h4, h => by cases h; exact ⟨by omega, h3, h4⟩
  | f + 1, k, g, g', h1, h2, h3, h4, h => by
    have hT : ∀ j, (hereM ms e j).text.length ≤ N := fun j => by
      unfold hereM
      cases hm : ms[j]? with
      | none => exact Nat.zero_le _
      | some m => exact hN m (List.mem_of_getElem? hm)
    rw [readE] at h
    split at h
    · cases h; exact ⟨by omega, h3, h4⟩
    split at h
    · cases h
    rename_i hw
    split at h
    · rename_i h5
      have := hereM_lt (ms := ms) (e := e) (k := k + 1) (by omega)
      refine readE_fit hN f (k + 2) ⟨g.nodes ++ [(hereM ms e k).text], g.edges⟩ g' (by omega) ?_ ?_ h4 h
      · show (g.nodes ++ [_]).length + 2 * g.edges.length ≤ k + 2
        rw [List.length_append, List.length_cons, List.length_nil]; omega
      · intro x hx
        rcases List.mem_append.1 hx with hx | hx
        · exact h3 x hx
        · rw [List.mem_singleton.1 hx]; exact hT k
    split at h
    · cases h
    split at h
    · cases h
    split at h
    · cases h
    rename_i h5
    have := hereM_lt (ms := ms) (e := e) (k := k + 3) (by omega)
    refine readE_fit hN f (k + 4) ⟨g.nodes, g.edges ++ [⟨(hereM ms e k).text, (hereM ms e (k + 1)).text, (hereM ms e (k + 2)).text⟩]⟩ g' (by omega) ?_ h3 ?_ h
    · show g.nodes.length + 2 * (g.edges ++ [_]).length ≤ k + 4
      rw [List.length_append, List.length_cons, List.length_nil]; omega
    · intro x hx
      rcases List.mem_append.1 hx with hx | hx
      · exact h4 x hx
      · rw [List.mem_singleton.1 hx]; exact ⟨hT k, hT (k + 1), hT (k + 2)⟩
theorem readE_fits {s : List UInt8} (hs : ¬ 2048 < s.length) {e f : Nat} {g : GraphD} (h : readE (marksF s) e f 0 ⟨[], []⟩ = .ok g) : FitM g ∧ FitT g := by
  have hl := marksF_len s
  obtain ⟨h1, h2, h3⟩ := readE_fit (N := s.length) (fun m hm => by have := marksF_in hm; omega) f 0 ⟨[], []⟩ g (Nat.zero_le _) (Nat.zero_le _) (fun x hx => by cases hx) (fun x hx => by cases hx) h
  exact ⟨⟨by omega, by omega⟩, ⟨fun x hx => by have := h2 x hx; omega, fun x hx => by obtain ⟨a, b, c⟩ := h3 x hx; omega⟩⟩
/-- What Parse answers, as it lies in memory. -/
def ParseER (z : GraphD × Nat × Nat) : Value → List HP → Prop := fun r Q => ∃ vn ve q, r = .tuple #[graphA vn ve, i64 (z.2.1 : Nat), i64 (z.2.2 : Nat)] ∧ GraphR q vn ve z.1 ∧ Q = [q]
attribute [local irreducible] capN capM capT G GO GR GT Fn FnX FnV FnXV Dfr pt init exs pur sat own ImpS mapP ofF readE
set_option maxHeartbeats 32000000 in
set_option maxRecDepth 40000 in
theorem parseE_bad (s : List UInt8) (hlen : ¬ 2048 < s.length) (hb : badF s < s.length) : Fn Tryz.prog 8 #[str s] [] (ParseER (parseE s)) := by
  have e1 : decide ((2048 : Int) < (s.length : Int)) = false := decide_eq_false (by omega)
  have hlM := marksF_len s
  have hsc := scan_spec s (by omega)
  have hal := all_spec s
  have hsq := fun bx => all_seq s (by omega) bx
  have hru : ∀ q v, MarksR q v (marksF s) → _ := fun q v hq => read_spec2 q v (marksF s) hq (badF s) (by omega)
  have hfit : ∀ g, readE (marksF s) (badF s) ((marksF s).length + 1) 0 ⟨[], []⟩ = .ok g → FitM g ∧ FitT g := fun g h => readE_fits hlen h
  have hrd : parseE s = match readE (marksF s) (badF s) ((marksF s).length + 1) 0 ⟨[], []⟩ with
      | .error p => (⟨[], []⟩, p, 172)
      | .ok t => if badF s < s.length then (⟨[], []⟩, badF s, 172) else ((ofF t).1, 0, (ofF t).2) := by
    unfold parseE; rw [if_neg hlen]
  rw [hrd]
  clear hrd
  generalize readE (marksF s) (badF s) ((marksF s).length + 1) 0 ⟨[], []⟩ = ex at *
  generalize badF s = bad at *
  generalize marksF s = ms at *
  refine Fn.mk2 Tryz.func8 rfl rfl fun w0 F => ?_
  (refine G.seq ?_; refine G.region ?_; refine GO.alloc rfl fun b2 => ?_; refine GO.assign rfl rfl ?_; refine GO.assign rfl rfl ?_; refine GO.nil ?_; refine kthen_n ?_; refine G.seq ?_; refine G.seq ?_; refine G.region ?_; refine GO.move rfl rfl ?_; refine GO.strLen rfl rfl ?_; refine GO.gti rfl rfl rfl ?_; refine GO.nil ?_; refine kthen_n ?_; refine G.condF rfl (by assumption) ?_; refine G.skip ?_; refine kthen_n ?_; refine G.seq ?_; refine G.region ?_; refine GO.move rfl rfl ?_)
  refine GO.call1 rfl rfl (hsc) Tks.n ?_
  rintro _ _ (⟨hb2, rfl, rfl⟩ | ⟨hb2, v, rfl, hv1, rfl⟩)
  case inr => omega
  have d1 : decide ((160 : Int) = 0) = false := rfl
  (refine GO.move rfl rfl ?_; refine GO.extract rfl rfl rfl ?_; refine GO.extract rfl rfl rfl ?_; refine GO.extract rfl rfl rfl ?_; refine GO.assign rfl rfl ?_; refine GO.assign rfl rfl ?_; refine GO.assign rfl rfl ?_; refine GO.nil ?_; refine kthen_n ?_; refine G.seq ?_; refine G.seq ?_; refine G.region ?_; refine GO.move rfl rfl ?_; refine GO.eqi rfl rfl rfl ?_; refine GO.nil ?_; refine kthen_n ?_; refine G.condF rfl rfl ?_; refine G.skip ?_; refine kthen_n ?_; refine G.seq ?_; refine G.region ?_; refine GO.alloc rfl fun b8 => ?_; refine GO.nil ?_; refine kthen_n ?_; refine G.seq ?_; refine G.seq ?_; refine G.region ?_; refine GO.move rfl rfl ?_)
  refine GO.call1 rfl rfl (hal) Tks.n ?_
  rintro _ _ ⟨bx, rfl, rfl⟩
  (refine GO.nil ?_; refine kthen_n ?_; refine G.block ?_)
  refine G.ownNil (T := 54) (sz := 3) ?_
  refine G.keep (H' := accO b8 43 54 3 0 [] :: pt bx (row [str s] 9) :: pt b2 (row [.slice none 0 0, .slice none 0 0] 33) :: F) (accO_in (.slice none 0 0) (ImpS.sb (by ((refine Sb.c (Tk.t (Tk.t Tk.h)) ?_; refine Sb.c Tk.h ?_; refine Sb.c Tk.h ?_; refine Sb.c Tk.h ?_); (exact Sb.r))))) ?_
  refine G.rangeF (F := pt b2 (row [.slice none 0 0, .slice none 0 0] 33) :: F) (psl := [30]) (v := .func (.func 40) #[] #[ptrV bx]) (xs := ms.map markA) (Sh := []) (Gm := [pt bx (row [str s] 9)])
    (fun i => [accO b8 43 54 3 i (marksV (ms.take i))])
    (fun _ _ => [pur False]) (fun _ h => by cases h) rfl (fun u hu => by obtain ⟨p, _, rfl⟩ := List.mem_map.1 hu; rfl) rfl (hsq bx) ?_ (fun lp Lr Lb w1 F1 i u hu => ?_) ?_ ?_
  · rw [List.take_zero, show marksV [] = [] from rfl]
    (exact Tks.n)
  · obtain ⟨m, hm, rfl⟩ : ∃ m, ms[i]? = some m ∧ u = markA m := by
      rw [List.getElem?_map] at hu
      cases hc : ms[i]? with
      | none => simp [hc] at hu
      | some p => simp [hc] at hu; exact ⟨p, rfl, hu.symm⟩
    have hil := (List.getElem?_eq_some_iff.1 hm).1
    rw [take_snoc hm, marksV_snoc]
    change G _ _ _ _ ((30, .agg [i64 (m.kind : Nat), i64 (m.place : Nat), str m.text].toArray) :: _) (accO b8 43 54 3 i (marksV (ms.take i)) :: F1)
    refine G.accOut fun v hv => ?_
    (refine G.region ?_; refine GO.alloc rfl fun b9 => ?_; refine GO.storeW rfl rfl Tk.h ⟨rfl, rfl⟩ (by simp [Value.oneCell']) ?_; refine GO.nil ?_)
    refine kA_n ?_
    (refine G.block ?_; refine G.region ?_; refine GO.load1 rfl rfl rfl (Tk.t Tk.h) rfl ?_; refine GO.loadW rfl rfl rfl Tk.h rfl ?_)
    refine GO.buildSlice1 rfl rfl (by simp; rfl) rfl ⟨by omega, by omega⟩ fun bs => ?_
    refine GO.appendOwn (m := 1) (news := [i64 (m.kind : Nat), i64 (m.place : Nat), str m.text]) rfl rfl rfl (Tk.t (Tk.t (Tk.t Tk.h))) Tk.h rfl (by simp [Value.oneCell']) ⟨by decide, rfl⟩ Nat.one_pos (by unfold maxLen; omega) (by omega) fun v4 => ?_
    refine GO.ownOne Tk.h fun hone4 => ?_
    (refine GO.store1 rfl rfl (by assumption) (Tk.t (Tk.t (Tk.t Tk.h))) (by simp) ?_; refine GO.nil ?_; refine kblock_n ?_)
    refine kB_n (accO_in v4 (ImpS.sb ?_))
    ((refine Sb.c Tk.h ?_; refine Sb.c Tk.h ?_); (refine Sb.s ?_; refine Sb.s ?_; exact Sb.r))
  case refine_4 => intro i jc hi; exact G.pur fun h => h.elim
  rw [List.length_map, List.take_length]
  change kblock _ _ _ _ (accO b8 43 54 3 ms.length (marksV ms) :: pt bx (row [str s] 9) :: pt b2 (row [.slice none 0 0, .slice none 0 0] 33) :: F)
  (refine kblock_n ?_; refine kthen_n ?_; refine G.seq ?_; refine G.region ?_)
  refine GO.accOut fun v hv => ?_
  refine GO.ownRd (n := ms.length) (v := v) (xs := marksV ms) (Tk.t Tk.h) fun q hq => ?_
  have hx := hru q v hq
  obtain ⟨am, cm, rfl⟩ := marks_sl hq
  clear hq hru
  (refine GO.load1 rfl rfl rfl (Tk.t Tk.h) rfl ?_; refine GO.move rfl rfl ?_)
  refine GO.call2 rfl rfl rfl (hx) (Tks.c Tk.h Tks.n) ?_
  cases ex with
  | error p =>
    rintro _ _ ⟨rfl, rfl⟩
    dsimp only
    (refine GO.move rfl rfl ?_; refine GO.extract rfl rfl rfl ?_; refine GO.extract rfl rfl rfl ?_; refine GO.extract rfl rfl rfl ?_; refine GO.alloc rfl fun b10 => ?_; refine GO.storeW rfl rfl Tk.h ⟨rfl, rfl⟩ (by simp [Value.oneCell']) ?_; refine GO.assign rfl rfl ?_; refine GO.assign rfl rfl ?_; refine GO.nil ?_; refine kthen_n ?_; refine G.seq ?_; refine G.seq ?_; refine G.region ?_; refine GO.move rfl rfl ?_; refine GO.move rfl rfl ?_; refine GO.gF rfl rfl rfl rfl ?_; refine GO.gF rfl rfl rfl rfl ?_; refine GO.pickT rfl rfl rfl ?_; refine GO.nil ?_; refine kthen_n ?_; refine G.condT rfl rfl ?_; refine G.seq ?_; refine G.region ?_; refine GO.build0 rfl ?_; refine GO.move rfl rfl ?_; refine GO.storeW rfl rfl (Tk.t (Tk.t (Tk.t (Tk.t Tk.h)))) ⟨rfl, rfl⟩ (by simp [Value.oneCell']) ?_; refine GO.assign rfl rfl ?_; refine GO.assign rfl rfl ?_; refine GO.nil ?_; refine kthen_n ?_; refine G.ret ?_; refine kthen_r ?_)
    refine KF2.r3 rfl (RV.cW rfl rfl Tk.h rfl) (RV.t rfl) (RV.t rfl) ⟨_, _, q, rfl, GraphR.nil _, rfl⟩ (ImpS.sb ?_)
    ((refine Sb.c (Tk.t (Tk.t Tk.h)) ?_); (refine Sb.s ?_; refine Sb.s ?_; refine Sb.s ?_; refine Sb.s ?_; exact Sb.r))
  | ok g =>
    rintro _ _ ⟨v1, v2, ho1, ho2, rfl, rfl⟩
    dsimp only
    obtain ⟨hfm, hft⟩ := hfit g rfl
    clear hfit
    rw [if_pos hb]
    have d2 : decide ((160 : Int) ≠ 0) = true := rfl
    (refine GO.move rfl rfl ?_; refine GO.extract rfl rfl rfl ?_; refine GO.extract rfl rfl rfl ?_; refine GO.extract rfl rfl rfl ?_; refine GO.alloc rfl fun b10 => ?_)
    refine GO.storeW (vs := [v1, v2]) rfl rfl Tk.h ⟨rfl, rfl⟩ (fun u hu => by simp only [List.mem_cons, List.not_mem_nil, or_false] at hu; rcases hu with rfl | rfl <;> assumption) ?_
    (refine GO.assign rfl rfl ?_; refine GO.assign rfl rfl ?_; refine GO.nil ?_; refine kthen_n ?_; refine G.seq ?_; refine G.seq ?_; refine G.region ?_; refine GO.move rfl rfl ?_; refine GO.move rfl rfl ?_; refine GO.gT rfl rfl rfl ?_; refine GO.move rfl rfl ?_; refine GO.gT rfl rfl rfl ?_; refine GO.nei rfl rfl rfl ?_; refine GO.pickF rfl rfl rfl ?_; refine GO.nil ?_; refine kthen_n ?_; refine G.condT rfl rfl ?_; refine G.seq ?_; refine G.region ?_; refine GO.build0 rfl ?_; refine GO.move rfl rfl ?_; refine GO.storeW rfl rfl (Tk.t (Tk.t (Tk.t (Tk.t (Tk.t (Tk.t Tk.h)))))) ⟨rfl, rfl⟩ (by simp [Value.oneCell']) ?_; refine GO.assign rfl rfl ?_; refine GO.assign rfl rfl ?_; refine GO.nil ?_; refine kthen_n ?_; refine G.ret ?_; refine kthen_r ?_)
    refine KF2.r3 rfl (RV.cW rfl rfl Tk.h rfl) (RV.t rfl) (RV.t rfl) ⟨_, _, q, rfl, GraphR.nil _, rfl⟩ (ImpS.sb ?_)
    ((refine Sb.c (Tk.t (Tk.t (Tk.t (Tk.t Tk.h)))) ?_); (refine Sb.s ?_; refine Sb.s ?_; refine Sb.s ?_; refine Sb.s ?_; refine Sb.s ?_; refine Sb.s ?_; exact Sb.r))
set_option maxHeartbeats 32000000 in
set_option maxRecDepth 40000 in
theorem parseE_good (s : List UInt8) (hlen : ¬ 2048 < s.length) (hb : badF s = s.length) : Fn Tryz.prog 8 #[str s] [] (ParseER (parseE s)) := by
  have e1 : decide ((2048 : Int) < (s.length : Int)) = false := decide_eq_false (by omega)
  have hlM := marksF_len s
  have hsc := scan_spec s (by omega)
  have hal := all_spec s
  have hsq := fun bx => all_seq s (by omega) bx
  have hru : ∀ q v, MarksR q v (marksF s) → _ := fun q v hq => read_spec2 q v (marksF s) hq (badF s) (by omega)
  have hfit : ∀ g, readE (marksF s) (badF s) ((marksF s).length + 1) 0 ⟨[], []⟩ = .ok g → FitM g ∧ FitT g := fun g h => readE_fits hlen h
  have hrd : parseE s = match readE (marksF s) (badF s) ((marksF s).length + 1) 0 ⟨[], []⟩ with
      | .error p => (⟨[], []⟩, p, 172)
      | .ok t => if badF s < s.length then (⟨[], []⟩, badF s, 172) else ((ofF t).1, 0, (ofF t).2) := by
    unfold parseE; rw [if_neg hlen]
  rw [hrd]
  clear hrd
  generalize readE (marksF s) (badF s) ((marksF s).length + 1) 0 ⟨[], []⟩ = ex at *
  generalize badF s = bad at *
  generalize marksF s = ms at *
  refine Fn.mk2 Tryz.func8 rfl rfl fun w0 F => ?_
  (refine G.seq ?_; refine G.region ?_; refine GO.alloc rfl fun b2 => ?_; refine GO.assign rfl rfl ?_; refine GO.assign rfl rfl ?_; refine GO.nil ?_; refine kthen_n ?_; refine G.seq ?_; refine G.seq ?_; refine G.region ?_; refine GO.move rfl rfl ?_; refine GO.strLen rfl rfl ?_; refine GO.gti rfl rfl rfl ?_; refine GO.nil ?_; refine kthen_n ?_; refine G.condF rfl (by assumption) ?_; refine G.skip ?_; refine kthen_n ?_; refine G.seq ?_; refine G.region ?_; refine GO.move rfl rfl ?_)
  refine GO.call1 rfl rfl (hsc) Tks.n ?_
  rintro _ _ (⟨hb2, rfl, rfl⟩ | ⟨hb2, v, rfl, hv1, rfl⟩)
  case inl => omega
  subst hb2
  have d1 : decide ((0 : Int) = 0) = true := rfl
  (refine GO.move rfl rfl ?_; refine GO.extract rfl rfl rfl ?_; refine GO.extract rfl rfl rfl ?_; refine GO.extract rfl rfl rfl ?_; refine GO.assign rfl rfl ?_; refine GO.assign rfl rfl ?_; refine GO.assign rfl rfl ?_; refine GO.nil ?_; refine kthen_n ?_; refine G.seq ?_; refine G.seq ?_; refine G.region ?_; refine GO.move rfl rfl ?_; refine GO.eqT rfl rfl rfl rfl ?_; refine GO.nil ?_; refine kthen_n ?_; refine G.condT rfl rfl ?_; refine G.region ?_; refine GO.move rfl rfl ?_; refine GO.strLen rfl rfl ?_; refine GO.assign rfl rfl ?_; refine GO.nil ?_; refine kthen_n ?_; refine G.seq ?_; refine G.region ?_; refine GO.alloc rfl fun b8 => ?_; refine GO.nil ?_; refine kthen_n ?_; refine G.seq ?_; refine G.seq ?_; refine G.region ?_; refine GO.move rfl rfl ?_)
  refine GO.call1 rfl rfl (hal) Tks.n ?_
  rintro _ _ ⟨bx, rfl, rfl⟩
  (refine GO.nil ?_; refine kthen_n ?_; refine G.block ?_)
  refine G.ownNil (T := 54) (sz := 3) ?_
  refine G.keep (H' := accO b8 43 54 3 0 [] :: pt bx (row [str s] 9) :: pt b2 (row [.slice none 0 0, .slice none 0 0] 33) :: F) (accO_in (.slice none 0 0) (ImpS.sb (by ((refine Sb.c (Tk.t (Tk.t Tk.h)) ?_; refine Sb.c Tk.h ?_; refine Sb.c Tk.h ?_; refine Sb.c (Tk.t Tk.h) ?_); (refine Sb.s ?_; exact Sb.r))))) ?_
  refine G.rangeF (F := pt b2 (row [.slice none 0 0, .slice none 0 0] 33) :: F) (psl := [30]) (v := .func (.func 40) #[] #[ptrV bx]) (xs := ms.map markA) (Sh := []) (Gm := [pt bx (row [str s] 9)])
    (fun i => [accO b8 43 54 3 i (marksV (ms.take i))])
    (fun _ _ => [pur False]) (fun _ h => by cases h) rfl (fun u hu => by obtain ⟨p, _, rfl⟩ := List.mem_map.1 hu; rfl) rfl (hsq bx) ?_ (fun lp Lr Lb w1 F1 i u hu => ?_) ?_ ?_
  · rw [List.take_zero, show marksV [] = [] from rfl]
    (exact Tks.n)
  · obtain ⟨m, hm, rfl⟩ : ∃ m, ms[i]? = some m ∧ u = markA m := by
      rw [List.getElem?_map] at hu
      cases hc : ms[i]? with
      | none => simp [hc] at hu
      | some p => simp [hc] at hu; exact ⟨p, rfl, hu.symm⟩
    have hil := (List.getElem?_eq_some_iff.1 hm).1
    rw [take_snoc hm, marksV_snoc]
    change G _ _ _ _ ((30, .agg [i64 (m.kind : Nat), i64 (m.place : Nat), str m.text].toArray) :: _) (accO b8 43 54 3 i (marksV (ms.take i)) :: F1)
    refine G.accOut fun v hv => ?_
    (refine G.region ?_; refine GO.alloc rfl fun b9 => ?_; refine GO.storeW rfl rfl Tk.h ⟨rfl, rfl⟩ (by simp [Value.oneCell']) ?_; refine GO.nil ?_)
    refine kA_n ?_
    (refine G.block ?_; refine G.region ?_; refine GO.load1 rfl rfl rfl (Tk.t Tk.h) rfl ?_; refine GO.loadW rfl rfl rfl Tk.h rfl ?_)
    refine GO.buildSlice1 rfl rfl (by simp; rfl) rfl ⟨by omega, by omega⟩ fun bs => ?_
    refine GO.appendOwn (m := 1) (news := [i64 (m.kind : Nat), i64 (m.place : Nat), str m.text]) rfl rfl rfl (Tk.t (Tk.t (Tk.t Tk.h))) Tk.h rfl (by simp [Value.oneCell']) ⟨by decide, rfl⟩ Nat.one_pos (by unfold maxLen; omega) (by omega) fun v4 => ?_
    refine GO.ownOne Tk.h fun hone4 => ?_
    (refine GO.store1 rfl rfl (by assumption) (Tk.t (Tk.t (Tk.t Tk.h))) (by simp) ?_; refine GO.nil ?_; refine kblock_n ?_)
    refine kB_n (accO_in v4 (ImpS.sb ?_))
    ((refine Sb.c Tk.h ?_; refine Sb.c Tk.h ?_); (refine Sb.s ?_; refine Sb.s ?_; exact Sb.r))
  case refine_4 => intro i jc hi; exact G.pur fun h => h.elim
  rw [List.length_map, List.take_length]
  change kblock _ _ _ _ (accO b8 43 54 3 ms.length (marksV ms) :: pt bx (row [str s] 9) :: pt b2 (row [.slice none 0 0, .slice none 0 0] 33) :: F)
  (refine kblock_n ?_; refine kthen_n ?_; refine G.seq ?_; refine G.region ?_)
  refine GO.accOut fun v hv => ?_
  refine GO.ownRd (n := ms.length) (v := v) (xs := marksV ms) (Tk.t Tk.h) fun q hq => ?_
  have hx := hru q v hq
  obtain ⟨am, cm, rfl⟩ := marks_sl hq
  clear hq hru
  (refine GO.load1 rfl rfl rfl (Tk.t Tk.h) rfl ?_; refine GO.move rfl rfl ?_)
  refine GO.call2 rfl rfl rfl (hx) (Tks.c Tk.h Tks.n) ?_
  cases ex with
  | error p =>
    rintro _ _ ⟨rfl, rfl⟩
    dsimp only
    (refine GO.move rfl rfl ?_; refine GO.extract rfl rfl rfl ?_; refine GO.extract rfl rfl rfl ?_; refine GO.extract rfl rfl rfl ?_; refine GO.alloc rfl fun b10 => ?_; refine GO.storeW rfl rfl Tk.h ⟨rfl, rfl⟩ (by simp [Value.oneCell']) ?_; refine GO.assign rfl rfl ?_; refine GO.assign rfl rfl ?_; refine GO.nil ?_; refine kthen_n ?_; refine G.seq ?_; refine G.seq ?_; refine G.region ?_; refine GO.move rfl rfl ?_; refine GO.move rfl rfl ?_; refine GO.gF rfl rfl rfl rfl ?_; refine GO.gF rfl rfl rfl rfl ?_; refine GO.pickT rfl rfl rfl ?_; refine GO.nil ?_; refine kthen_n ?_; refine G.condT rfl rfl ?_; refine G.seq ?_; refine G.region ?_; refine GO.build0 rfl ?_; refine GO.move rfl rfl ?_; refine GO.storeW rfl rfl (Tk.t (Tk.t (Tk.t (Tk.t Tk.h)))) ⟨rfl, rfl⟩ (by simp [Value.oneCell']) ?_; refine GO.assign rfl rfl ?_; refine GO.assign rfl rfl ?_; refine GO.nil ?_; refine kthen_n ?_; refine G.ret ?_; refine kthen_r ?_)
    refine KF2.r3 rfl (RV.cW rfl rfl Tk.h rfl) (RV.t rfl) (RV.t rfl) ⟨_, _, q, rfl, GraphR.nil _, rfl⟩ (ImpS.sb ?_)
    ((refine Sb.c (Tk.t (Tk.t Tk.h)) ?_); (refine Sb.s ?_; refine Sb.s ?_; refine Sb.s ?_; refine Sb.s ?_; exact Sb.r))
  | ok g =>
    rintro _ _ ⟨v1, v2, ho1, ho2, rfl, rfl⟩
    dsimp only
    obtain ⟨hfm, hft⟩ := hfit g rfl
    clear hfit
    rw [if_neg (Nat.lt_irrefl _)]
    have d2 : decide ((0 : Int) ≠ 0) = false := rfl
    (refine GO.move rfl rfl ?_; refine GO.extract rfl rfl rfl ?_; refine GO.extract rfl rfl rfl ?_; refine GO.extract rfl rfl rfl ?_; refine GO.alloc rfl fun b10 => ?_)
    refine GO.storeW (vs := [v1, v2]) rfl rfl Tk.h ⟨rfl, rfl⟩ (fun u hu => by simp only [List.mem_cons, List.not_mem_nil, or_false] at hu; rcases hu with rfl | rfl <;> assumption) ?_
    refine GO.ownRdK (n := g.edges.length) (v := v2) (xs := edgesV g.edges) (Tk.t (Tk.t Tk.h)) fun q3 hq3 => ?_
    refine GO.ownRdK (n := g.nodes.length) (v := v1) (xs := strsV g.nodes) (Tk.t (Tk.t Tk.h)) fun q2 hq2 => ?_
    refine GO.merge (x := q2) (y := q3) (Tks.c Tk.h (Tks.c Tk.h Tks.n)) ?_
    have hgr : GraphR (star [q2, q3]) v1 v2 g := ⟨hq2.sup (Sup.left _ _), hq3.sup (Sup.right _ _)⟩
    have hof := of_spec _ _ _ _ hgr hfm hft
    generalize star [q2, q3] = qg at *
    clear hq2 hq3
    (refine GO.assign rfl rfl ?_; refine GO.assign rfl rfl ?_; refine GO.nil ?_; refine kthen_n ?_; refine G.seq ?_; refine G.seq ?_; refine G.region ?_; refine GO.move rfl rfl ?_; refine GO.move rfl rfl ?_; refine GO.gT rfl rfl rfl ?_; refine GO.move rfl rfl ?_; refine GO.gT rfl rfl rfl ?_; refine GO.neF rfl rfl rfl rfl ?_; refine GO.pickF rfl rfl rfl ?_; refine GO.nil ?_; refine kthen_n ?_; refine G.condF rfl rfl ?_; refine G.skip ?_; refine kthen_n ?_; refine G.seq ?_; refine G.region ?_; refine GO.fieldAddr rfl rfl ?_; refine GO.load1 rfl rfl rfl (Tk.t Tk.h) rfl ?_; refine GO.fieldAddr rfl rfl ?_; refine GO.load1 rfl rfl rfl (Tk.t Tk.h) rfl ?_)
    refine GO.call2 rfl rfl rfl (hof) (Tks.c Tk.h Tks.n) ?_
    rintro _ _ ⟨w1, w2, z, rfl, hR, rfl⟩
    obtain ⟨a5, c5, rfl⟩ := strsR_sl hR.n
    obtain ⟨a6, c6, rfl⟩ := edges_sl hR.e
    (refine GO.move rfl rfl ?_; refine GO.extract rfl rfl rfl ?_; refine GO.extract rfl rfl rfl ?_; refine GO.alloc rfl fun b13 => ?_; refine GO.storeW rfl rfl Tk.h ⟨rfl, rfl⟩ (by simp [Value.oneCell']) ?_; refine GO.assign rfl rfl ?_; refine GO.nil ?_; refine kthen_n ?_; refine G.seq ?_; refine G.region ?_; refine GO.loadW rfl rfl rfl Tk.h rfl ?_; refine GO.move rfl rfl ?_; refine GO.storeW rfl rfl (Tk.t (Tk.t (Tk.t (Tk.t (Tk.t (Tk.t (Tk.t Tk.h))))))) ⟨rfl, rfl⟩ (by simp [Value.oneCell']) ?_; refine GO.assign rfl rfl ?_; refine GO.assign rfl rfl ?_; refine GO.nil ?_; refine kthen_n ?_; refine G.ret ?_)
    refine KF2.r3 rfl (RV.cW rfl rfl Tk.h rfl) (RV.t rfl) (RV.t rfl) ⟨_, _, z, rfl, hR, rfl⟩ (ImpS.sb ?_)
    ((refine Sb.c (Tk.t (Tk.t Tk.h)) ?_); (refine Sb.s ?_; refine Sb.s ?_; refine Sb.s ?_; refine Sb.s ?_; refine Sb.s ?_; refine Sb.s ?_; refine Sb.s ?_; exact Sb.r))
set_option maxHeartbeats 8000000 in
theorem parseE_spec (s : List UInt8) : Fn Tryz.prog 8 #[str s] [] (ParseER (parseE s)) := by
  by_cases hlen : 2048 < s.length
  · have e1 : decide ((2048 : Int) < (s.length : Int)) = true := decide_eq_true (by omega)
    have hr : parseE s = (⟨[], []⟩, 0, 3) := by unfold parseE; rw [if_pos hlen]
    rw [hr]
    refine Fn.mk2 Tryz.func8 rfl rfl fun w0 F => ?_
    (refine G.seq ?_; refine G.region ?_; refine GO.alloc rfl fun b2 => ?_; refine GO.assign rfl rfl ?_; refine GO.assign rfl rfl ?_; refine GO.nil ?_; refine kthen_n ?_; refine G.seq ?_; refine G.seq ?_; refine G.region ?_; refine GO.move rfl rfl ?_; refine GO.strLen rfl rfl ?_; refine GO.gti rfl rfl rfl ?_; refine GO.nil ?_; refine kthen_n ?_; refine G.condT rfl (by assumption) ?_; refine G.seq ?_; refine G.region ?_; refine GO.build0 rfl ?_; refine GO.storeW rfl rfl Tk.h ⟨rfl, rfl⟩ (by simp [Value.oneCell']) ?_; refine GO.assign rfl rfl ?_; refine GO.assign rfl rfl ?_; refine GO.nil ?_; refine kthen_n ?_; refine G.ret ?_; refine kthen_r ?_)
    refine KF2.r3 rfl (RV.cW rfl rfl Tk.h rfl) (RV.t rfl) (RV.t rfl) ⟨_, _, Go.Proofs.YtpgfmfbpmkfbjaaGreat.pur True, rfl, GraphR.nil _, rfl⟩ (ImpS.trans (ImpS.sb (M := F) ?_) ImpS.tt)
    (skip; (refine Sb.s ?_; exact Sb.r))
  · have := badF_le s
    by_cases hb : badF s < s.length
    · exact parseE_bad s hlen hb
    · exact parseE_good s hlen (by omega)
end Go.Proofs.YtpgfmfbpmkfbjaaGreat
namespace Go.Proofs.YtpgfmfbpmkfbjaaGreat
open Go
/-- What Scan answers: the marks, a place, an error. -/
def scM (s : List UInt8) : List MarkD := if badF s < s.length then [] else marksF s
def scP (s : List UInt8) : Nat := if badF s < s.length then badF s else 0
def scE (s : List UInt8) : Nat := if badF s < s.length then 160 else 0
theorem scanU_spec (s : List UInt8) (hs : ¬ 1048576 < s.length) : Fn Tryz.prog 13 #[str s] [] (fun r Q => ∃ v z, r = .tuple #[v, i64 (scP s : Nat), i64 (scE s : Nat)] ∧ MarksR z v (scM s) ∧ Q = [z]) := by
  intro F w st
  refine (scan_spec s hs F w st).mono ?_
  rintro e w' ⟨v, Q, a, b, h, d⟩
  unfold scM scP scE
  rcases h with ⟨h1, rfl, rfl⟩ | ⟨h1, u, rfl, h3, rfl⟩
  · rw [if_pos h1, if_pos h1, if_pos h1]
    exact ⟨_, _, a, b, ⟨_, Go.Proofs.YtpgfmfbpmkfbjaaGreat.pur True, rfl, ⟨none, 0, rfl, rfl, fun h => absurd h (Nat.lt_irrefl 0)⟩, rfl⟩, sat_pur.2 ⟨trivial, d⟩⟩
  · rw [if_neg (by omega), if_neg (by omega), if_neg (by omega)]
    rcases own_shape d with ⟨rfl, g0, g1, s2⟩ | ⟨b', cap, rest', rfl, g1, _, _, _, s2⟩
    · refine ⟨_, _, a, b, ⟨_, Go.Proofs.YtpgfmfbpmkfbjaaGreat.pur True, rfl, ⟨none, 0, ?_, ?_, fun h => absurd h (by omega)⟩, rfl⟩, sat_pur.2 ⟨trivial, s2⟩⟩
      · rw [g0]
      · rw [g1, g0]; rfl
    · refine ⟨_, _, a, b, ⟨_, _, rfl, ⟨_, _, rfl, g1, fun _ => ⟨b', 0, rfl, fun j u hj => ?_⟩⟩, rfl⟩, s2⟩
      rw [Nat.zero_add]
      exact Rd.row (by rw [List.getElem?_append_left (List.getElem?_eq_some_iff.1 hj).1]; exact hj)
/-- A place that may be that of a wrong mark. -/
inductive WrongOK (s : List UInt8) (at' : Nat) : Prop where
  | fin (h : at' = s.length)
  | bad (h : badF s < s.length) (h2 : at' = badF s)
  | mid (b : UInt8) (hb : s[at']? = some b) (hk : blankB b = false) (hs : ¬ badF (s.take at') < (s.take at').length)
      (hw : ∀ en m, (marksF (s.take at'))[(marksF (s.take at')).length - 1]? = some en → (scM (s.drop at'))[0]? = some m → m.kind ≤ 3 → m.place = 0 ∧ (3 < en.kind ∨ en.place + en.text.length < at'))
theorem wrong_le {s : List UInt8} {i : Nat} (h : WrongOK s i) : i ≤ s.length := by
  cases h with
  | fin h => omega
  | bad h h2 => omega
  | mid b hb hk hs hw => have := (List.getElem?_eq_some_iff.1 hb).1; omega
theorem sc_bad {s : List UInt8} (h : badF s < s.length) : scE s = 160 ∧ scP s = badF s := by unfold scE scP; rw [if_pos h, if_pos h]; exact ⟨rfl, rfl⟩
theorem sc_ok {s : List UInt8} (h : ¬ badF s < s.length) : scE s = 0 ∧ scM s = marksF s := by unfold scE scM; rw [if_neg h, if_neg h]; exact ⟨rfl, rfl⟩
theorem sc_len (s : List UInt8) : (scM s).length ≤ s.length := by
  have := marksF_len s
  unfold scM
  split
  · exact Nat.zero_le _
  · exact this
theorem notBlank {b : UInt8} (h : blankB b = false) : decide ((b.toNat : Int) ≠ 32) = true ∧ decide ((b.toNat : Int) ≠ 9) = true ∧ decide ((b.toNat : Int) ≠ 10) = true ∧ decide ((b.toNat : Int) ≠ 13) = true := by
  unfold blankB at h
  simp only [Bool.or_eq_false_iff, decide_eq_false_iff_not] at h
  simp only [decide_eq_true_eq]
  exact ⟨h.1.1.1, h.1.1.2, h.1.2, h.2⟩
attribute [local irreducible] capN capM capT G GO GR GT Fn FnX FnV FnXV Dfr pt init exs pur sat own ImpS mapP scM scP scE
set_option maxHeartbeats 32000000 in
set_option maxRecDepth 40000 in
theorem wrong_spec (s : List UInt8) (at' : Nat) (hs : ¬ 1048576 < s.length) (h : WrongOK s at') : Fn Tryz.prog 5 #[str s, i64 (at' : Nat)] [] (fun r Q => r = .bool true ∧ Q = []) := by
  have hle := wrong_le h
  have h1 := scanU_spec s hs
  have h2 := scanU_spec (s.take at') (by rw [List.length_take]; omega)
  have h3 := scanU_spec (s.drop at') (by rw [List.length_drop]; omega)
  have a1 : decide ((at' : Int) < 0) = false := decide_eq_false (by omega)
  have a2 : decide ((s.length : Int) < (at' : Int)) = false := decide_eq_false (by omega)
  refine Fn.mk2 Tryz.func5 rfl rfl fun w0 F => ?_
  (refine G.seq ?_; refine G.region ?_; refine GO.assign rfl rfl ?_; refine GO.nil ?_; refine kthen_n ?_; refine G.seq ?_; refine G.seq ?_; refine G.region ?_; refine GO.move rfl rfl ?_; refine GO.lti rfl rfl rfl ?_; refine GO.move rfl rfl ?_; refine GO.gT rfl rfl rfl ?_; refine GO.move rfl rfl ?_; refine GO.gT rfl rfl rfl ?_; refine GO.move rfl rfl ?_; refine GO.gT rfl rfl rfl ?_; refine GO.strLen rfl rfl ?_; refine GO.gT rfl rfl rfl ?_; refine GO.gti rfl rfl rfl ?_; refine GO.pickF rfl rfl rfl ?_; refine GO.nil ?_; refine kthen_n ?_; refine G.condF rfl (by assumption) ?_; refine G.skip ?_; refine kthen_n ?_; refine G.seq ?_; refine G.region ?_; refine GO.move rfl rfl ?_)
  refine GO.call1 rfl rfl (h1) Tks.n ?_
  rintro _ _ ⟨v1, z1, rfl, hm1, rfl⟩
  obtain ⟨am1, cm1, rfl⟩ := marks_sl hm1
  (refine GO.move rfl rfl ?_; refine GO.extract rfl rfl rfl ?_; refine GO.extract rfl rfl rfl ?_; refine GO.extract rfl rfl rfl ?_; refine GO.assign rfl rfl ?_; refine GO.assign rfl rfl ?_; refine GO.assign rfl rfl ?_; refine GO.nil ?_; refine kthen_n ?_; refine G.seq ?_; refine G.seq ?_; refine G.region ?_; refine GO.move rfl rfl ?_; refine GO.move rfl rfl ?_; refine GO.strLen rfl rfl ?_; refine GO.eqi rfl rfl rfl ?_; refine GO.move rfl rfl ?_)
  by_cases hfin : at' = s.length
  · have d1 : decide ((at' : Int) = (s.length : Int)) = true := decide_eq_true (by omega)
    (refine GO.gF rfl rfl rfl (by assumption) ?_; refine GO.gF rfl rfl rfl (by assumption) ?_; refine GO.gF rfl rfl rfl (by assumption) ?_; refine GO.gU rfl rfl rfl ?_; refine GO.gU rfl rfl rfl ?_; refine GO.gU rfl rfl rfl ?_; refine GO.gF rfl rfl rfl (by assumption) ?_; refine GO.pickTa rfl rfl (by assumption) rfl ?_; refine GO.nil ?_; refine kthen_n ?_; refine G.condT rfl rfl ?_; refine G.seq ?_; refine G.region ?_; refine GO.assign rfl rfl ?_; refine GO.nil ?_; refine kthen_n ?_; refine G.ret ?_; refine kthen_r ?_)
    refine KF2.r1 rfl (RV.t rfl) ⟨rfl, rfl⟩ (ImpS.sb ?_)
    (skip; (refine Sb.s ?_; exact Sb.r))
  have d1 : decide ((at' : Int) = (s.length : Int)) = false := decide_eq_false (by omega)
  by_cases hbad : scE s = 160 ∧ at' = scP s
  · have d2 : decide ((scE s : Int) = 160) = true := decide_eq_true (by omega)
    have d3 : decide ((at' : Int) = (scP s : Int)) = true := decide_eq_true (by omega)
    (refine GO.gT rfl rfl (by assumption) ?_; refine GO.move rfl rfl ?_; refine GO.gT rfl rfl (by assumption) ?_; refine GO.eqi rfl rfl rfl ?_; refine GO.gT rfl rfl (by assumption) ?_; refine GO.move rfl rfl ?_; refine GO.gT rfl rfl (by assumption) ?_; refine GO.move rfl rfl ?_; refine GO.gT rfl rfl (by assumption) ?_; refine GO.move rfl rfl ?_; refine GO.gT rfl rfl (by assumption) ?_; refine GO.eqi rfl rfl rfl ?_; refine GO.gT rfl rfl (by assumption) ?_; refine GO.pickTa rfl rfl (by assumption) rfl ?_; refine GO.pickFa rfl rfl (by assumption) rfl ?_; refine GO.nil ?_; refine kthen_n ?_; refine G.condT rfl (by assumption) ?_; refine G.seq ?_; refine G.region ?_; refine GO.assign rfl rfl ?_; refine GO.nil ?_; refine kthen_n ?_; refine G.ret ?_; refine kthen_r ?_)
    refine KF2.r1 rfl (RV.t rfl) ⟨rfl, rfl⟩ (ImpS.sb ?_)
    (skip; (refine Sb.s ?_; exact Sb.r))
  refine GO.cut1 38 (.bool false) ?_ ?_
  · by_cases he : scE s = 160
    · have d2 : decide ((scE s : Int) = 160) = true := decide_eq_true (by omega)
      have d3 : decide ((at' : Int) = (scP s : Int)) = false := decide_eq_false (by omega)
      (refine GO.gT rfl rfl (by assumption) ?_; refine GO.move rfl rfl ?_; refine GO.gT rfl rfl (by assumption) ?_; refine GO.eqi rfl rfl rfl ?_; refine GO.gT rfl rfl (by assumption) ?_; refine GO.move rfl rfl ?_; refine GO.gT rfl rfl (by assumption) ?_; refine GO.move rfl rfl ?_; refine GO.gT rfl rfl (by assumption) ?_; refine GO.move rfl rfl ?_; refine GO.gT rfl rfl (by assumption) ?_; refine GO.eqi rfl rfl rfl ?_; refine GO.gT rfl rfl (by assumption) ?_; refine GO.pickTa rfl rfl (by assumption) rfl ?_; refine GO.pickFa rfl rfl (by assumption) rfl ?_; refine GO.nil ?_; refine kthen_n ?_)
      (refine ⟨?_, ImpS.sb ?_⟩; (focus (((refine SubE.c rfl ?_ ?_; focus (simp; omega)); refine SubE.c rfl rfl ?_; refine SubE.c rfl rfl ?_; refine SubE.c rfl rfl ?_; refine SubE.c rfl rfl ?_; refine SubE.c rfl rfl ?_; refine SubE.c rfl rfl ?_; refine SubE.c rfl rfl ?_; refine SubE.c rfl rfl ?_; refine SubE.c rfl rfl ?_; refine SubE.c rfl rfl ?_; refine SubE.c rfl rfl ?_; refine SubE.c rfl rfl ?_; refine SubE.c rfl rfl ?_; refine SubE.c rfl rfl ?_; refine SubE.c rfl rfl ?_; refine SubE.c rfl rfl ?_; refine SubE.c rfl rfl ?_; refine SubE.c rfl rfl ?_; refine SubE.c rfl rfl ?_; refine SubE.c rfl rfl ?_; refine SubE.c rfl rfl ?_; refine SubE.c rfl rfl ?_; refine SubE.c rfl rfl ?_; refine SubE.c rfl rfl ?_; refine SubE.c rfl rfl ?_; exact SubE.n))); (focus (((refine Sb.c Tk.h ?_); (exact Sb.r)))))
    · have d2 : decide ((scE s : Int) = 160) = false := decide_eq_false (by omega)
      (refine GO.gT rfl rfl (by assumption) ?_; refine GO.move rfl rfl ?_; refine GO.gT rfl rfl (by assumption) ?_; refine GO.eqi rfl rfl rfl ?_; refine GO.gT rfl rfl (by assumption) ?_; refine GO.move rfl rfl ?_; refine GO.gF rfl rfl rfl (by assumption) ?_; refine GO.gF rfl rfl rfl (by assumption) ?_; refine GO.gF rfl rfl rfl (by assumption) ?_; refine GO.gT rfl rfl (by assumption) ?_; refine GO.pickFa rfl rfl (by assumption) rfl ?_; refine GO.pickFa rfl rfl (by assumption) rfl ?_; refine GO.nil ?_; refine kthen_n ?_)
      (refine ⟨?_, ImpS.sb ?_⟩; (focus ((refine SubE.c rfl rfl ?_; refine SubE.c rfl rfl ?_; refine SubE.c rfl rfl ?_; refine SubE.c rfl rfl ?_; refine SubE.c rfl rfl ?_; refine SubE.c rfl rfl ?_; refine SubE.c rfl rfl ?_; refine SubE.c rfl rfl ?_; refine SubE.c rfl rfl ?_; refine SubE.c rfl rfl ?_; refine SubE.c rfl rfl ?_; refine SubE.c rfl rfl ?_; refine SubE.c rfl rfl ?_; refine SubE.c rfl rfl ?_; refine SubE.c rfl rfl ?_; refine SubE.c rfl rfl ?_; refine SubE.c rfl rfl ?_; refine SubE.c rfl rfl ?_; refine SubE.c rfl rfl ?_; refine SubE.c rfl rfl ?_; refine SubE.c rfl rfl ?_; refine SubE.c rfl rfl ?_; refine SubE.c rfl rfl ?_; refine SubE.c rfl rfl ?_; refine SubE.c rfl rfl ?_; refine SubE.c rfl rfl ?_; exact SubE.n))); (focus (((refine Sb.c Tk.h ?_); (exact Sb.r)))))
  refine G.subI (L' := [(0, str s), (1, i64 (at' : Nat)), (38, .bool false)]) (H' := z1 :: F) ?_ (ImpS.sb ?_) ?_
  · (refine SubE.c rfl rfl ?_; refine SubE.c rfl rfl ?_; refine SubE.c rfl rfl ?_; exact SubE.n)
  · ((refine Sb.c Tk.h ?_); (exact Sb.r))
  cases h with
  | fin h => exact absurd h hfin
  | bad h h' => exact absurd ⟨(sc_bad h).1, by rw [(sc_bad h).2]; exact h'⟩ hbad
  | mid b hb hk ht hw =>
  obtain ⟨n1, n2, n3, n4⟩ := notBlank hk
  obtain ⟨t1, t2⟩ := sc_ok ht
  have hin : ∀ m ∈ marksF (s.take at'), m.place + m.text.length ≤ s.length := fun m hm => by
    have := marksF_in hm
    rw [List.length_take] at this
    omega
  rw [← t2] at hw hin
  rw [t1] at h2
  have hlA := sc_len (s.take at')
  have hlB := sc_len (s.drop at')
  rw [List.length_take] at hlA
  rw [List.length_drop] at hlB
  generalize scM (s.take at') = ml at *
  generalize scM (s.drop at') = mk at *
  clear hbad
  (refine G.condF rfl rfl ?_; refine G.skip ?_; refine kthen_n ?_; refine G.seq ?_; refine G.region ?_; refine GO.move rfl rfl ?_; refine GO.move rfl rfl ?_)
  refine GO.strHi rfl rfl rfl ⟨rfl, hle⟩ ?_
  refine GO.call1 rfl rfl (h2) Tks.n ?_
  rintro _ _ ⟨v2, z2, rfl, hm2, rfl⟩
  obtain ⟨am2, cm2, rfl⟩ := marks_sl hm2
  have e0 : decide ((0 : Int) ≠ 0) = false := rfl
  (refine GO.move rfl rfl ?_; refine GO.extract rfl rfl rfl ?_; refine GO.extract rfl rfl rfl ?_; refine GO.extract rfl rfl rfl ?_; refine GO.assign rfl rfl ?_; refine GO.assign rfl rfl ?_; refine GO.nil ?_; refine kthen_n ?_; refine G.seq ?_; refine G.seq ?_; refine G.region ?_; refine GO.move rfl rfl ?_; refine GO.neF rfl rfl rfl rfl ?_; refine GO.nil ?_; refine kthen_n ?_; refine G.condF rfl rfl ?_; refine G.skip ?_; refine kthen_n ?_; refine G.seq ?_; refine G.region ?_; refine GO.move rfl rfl ?_; refine GO.move rfl rfl ?_)
  refine GO.strLo rfl rfl rfl ⟨rfl, hle⟩ ?_
  refine GO.call1 rfl rfl (h3) Tks.n ?_
  rintro _ _ ⟨v3, z3, rfl, hm3, rfl⟩
  obtain ⟨am3, cm3, rfl⟩ := marks_sl hm3
  (refine GO.move rfl rfl ?_; refine GO.extract rfl rfl rfl ?_; refine GO.extract rfl rfl rfl ?_; refine GO.extract rfl rfl rfl ?_; refine GO.assign rfl rfl ?_; refine GO.assign rfl rfl ?_; refine GO.assign rfl rfl ?_; refine GO.nil ?_; refine kthen_n ?_; refine G.seq ?_; refine G.seq ?_; refine G.region ?_; refine GO.move rfl rfl ?_; refine GO.lenS rfl rfl ?_; refine GO.gti rfl rfl rfl ?_; refine GO.move rfl rfl ?_)
  by_cases hall : 0 < ml.length ∧ 0 < mk.length ∧ ∀ m, mk[0]? = some m → m.kind ≤ 3
  · obtain ⟨hl0, hk0, hm3k⟩ := hall
    obtain ⟨m, hm⟩ : ∃ m, mk[0]? = some m := ⟨_, List.getElem?_eq_getElem hk0⟩
    obtain ⟨en, hen⟩ : ∃ en, ml[ml.length - 1]? = some en := ⟨_, List.getElem?_eq_getElem (by omega)⟩
    have hm3' := hm3k m hm
    obtain ⟨hp0, hor⟩ := hw en m hen hm hm3'
    obtain ⟨b3, o3, c3, e, r0, r1, r2⟩ := marks_rd hm3 hm
    injection e with e _ e2
    subst e e2
    obtain ⟨b2, o2, c2, e, k0, k1, k2⟩ := marks_rd hm2 hen
    injection e with e _ e2
    subst e e2
    have f1 : decide ((0 : Int) < (ml.length : Int)) = true := decide_eq_true (by omega)
    have f2 : decide ((0 : Int) < (mk.length : Int)) = true := decide_eq_true (by omega)
    have f3 : decide ((m.kind : Int) ≤ 3) = true := decide_eq_true (by omega)
    have f4 : decide ((m.place : Int) = 0) = true := decide_eq_true (by omega)
    have hinm := hin en (List.mem_of_getElem? hen)
    clear hw hm3 hm2 hm3k hin
    (refine GO.gT rfl rfl (by assumption) ?_; refine GO.move rfl rfl ?_; refine GO.gT rfl rfl (by assumption) ?_; refine GO.lenS rfl rfl ?_; refine GO.gT rfl rfl (by assumption) ?_; refine GO.gti rfl rfl rfl ?_; refine GO.pickTa rfl rfl (by assumption) rfl ?_; refine GO.move rfl rfl ?_; refine GO.gT rfl rfl (by assumption) ?_; refine GO.move rfl rfl ?_; refine GO.gT rfl rfl (by assumption) ?_; refine GO.idxS rfl rfl rfl ⟨rfl, by omega⟩ ?_; refine GO.gT rfl rfl (by assumption) ?_; refine GO.fieldAddr rfl rfl ?_; refine GO.gT rfl rfl (by assumption) ?_; refine GO.loadQ rfl rfl rfl Tk.h (by assumption) ?_; refine GO.gT rfl rfl (by assumption) ?_; refine GO.lei rfl rfl rfl ?_; refine GO.pickTa rfl rfl (by assumption) rfl ?_; refine GO.nil ?_; refine kthen_n ?_; refine G.condT rfl (by assumption) ?_; refine G.seq ?_; refine G.region ?_; refine GO.move rfl rfl ?_; refine GO.move rfl rfl ?_; refine GO.lenS rfl rfl ?_; refine GO.subi rfl rfl rfl (by omega) ?_)
    refine GO.idxS (j := ml.length - 1) rfl rfl rfl ⟨by omega, by omega⟩ ?_
    refine GO.loadM (vs := [i64 (en.kind : Nat), i64 (en.place : Nat), str en.text]) rfl rfl rfl (Tk.t Tk.h) rfl (fun j u hu => by match j, hu with | 0, hu => (cases hu; exact k0) | 1, hu => (cases hu; exact k1) | 2, hu => (cases hu; exact k2)) ?_
    (refine GO.alloc rfl fun b11 => ?_; refine GO.storeW rfl rfl Tk.h ⟨rfl, rfl⟩ (by simp [Value.oneCell']) ?_; refine GO.nil ?_; refine kthen_n ?_; refine G.seq ?_; refine G.region ?_; refine GO.move rfl rfl ?_; refine GO.idxS rfl rfl rfl ⟨rfl, by omega⟩ ?_; refine GO.fieldAddr rfl rfl ?_; refine GO.loadQ rfl rfl rfl (Tk.t Tk.h) (by assumption) ?_; refine GO.eqi rfl rfl rfl ?_; refine GO.move rfl rfl ?_; refine GO.gT rfl rfl (by assumption) ?_; refine GO.fieldAddr rfl rfl ?_; refine GO.gT rfl rfl (by assumption) ?_; refine GO.load1 rfl rfl rfl Tk.h rfl ?_; refine GO.gT rfl rfl (by assumption) ?_; refine GO.gti rfl rfl rfl ?_; refine GO.gT rfl rfl (by assumption) ?_; refine GO.move rfl rfl ?_)
    cases f5 : decide ((3 : Int) < (en.kind : Int))
    · have f6 : decide (((en.place : Int) + (en.text.length : Int)) < (at' : Int)) = true := decide_eq_true (by have := of_decide_eq_false f5; omega)
      (refine GO.gT rfl rfl rfl ?_; refine GO.fieldAddr rfl rfl ?_; refine GO.gT rfl rfl rfl ?_; refine GO.load1 rfl rfl rfl Tk.h rfl ?_; refine GO.gT rfl rfl rfl ?_; refine GO.fieldAddr rfl rfl ?_; refine GO.gT rfl rfl rfl ?_; refine GO.load1 rfl rfl rfl Tk.h rfl ?_; refine GO.gT rfl rfl rfl ?_; refine GO.strLen rfl rfl ?_; refine GO.gT rfl rfl rfl ?_; refine GO.addi rfl rfl rfl (by omega) ?_; refine GO.gT rfl rfl rfl ?_; refine GO.move rfl rfl ?_; refine GO.gT rfl rfl rfl ?_; refine GO.lti rfl rfl rfl ?_; refine GO.gT rfl rfl (by assumption) ?_; refine GO.pickF rfl rfl rfl ?_; refine GO.pickTa rfl rfl (by assumption) rfl ?_; refine GO.assign rfl rfl ?_; refine GO.nil ?_; refine kthen_n ?_; refine G.ret ?_; refine kthen_r ?_)
      refine KF2.r1 rfl (RV.t rfl) ⟨by rw [f6], rfl⟩ (ImpS.sb ?_)
      (skip; (refine Sb.s ?_; refine Sb.s ?_; refine Sb.s ?_; refine Sb.s ?_; exact Sb.r))
    · (refine GO.gF rfl rfl rfl rfl ?_; refine GO.gF rfl rfl rfl rfl ?_; refine GO.gF rfl rfl rfl rfl ?_; refine GO.gF rfl rfl rfl rfl ?_; refine GO.gF rfl rfl rfl rfl ?_; refine GO.gF rfl rfl rfl rfl ?_; refine GO.gF rfl rfl rfl rfl ?_; refine GO.gF rfl rfl rfl rfl ?_; refine GO.gT rfl rfl (by assumption) ?_; refine GO.pickT rfl rfl rfl ?_; refine GO.pickTa rfl rfl (by assumption) rfl ?_; refine GO.assign rfl rfl ?_; refine GO.nil ?_; refine kthen_n ?_; refine G.ret ?_; refine kthen_r ?_)
      refine KF2.r1 rfl (RV.t rfl) ⟨rfl, rfl⟩ (ImpS.sb ?_)
      (skip; (refine Sb.s ?_; refine Sb.s ?_; refine Sb.s ?_; refine Sb.s ?_; exact Sb.r))
  · refine GO.cut1 71 (.bool false) ?_ ?_
    · by_cases g1 : 0 < ml.length
      · have f1 : decide ((0 : Int) < (ml.length : Int)) = true := decide_eq_true (by omega)
        by_cases g2 : 0 < mk.length
        · have f2 : decide ((0 : Int) < (mk.length : Int)) = true := decide_eq_true (by omega)
          obtain ⟨m, hm⟩ : ∃ m, mk[0]? = some m := ⟨_, List.getElem?_eq_getElem g2⟩
          have hmk : ¬ m.kind ≤ 3 := fun h => hall ⟨g1, g2, fun m' h' => by rw [hm] at h'; cases h'; exact h⟩
          obtain ⟨b3, o3, c3, e, r0, r1, r2⟩ := marks_rd hm3 hm
          injection e with e _ e2
          subst e e2
          have f3 : decide ((m.kind : Int) ≤ 3) = false := decide_eq_false (by omega)
          (refine GO.gT rfl rfl (by assumption) ?_; refine GO.move rfl rfl ?_; refine GO.gT rfl rfl (by assumption) ?_; refine GO.lenS rfl rfl ?_; refine GO.gT rfl rfl (by assumption) ?_; refine GO.gti rfl rfl rfl ?_; refine GO.pickTa rfl rfl (by assumption) rfl ?_; refine GO.move rfl rfl ?_; refine GO.gT rfl rfl (by assumption) ?_; refine GO.move rfl rfl ?_; refine GO.gT rfl rfl (by assumption) ?_; refine GO.idxS rfl rfl rfl ⟨rfl, by omega⟩ ?_; refine GO.gT rfl rfl (by assumption) ?_; refine GO.fieldAddr rfl rfl ?_; refine GO.gT rfl rfl (by assumption) ?_; refine GO.loadQ rfl rfl rfl Tk.h (by assumption) ?_; refine GO.gT rfl rfl (by assumption) ?_; refine GO.lei rfl rfl rfl ?_; refine GO.pickTa rfl rfl (by assumption) rfl ?_; refine GO.nil ?_; refine kthen_n ?_)
          rw [f3]
          (refine ⟨?_, ImpS.sb ?_⟩; (focus ((refine SubE.c rfl rfl ?_; refine SubE.c rfl rfl ?_; refine SubE.c rfl rfl ?_; refine SubE.c rfl rfl ?_; refine SubE.c rfl rfl ?_; refine SubE.c rfl rfl ?_; refine SubE.c rfl rfl ?_; refine SubE.c rfl rfl ?_; refine SubE.c rfl rfl ?_; refine SubE.c rfl rfl ?_; refine SubE.c rfl rfl ?_; refine SubE.c rfl rfl ?_; refine SubE.c rfl rfl ?_; refine SubE.c rfl rfl ?_; refine SubE.c rfl rfl ?_; refine SubE.c rfl rfl ?_; refine SubE.c rfl rfl ?_; refine SubE.c rfl rfl ?_; refine SubE.c rfl rfl ?_; refine SubE.c rfl rfl ?_; refine SubE.c rfl rfl ?_; refine SubE.c rfl rfl ?_; refine SubE.c rfl rfl ?_; refine SubE.c rfl rfl ?_; refine SubE.c rfl rfl ?_; refine SubE.c rfl rfl ?_; refine SubE.c rfl rfl ?_; refine SubE.c rfl rfl ?_; refine SubE.c rfl rfl ?_; refine SubE.c rfl rfl ?_; refine SubE.c rfl rfl ?_; exact SubE.n))); (focus (((refine Sb.c Tk.h ?_; refine Sb.c Tk.h ?_; refine Sb.c Tk.h ?_); (exact Sb.r)))))
        · have f2 : decide ((0 : Int) < (mk.length : Int)) = false := decide_eq_false (by omega)
          (refine GO.gT rfl rfl (by assumption) ?_; refine GO.move rfl rfl ?_; refine GO.gT rfl rfl (by assumption) ?_; refine GO.lenS rfl rfl ?_; refine GO.gT rfl rfl (by assumption) ?_; refine GO.gti rfl rfl rfl ?_; refine GO.pickTa rfl rfl (by assumption) rfl ?_; refine GO.move rfl rfl ?_; refine GO.gF rfl rfl rfl (by assumption) ?_; refine GO.gF rfl rfl rfl (by assumption) ?_; refine GO.gF rfl rfl rfl (by assumption) ?_; refine GO.gF rfl rfl rfl (by assumption) ?_; refine GO.gF rfl rfl rfl (by assumption) ?_; refine GO.pickFa rfl rfl (by assumption) rfl ?_; refine GO.nil ?_; refine kthen_n ?_)
          rw [f2]
          (refine ⟨?_, ImpS.sb ?_⟩; (focus ((refine SubE.c rfl rfl ?_; refine SubE.c rfl rfl ?_; refine SubE.c rfl rfl ?_; refine SubE.c rfl rfl ?_; refine SubE.c rfl rfl ?_; refine SubE.c rfl rfl ?_; refine SubE.c rfl rfl ?_; refine SubE.c rfl rfl ?_; refine SubE.c rfl rfl ?_; refine SubE.c rfl rfl ?_; refine SubE.c rfl rfl ?_; refine SubE.c rfl rfl ?_; refine SubE.c rfl rfl ?_; refine SubE.c rfl rfl ?_; refine SubE.c rfl rfl ?_; refine SubE.c rfl rfl ?_; refine SubE.c rfl rfl ?_; refine SubE.c rfl rfl ?_; refine SubE.c rfl rfl ?_; refine SubE.c rfl rfl ?_; refine SubE.c rfl rfl ?_; refine SubE.c rfl rfl ?_; refine SubE.c rfl rfl ?_; refine SubE.c rfl rfl ?_; refine SubE.c rfl rfl ?_; refine SubE.c rfl rfl ?_; refine SubE.c rfl rfl ?_; refine SubE.c rfl rfl ?_; refine SubE.c rfl rfl ?_; refine SubE.c rfl rfl ?_; refine SubE.c rfl rfl ?_; exact SubE.n))); (focus (((refine Sb.c Tk.h ?_; refine Sb.c Tk.h ?_; refine Sb.c Tk.h ?_); (exact Sb.r)))))
      · have f1 : decide ((0 : Int) < (ml.length : Int)) = false := decide_eq_false (by omega)
        (refine GO.gF rfl rfl rfl (by assumption) ?_; refine GO.gF rfl rfl rfl (by assumption) ?_; refine GO.gF rfl rfl rfl (by assumption) ?_; refine GO.pickFa rfl rfl (by assumption) rfl ?_; refine GO.move rfl rfl ?_; refine GO.gF rfl rfl rfl rfl ?_; refine GO.gF rfl rfl rfl rfl ?_; refine GO.gF rfl rfl rfl rfl ?_; refine GO.gF rfl rfl rfl rfl ?_; refine GO.gF rfl rfl rfl rfl ?_; refine GO.pickF rfl rfl rfl ?_; refine GO.nil ?_; refine kthen_n ?_)
        rw [f1]
        (refine ⟨?_, ImpS.sb ?_⟩; (focus ((refine SubE.c rfl rfl ?_; refine SubE.c rfl rfl ?_; refine SubE.c rfl rfl ?_; refine SubE.c rfl rfl ?_; refine SubE.c rfl rfl ?_; refine SubE.c rfl rfl ?_; refine SubE.c rfl rfl ?_; refine SubE.c rfl rfl ?_; refine SubE.c rfl rfl ?_; refine SubE.c rfl rfl ?_; refine SubE.c rfl rfl ?_; refine SubE.c rfl rfl ?_; refine SubE.c rfl rfl ?_; refine SubE.c rfl rfl ?_; refine SubE.c rfl rfl ?_; refine SubE.c rfl rfl ?_; refine SubE.c rfl rfl ?_; refine SubE.c rfl rfl ?_; refine SubE.c rfl rfl ?_; refine SubE.c rfl rfl ?_; refine SubE.c rfl rfl ?_; refine SubE.c rfl rfl ?_; refine SubE.c rfl rfl ?_; refine SubE.c rfl rfl ?_; refine SubE.c rfl rfl ?_; refine SubE.c rfl rfl ?_; refine SubE.c rfl rfl ?_; refine SubE.c rfl rfl ?_; refine SubE.c rfl rfl ?_; refine SubE.c rfl rfl ?_; refine SubE.c rfl rfl ?_; exact SubE.n))); (focus (((refine Sb.c Tk.h ?_; refine Sb.c Tk.h ?_; refine Sb.c Tk.h ?_); (exact Sb.r)))))
    (refine G.condF rfl rfl ?_; refine G.skip ?_; refine kthen_n ?_; refine G.seq ?_; refine G.region ?_; refine GO.move rfl rfl ?_; refine GO.move rfl rfl ?_; refine GO.strIdx rfl rfl rfl rfl (by assumption) ?_; refine GO.nei rfl rfl rfl ?_; refine GO.move rfl rfl ?_; refine GO.gT rfl rfl (by assumption) ?_; refine GO.move rfl rfl ?_; refine GO.gT rfl rfl (by assumption) ?_; refine GO.move rfl rfl ?_; refine GO.gT rfl rfl (by assumption) ?_; refine GO.strIdx rfl rfl rfl rfl (by assumption) ?_; refine GO.gT rfl rfl (by assumption) ?_; refine GO.nei rfl rfl rfl ?_; refine GO.pickTa rfl rfl (by assumption) rfl ?_; refine GO.move rfl rfl ?_; refine GO.gT rfl rfl (by assumption) ?_; refine GO.move rfl rfl ?_; refine GO.gT rfl rfl (by assumption) ?_; refine GO.move rfl rfl ?_; refine GO.gT rfl rfl (by assumption) ?_; refine GO.strIdx rfl rfl rfl rfl (by assumption) ?_; refine GO.gT rfl rfl (by assumption) ?_; refine GO.nei rfl rfl rfl ?_; refine GO.pickTa rfl rfl (by assumption) rfl ?_; refine GO.move rfl rfl ?_; refine GO.gT rfl rfl (by assumption) ?_; refine GO.move rfl rfl ?_; refine GO.gT rfl rfl (by assumption) ?_; refine GO.move rfl rfl ?_; refine GO.gT rfl rfl (by assumption) ?_; refine GO.strIdx rfl rfl rfl rfl (by assumption) ?_; refine GO.gT rfl rfl (by assumption) ?_; refine GO.nei rfl rfl rfl ?_; refine GO.pickTa rfl rfl (by assumption) rfl ?_; refine GO.assign rfl rfl ?_; refine GO.nil ?_; refine kthen_n ?_; refine G.ret ?_)
    refine KF2.r1 rfl (RV.t rfl) ⟨by rw [n4], rfl⟩ (ImpS.sb ?_)
    (skip; (refine Sb.s ?_; refine Sb.s ?_; refine Sb.s ?_; exact Sb.r))
end Go.Proofs.YtpgfmfbpmkfbjaaGreat
namespace Go.Proofs.YtpgfmfbpmkfbjaaGreat
open Go
/-- "S=a S b|a b;" -/
def gText : List UInt8 := [83, 61, 97, 32, 83, 32, 98, 124, 97, 32, 98, 59]
/-- "b a c; x;" -/
def eText : List UInt8 := [98, 32, 97, 32, 99, 59, 32, 120, 59]
/-- "x ;\\nb a c ;\\n" -/
def eOut : List UInt8 := [120, 32, 59, 10, 98, 32, 97, 32, 99, 32, 59, 10]
theorem parseF_fit {s : List UInt8} (h : (parseF s).2.2 = 0) : FitG (parseF s).1 := by
  unfold parseF at h ⊢
  split at h
  · cases h
  rename_i hl
  rw [if_neg hl]
  cases hr : rulesF s (marksF s) (badF s) ((marksF s).length + 1) [] 0 with
  | error p => rw [hr] at h; cases h
  | ok g =>
    rw [hr] at h
    dsimp only at h ⊢
    split at h
    · cases h
    rename_i h1
    rw [if_neg h1]
    split at h
    · cases h
    rename_i h2
    rw [if_neg h2]
    split at h
    · rename_i h3
      rw [if_pos h3]
      exact rulesF_fitG hl hr
    · rename_i h3; exact absurd h h3
theorem parseE_fit {s : List UInt8} (h : (parseE s).2.2 = 0) : FitE (parseE s).1 ∧ FitT (parseE s).1 := by
  unfold parseE at h ⊢
  split at h
  · cases h
  rename_i hl
  rw [if_neg hl]
  cases hr : readE (marksF s) (badF s) ((marksF s).length + 1) 0 ⟨[], []⟩ with
  | error p => rw [hr] at h; cases h
  | ok g =>
    rw [hr] at h
    dsimp only at h ⊢
    split at h
    · cases h
    rename_i h1
    rw [if_neg h1]
    obtain ⟨f1, f2⟩ := readE_fits hl hr
    dsimp only at h ⊢
    unfold ofF at h ⊢
    split at h
    · rename_i h2
      rw [if_pos h2]
      unfold madeF at h ⊢
      split at h
      · rename_i h3
        rw [if_pos h3]
        exact madeG_fit f1 f2
      · rename_i h3; exact absurd h h3
    · cases h
attribute [local irreducible] capN capM capT G GO GR GT Fn FnX FnV FnXV Dfr pt init exs pur sat own ImpS mapP parseF parseE printG printE checkG checkE
set_option maxHeartbeats 32000000 in
set_option maxRecDepth 40000 in
theorem reads_spec (h1 : (parseF gText).2.2 = 0) (h2 : checkG (parseF gText).1 = 0) (h3 : (parseE eText).2.2 = 0) (h4 : checkE (parseE eText).1 = 0) (h5 : parseF (printG (parseF gText).1) = ((parseF gText).1, 0, 0)) (h6 : (parseF gText).1.length = 1) (h7 : printE (parseE eText).1 = eOut) :
    Fn Tryz.prog 11 #[] [] (fun r Q => r = .bool true ∧ Q = []) := by
  have p1 := parse_spec gText
  have p2 := parseE_spec eText
  have p3 := parse_spec (printG (parseF gText).1)
  have f1 := parseF_fit h1
  have f2 := parseE_fit h3
  have q1 := fun q v hq => printG_spec q v (parseF gText).1 hq f1
  have q2 := fun q vn ve hq => printE_spec q vn ve (parseE eText).1 hq f2.1 f2.2
  have q3 := fun z1 z2 v1 v2 h1 h2 => sameG_spec z1 z2 v1 v2 (parseF gText).1 (parseF gText).1 h1 h2 f1.len f1.body
  unfold ParseR at p1 p3
  unfold ParseER at p2
  rw [h5] at p3
  rw [h1] at p1
  rw [h3] at p2
  rw [h7] at q2
  rw [h2] at q1
  rw [h4] at q2
  generalize (parseF gText).2.1 = at1 at *
  generalize (parseE eText).2.1 = at2 at *
  generalize printG (parseF gText).1 = tx at *
  generalize (parseF gText).1 = g at *
  generalize (parseE eText).1 = d at *
  have z0 : decide ((0 : Int) = 0) = true := rfl
  have z1 : decide (g = g) = true := decide_eq_true rfl
  have z2 : decide ((g.length : Int) = 1) = true := decide_eq_true (by omega)
  refine Fn.mk2 Tryz.func11 rfl rfl fun w0 F => ?_
  (refine G.seq ?_; refine G.region ?_; refine GO.assign rfl rfl ?_; refine GO.nil ?_; refine kthen_n ?_; refine G.seq ?_; refine G.region ?_)
  refine GO.call1 rfl rfl (p1) Tks.n ?_
  rintro _ _ ⟨v1, y1, rfl, hg1, rfl⟩
  obtain ⟨ag1, cg1, rfl⟩ := rules_sl hg1
  (refine GO.move rfl rfl ?_; refine GO.extract rfl rfl rfl ?_; refine GO.extract rfl rfl rfl ?_; refine GO.extract rfl rfl rfl ?_; refine GO.assign rfl rfl ?_; refine GO.assign rfl rfl ?_; refine GO.assign rfl rfl ?_; refine GO.nil ?_; refine kthen_n ?_; refine G.seq ?_; refine G.region ?_; refine GO.move rfl rfl ?_)
  refine GO.call1 rfl rfl (q1 _ _ hg1) (Tks.c Tk.h Tks.n) ?_
  rintro _ _ ⟨rfl, rfl⟩
  (refine GO.move rfl rfl ?_; refine GO.extract rfl rfl rfl ?_; refine GO.extract rfl rfl rfl ?_; refine GO.assign rfl rfl ?_; refine GO.assign rfl rfl ?_; refine GO.nil ?_; refine kthen_n ?_; refine G.seq ?_; refine G.region ?_)
  refine GO.call1 rfl rfl (p2) Tks.n ?_
  rintro _ _ ⟨vn, ve, y2, rfl, hd, rfl⟩
  obtain ⟨an, cn, rfl⟩ := strsR_sl hd.n
  obtain ⟨ae, ce, rfl⟩ := edges_sl hd.e
  (refine GO.move rfl rfl ?_; refine GO.extract rfl rfl rfl ?_; refine GO.extract rfl rfl rfl ?_; refine GO.extract rfl rfl rfl ?_; refine GO.alloc rfl fun b6 => ?_; refine GO.storeW rfl rfl Tk.h ⟨rfl, rfl⟩ (by simp [Value.oneCell']) ?_; refine GO.assign rfl rfl ?_; refine GO.assign rfl rfl ?_; refine GO.nil ?_; refine kthen_n ?_; refine G.seq ?_; refine G.region ?_; refine GO.loadW rfl rfl rfl Tk.h rfl ?_)
  refine GO.call1 rfl rfl (q2 _ _ _ hd) (Tks.c (Tk.t Tk.h) Tks.n) ?_
  rintro _ _ ⟨rfl, rfl⟩
  (refine GO.move rfl rfl ?_; refine GO.extract rfl rfl rfl ?_; refine GO.extract rfl rfl rfl ?_; refine GO.assign rfl rfl ?_; refine GO.assign rfl rfl ?_; refine GO.nil ?_; refine kthen_n ?_; refine G.seq ?_; refine G.region ?_; refine GO.move rfl rfl ?_)
  refine GO.call1 rfl rfl (p3) Tks.n ?_
  rintro _ _ ⟨v3, y3, rfl, hg3, rfl⟩
  obtain ⟨ag3, cg3, rfl⟩ := rules_sl hg3
  (refine GO.move rfl rfl ?_; refine GO.extract rfl rfl rfl ?_; refine GO.extract rfl rfl rfl ?_; refine GO.extract rfl rfl rfl ?_; refine GO.assign rfl rfl ?_; refine GO.assign rfl rfl ?_; refine GO.assign rfl rfl ?_; refine GO.nil ?_; refine kthen_n ?_; refine G.seq ?_; refine G.region ?_; refine GO.move rfl rfl ?_; refine GO.eqT rfl rfl rfl rfl ?_; refine GO.move rfl rfl ?_; refine GO.gT rfl rfl rfl ?_; refine GO.move rfl rfl ?_; refine GO.gT rfl rfl rfl ?_; refine GO.eqT rfl rfl rfl rfl ?_; refine GO.pickT rfl rfl rfl ?_; refine GO.move rfl rfl ?_; refine GO.gT rfl rfl rfl ?_; refine GO.move rfl rfl ?_; refine GO.gT rfl rfl rfl ?_; refine GO.eqT rfl rfl rfl rfl ?_; refine GO.pickT rfl rfl rfl ?_; refine GO.move rfl rfl ?_; refine GO.gT rfl rfl rfl ?_; refine GO.move rfl rfl ?_; refine GO.gT rfl rfl rfl ?_; refine GO.eqT rfl rfl rfl rfl ?_; refine GO.pickT rfl rfl rfl ?_; refine GO.move rfl rfl ?_; refine GO.gT rfl rfl rfl ?_; refine GO.move rfl rfl ?_; refine GO.gT rfl rfl rfl ?_; refine GO.eqT rfl rfl rfl rfl ?_; refine GO.pickT rfl rfl rfl ?_; refine GO.move rfl rfl ?_; refine GO.gT rfl rfl rfl ?_; refine GO.move rfl rfl ?_; refine GO.gT rfl rfl rfl ?_; refine GO.move rfl rfl ?_; refine GO.gT rfl rfl rfl ?_)
  refine GO.call2 rfl rfl rfl (q3 _ _ _ _ hg3 hg1) (Tks.c Tk.h (Tks.c (Tk.t (Tk.t Tk.h)) Tks.n)) ?_
  rintro _ _ ⟨rfl, rfl⟩
  (refine GO.pickT rfl rfl rfl ?_; refine GO.move rfl rfl ?_; refine GO.gT rfl rfl (by assumption) ?_; refine GO.move rfl rfl ?_; refine GO.gT rfl rfl (by assumption) ?_; refine GO.lenS rfl rfl ?_; refine GO.gT rfl rfl (by assumption) ?_; refine GO.eqi rfl rfl rfl ?_; refine GO.pickTa rfl rfl (by assumption) rfl ?_; refine GO.move rfl rfl ?_; refine GO.gT rfl rfl (by assumption) ?_; refine GO.move rfl rfl ?_; refine GO.gT rfl rfl (by assumption) ?_; refine GO.binS rfl rfl rfl rfl ?_; refine GO.pickTa rfl rfl (by assumption) rfl ?_; refine GO.assign rfl rfl ?_; refine GO.nil ?_; refine kthen_n ?_; refine G.ret ?_)
  refine KF2.r1 rfl (RV.t rfl) ⟨rfl, rfl⟩ (ImpS.sb ?_)
  (skip; (refine Sb.s ?_; refine Sb.s ?_; refine Sb.s ?_; refine Sb.s ?_; exact Sb.r))
end Go.Proofs.YtpgfmfbpmkfbjaaGreat
namespace Go.Proofs.YtpgfmfbpmkfbjaaGreat
open Go
/-- What the law asks of a text. -/
structure TextsOK (s : List UInt8) : Prop where
  gw : (parseF s).2.2 = 172 → WrongOK s (parseF s).2.1 ∧ ((parseF (s.take (parseF s).2.1)).2.2 = 172 → (parseF (s.take (parseF s).2.1)).2.1 = (parseF s).2.1)
  gr : (parseF s).2.2 = 0 → checkG (parseF s).1 = 0 ∧ parseF (printG (parseF s).1) = ((parseF s).1, 0, 0) ∧ (parseF s).2.1 = 0 ∧ (printG (parseF s).1).length ≤ 2048
  ew : (parseE s).2.2 = 172 → WrongOK s (parseE s).2.1 ∧ ((parseE (s.take (parseE s).2.1)).2.2 = 172 → (parseE (s.take (parseE s).2.1)).2.1 = (parseE s).2.1)
  er : (parseE s).2.2 = 0 → checkE (parseE s).1 = 0 ∧ parseE (printE (parseE s).1) = ((parseE s).1, 0, 0) ∧ (parseE s).2.1 = 0 ∧ (printE (parseE s).1).length ≤ 2048
theorem parse_long {s : List UInt8} (h : 2048 < s.length) : parseF s = ([], 0, 3) ∧ parseE s = (⟨[], []⟩, 0, 3) := by
  unfold parseF parseE
  rw [if_pos h, if_pos h]
  exact ⟨rfl, rfl⟩
attribute [local irreducible] capN capM capT G GO GR GT Fn FnX FnV FnXV Dfr pt init exs pur sat own ImpS mapP parseF parseE printG printE checkG checkE
set_option maxHeartbeats 64000000 in
set_option maxRecDepth 40000 in
theorem texts_spec (s : List UInt8) (hR : Fn Tryz.prog 11 #[] [] (fun r Q => r = .bool true ∧ Q = [])) (hok : TextsOK s) : Fn Tryz.prog 3 #[str s] [] (fun r Q => r = .bool true ∧ Q = []) := by
  have hs : ¬ 1048576 < s.length ∨ ((parseF s).2.2 ≠ 172 ∧ (parseE s).2.2 ≠ 172) := by
    by_cases h : 2048 < s.length
    · obtain ⟨h1, h2⟩ := parse_long h
      rw [h1, h2]
      exact .inr ⟨by decide, by decide⟩
    · exact .inl (by omega)
  have p1 := parse_spec s
  have p2 := parseE_spec s
  have p3 := parse_spec (s.take (parseF s).2.1)
  have p4 := parseE_spec (s.take (parseE s).2.1)
  have p5 := parse_spec (printG (parseF s).1)
  have p6 := parseE_spec (printE (parseE s).1)
  have q1 := fun h q v hq => printG_spec q v (parseF s).1 hq (parseF_fit h)
  have q2 := fun h q vn ve hq => printE_spec q vn ve (parseE s).1 hq (parseE_fit h).1 (parseE_fit h).2
  have q3 := fun h z1 z2 v1 v2 h1 h2 => sameG_spec z1 z2 v1 v2 (parseF s).1 (parseF s).1 h1 h2 (parseF_fit h).len (parseF_fit h).body
  have q4 := fun h z1 z2 v1 v2 v3 v4 h1 h2 => sameE_spec z1 z2 v1 v2 v3 v4 (parseE s).1 (parseE s).1 h1 h2 (parseE_fit h).1
  obtain ⟨gw, gr, ew, er⟩ := hok
  unfold ParseR at p1 p3 p5
  unfold ParseER at p2 p4 p6
  generalize parseF (s.take (parseF s).2.1) = zf1 at *
  generalize parseE (s.take (parseE s).2.1) = ze1 at *
  generalize parseF (printG (parseF s).1) = zf2 at *
  generalize parseE (printE (parseE s).1) = ze2 at *
  generalize printG (parseF s).1 = txg at *
  generalize printE (parseE s).1 = txe at *
  generalize parseF s = zf at *
  generalize parseE s = ze at *
  obtain ⟨g, at1, er1⟩ := zf
  obtain ⟨d, at2, er2⟩ := ze
  obtain ⟨g1, k1, f1⟩ := zf1
  obtain ⟨d1, k2, f2⟩ := ze1
  dsimp only at *
  refine Fn.mk2 Tryz.func3 rfl rfl fun w0 F => ?_
  (refine G.seq ?_; refine G.region ?_; refine GO.assign rfl rfl ?_; refine GO.nil ?_; refine kthen_n ?_; refine G.seq ?_; refine G.region ?_; refine GO.move rfl rfl ?_)
  refine GO.call1 rfl rfl (p1) Tks.n ?_
  rintro _ _ ⟨v1, y1, rfl, hg1, rfl⟩
  obtain ⟨ag1, cg1, rfl⟩ := rules_sl hg1
  (refine GO.move rfl rfl ?_; refine GO.extract rfl rfl rfl ?_; refine GO.extract rfl rfl rfl ?_; refine GO.extract rfl rfl rfl ?_; refine GO.assign rfl rfl ?_; refine GO.assign rfl rfl ?_; refine GO.assign rfl rfl ?_; refine GO.nil ?_; refine kthen_n ?_; refine G.seq ?_; refine G.seq ?_; refine G.region ?_; refine GO.move rfl rfl ?_; refine GO.eqi rfl rfl rfl ?_; refine GO.nil ?_; refine kthen_n ?_)
  refine G.midE (σ := Unit) (fun _ => [(0, str s), (3, .slice ag1 g.length cg1), (4, i64 (at1 : Nat)), (5, i64 (er1 : Nat))]) (fun _ => y1 :: F) (fun _ => True) ?_ ?_
  · by_cases he : er1 = 172
    · have hl : ¬ 1048576 < s.length := hs.elim id fun h => absurd he h.1
      obtain ⟨w1, w2⟩ := gw he
      have hle := wrong_le w1
      have c1 : decide ((er1 : Int) = 172) = true := decide_eq_true (by omega)
      have hwr := wrong_spec s at1 hl w1
      (refine G.condT rfl (by assumption) ?_; refine G.seq ?_; refine G.region ?_; refine GO.move rfl rfl ?_; refine GO.move rfl rfl ?_; refine GO.move rfl rfl ?_; refine GO.strLen rfl rfl ?_)
      refine GO.min2 rfl rfl rfl ?_
      refine GO.max2 rfl rfl rfl ?_
      refine GO.strHi (b := at1) rfl rfl rfl ⟨by omega, hle⟩ ?_
      refine GO.call1 rfl rfl (p3) Tks.n ?_
      rintro _ _ ⟨v2, y2, rfl, hg2, rfl⟩
      obtain ⟨ag2, cg2, rfl⟩ := rules_sl hg2
      (refine GO.move rfl rfl ?_; refine GO.extract rfl rfl rfl ?_; refine GO.extract rfl rfl rfl ?_; refine GO.extract rfl rfl rfl ?_; refine GO.assign rfl rfl ?_; refine GO.assign rfl rfl ?_; refine GO.assign rfl rfl ?_; refine GO.nil ?_; refine kthen_n ?_; refine G.seq ?_; refine G.region ?_; refine GO.move rfl rfl ?_; refine GO.move rfl rfl ?_)
      refine GO.call2 rfl rfl rfl (hwr) Tks.n ?_
      rintro _ _ ⟨rfl, rfl⟩
      by_cases hf1 : f1 = 172
      · have hk := w2 hf1
        have c2 : decide ((f1 : Int) = 172) = true := decide_eq_true (by omega)
        have c3 : decide ((k1 : Int) ≠ (at1 : Int)) = false := decide_eq_false (by omega)
        (refine GO.not rfl rfl ?_; refine GO.move rfl rfl ?_; refine GO.gT rfl rfl rfl ?_; refine GO.move rfl rfl ?_; refine GO.gT rfl rfl rfl ?_; refine GO.eqi rfl rfl rfl ?_; refine GO.gT rfl rfl rfl ?_; refine GO.move rfl rfl ?_; refine GO.gT rfl rfl (by assumption) ?_; refine GO.move rfl rfl ?_; refine GO.gT rfl rfl (by assumption) ?_; refine GO.move rfl rfl ?_; refine GO.gT rfl rfl (by assumption) ?_; refine GO.nei rfl rfl rfl ?_; refine GO.gT rfl rfl rfl ?_; refine GO.pickTa rfl rfl (by assumption) rfl ?_; refine GO.pickF rfl rfl rfl ?_; refine GO.nil ?_; refine kthen_n ?_; refine G.condF rfl (by assumption) ?_; refine G.skip ?_; refine kthen_n ?_)
        refine ⟨(), trivial, ?_, ImpS.sb ?_⟩
        · (refine SubE.c rfl rfl ?_; refine SubE.c rfl rfl ?_; refine SubE.c rfl rfl ?_; refine SubE.c rfl rfl ?_; exact SubE.n)
        · ((refine Sb.c (Tk.t Tk.h) ?_); (refine Sb.s ?_; exact Sb.r))
      · have c2 : decide ((f1 : Int) = 172) = false := decide_eq_false (by omega)
        (refine GO.not rfl rfl ?_; refine GO.move rfl rfl ?_; refine GO.gT rfl rfl rfl ?_; refine GO.move rfl rfl ?_; refine GO.gT rfl rfl rfl ?_; refine GO.eqi rfl rfl rfl ?_; refine GO.gT rfl rfl rfl ?_; refine GO.move rfl rfl ?_; refine GO.gF rfl rfl rfl (by assumption) ?_; refine GO.gF rfl rfl rfl (by assumption) ?_; refine GO.gF rfl rfl rfl (by assumption) ?_; refine GO.gT rfl rfl rfl ?_; refine GO.pickFa rfl rfl (by assumption) rfl ?_; refine GO.pickF rfl rfl rfl ?_; refine GO.nil ?_; refine kthen_n ?_; refine G.condF rfl rfl ?_; refine G.skip ?_; refine kthen_n ?_)
        refine ⟨(), trivial, ?_, ImpS.sb ?_⟩
        · (refine SubE.c rfl rfl ?_; refine SubE.c rfl rfl ?_; refine SubE.c rfl rfl ?_; refine SubE.c rfl rfl ?_; exact SubE.n)
        · ((refine Sb.c (Tk.t Tk.h) ?_); (refine Sb.s ?_; exact Sb.r))
    · have c1 : decide ((er1 : Int) = 172) = false := decide_eq_false (by omega)
      (refine G.condF rfl (by assumption) ?_; refine G.skip ?_; refine kthen_n ?_)
      refine ⟨(), trivial, ?_, ImpS.sb ?_⟩
      · (refine SubE.c rfl rfl ?_; refine SubE.c rfl rfl ?_; refine SubE.c rfl rfl ?_; refine SubE.c rfl rfl ?_; exact SubE.n)
      · ((refine Sb.c Tk.h ?_); (exact Sb.r))
  intro _ _
  clear gw p3
  have z0 : decide ((0 : Int) ≠ 0) = false := rfl
  (refine G.seq ?_; refine G.seq ?_; refine G.region ?_; refine GO.move rfl rfl ?_; refine GO.eqi rfl rfl rfl ?_; refine GO.nil ?_; refine kthen_n ?_)
  refine G.midE (σ := Unit) (fun _ => [(0, str s)]) (fun _ => F) (fun _ => True) ?_ ?_
  · by_cases he : er1 = 0
    · obtain ⟨w1, w2, w3, w4⟩ := gr he
      subst he w2 w3
      have c1 : decide (((0 : Nat) : Int) = 0) = true := rfl
      have z1 : decide (g = g) = true := decide_eq_true rfl
      have z2 : decide ((txg : List UInt8) ≠ txg) = false := decide_eq_false (fun h => h rfl)
      have z3 : decide ((2048 : Int) < (txg.length : Int)) = false := decide_eq_false (by omega)
      rw [w1] at q1
      (refine G.condT rfl rfl ?_; refine G.seq ?_; refine G.region ?_; refine GO.move rfl rfl ?_)
      refine GO.call1 rfl rfl (q1 rfl _ _ hg1) (Tks.c Tk.h Tks.n) ?_
      rintro _ _ ⟨rfl, rfl⟩
      (refine GO.move rfl rfl ?_; refine GO.extract rfl rfl rfl ?_; refine GO.extract rfl rfl rfl ?_; refine GO.assign rfl rfl ?_; refine GO.assign rfl rfl ?_; refine GO.nil ?_; refine kthen_n ?_; refine G.seq ?_; refine G.region ?_; refine GO.move rfl rfl ?_)
      refine GO.call1 rfl rfl (p5) Tks.n ?_
      rintro _ _ ⟨v2, y2, rfl, hg2, rfl⟩
      obtain ⟨ag2, cg2, rfl⟩ := rules_sl hg2
      (refine GO.move rfl rfl ?_; refine GO.extract rfl rfl rfl ?_; refine GO.extract rfl rfl rfl ?_; refine GO.extract rfl rfl rfl ?_; refine GO.assign rfl rfl ?_; refine GO.assign rfl rfl ?_; refine GO.assign rfl rfl ?_; refine GO.nil ?_; refine kthen_n ?_; refine G.seq ?_; refine G.region ?_; refine GO.move rfl rfl ?_)
      refine GO.call1 rfl rfl (q1 rfl _ _ hg2) (Tks.c Tk.h Tks.n) ?_
      rintro _ _ ⟨rfl, rfl⟩
      (refine GO.move rfl rfl ?_; refine GO.extract rfl rfl rfl ?_; refine GO.extract rfl rfl rfl ?_; refine GO.assign rfl rfl ?_; refine GO.assign rfl rfl ?_; refine GO.nil ?_; refine kthen_n ?_; refine G.seq ?_; refine G.region ?_; refine GO.move rfl rfl ?_; refine GO.neF rfl rfl rfl rfl ?_; refine GO.move rfl rfl ?_; refine GO.gT rfl rfl rfl ?_; refine GO.move rfl rfl ?_; refine GO.gT rfl rfl rfl ?_; refine GO.neF rfl rfl rfl rfl ?_; refine GO.pickF rfl rfl rfl ?_; refine GO.move rfl rfl ?_; refine GO.gT rfl rfl rfl ?_; refine GO.move rfl rfl ?_; refine GO.gT rfl rfl rfl ?_; refine GO.neF rfl rfl rfl rfl ?_; refine GO.pickF rfl rfl rfl ?_; refine GO.move rfl rfl ?_; refine GO.gT rfl rfl rfl ?_; refine GO.move rfl rfl ?_; refine GO.gT rfl rfl rfl ?_; refine GO.neF rfl rfl rfl rfl ?_; refine GO.pickF rfl rfl rfl ?_; refine GO.move rfl rfl ?_; refine GO.gT rfl rfl rfl ?_; refine GO.move rfl rfl ?_; refine GO.gT rfl rfl rfl ?_; refine GO.neF rfl rfl rfl rfl ?_; refine GO.pickF rfl rfl rfl ?_; refine GO.move rfl rfl ?_; refine GO.gT rfl rfl rfl ?_; refine GO.move rfl rfl ?_; refine GO.gT rfl rfl rfl ?_; refine GO.move rfl rfl ?_; refine GO.gT rfl rfl rfl ?_)
      refine GO.call2 rfl rfl rfl (q3 rfl _ _ _ _ hg2 hg1) (Tks.c Tk.h (Tks.c Tk.h Tks.n)) ?_
      rintro _ _ ⟨rfl, rfl⟩
      rw [z1]
      (refine GO.gT rfl rfl rfl ?_; refine GO.not rfl rfl ?_; refine GO.pickF rfl rfl rfl ?_; refine GO.move rfl rfl ?_; refine GO.gT rfl rfl rfl ?_; refine GO.move rfl rfl ?_; refine GO.gT rfl rfl rfl ?_; refine GO.move rfl rfl ?_; refine GO.gT rfl rfl rfl ?_; refine GO.binS rfl rfl rfl rfl ?_; refine GO.pickF rfl rfl rfl ?_; refine GO.move rfl rfl ?_; refine GO.gT rfl rfl (by assumption) ?_; refine GO.move rfl rfl ?_; refine GO.gT rfl rfl (by assumption) ?_; refine GO.strLen rfl rfl ?_; refine GO.gT rfl rfl (by assumption) ?_; refine GO.gti rfl rfl rfl ?_; refine GO.pickFa rfl rfl (by assumption) rfl ?_; refine GO.nil ?_; refine kthen_n ?_; refine G.condF rfl (by assumption) ?_; refine G.skip ?_; refine kthen_n ?_)
      refine ⟨(), trivial, ?_, ImpS.sb ?_⟩
      · (refine SubE.c rfl rfl ?_; exact SubE.n)
      · (skip; (refine Sb.s ?_; refine Sb.s ?_; exact Sb.r))
    · have c1 : decide ((er1 : Int) = 0) = false := decide_eq_false (by omega)
      (refine G.condF rfl (by assumption) ?_; refine G.skip ?_; refine kthen_n ?_)
      refine ⟨(), trivial, ?_, ImpS.sb ?_⟩
      · (refine SubE.c rfl rfl ?_; exact SubE.n)
      · (skip; (refine Sb.s ?_; exact Sb.r))
  intro _ _
  clear gr p1 p5 q1 q3
  (refine G.seq ?_; refine G.region ?_; refine GO.move rfl rfl ?_)
  refine GO.call1 rfl rfl (p2) Tks.n ?_
  rintro _ _ ⟨vn, ve, y1, rfl, hd, rfl⟩
  obtain ⟨an, cn, rfl⟩ := strsR_sl hd.n
  obtain ⟨ae, ce, rfl⟩ := edges_sl hd.e
  (refine GO.move rfl rfl ?_; refine GO.extract rfl rfl rfl ?_; refine GO.extract rfl rfl rfl ?_; refine GO.extract rfl rfl rfl ?_; refine GO.alloc rfl fun b16 => ?_; refine GO.storeW rfl rfl Tk.h ⟨rfl, rfl⟩ (by simp [Value.oneCell']) ?_; refine GO.assign rfl rfl ?_; refine GO.assign rfl rfl ?_; refine GO.nil ?_; refine kthen_n ?_; refine G.seq ?_; refine G.seq ?_; refine G.region ?_; refine GO.move rfl rfl ?_; refine GO.eqi rfl rfl rfl ?_; refine GO.nil ?_; refine kthen_n ?_)
  refine G.midE (σ := Unit) (fun _ => [(0, str s), (16, ptrV b16), (4, i64 (at2 : Nat)), (5, i64 (er2 : Nat))]) (fun _ => pt b16 (row [.slice an d.nodes.length cn, .slice ae d.edges.length ce] 33) :: y1 :: F) (fun _ => True) ?_ ?_
  · by_cases he : er2 = 172
    · have hl : ¬ 1048576 < s.length := hs.elim id fun h => absurd he h.2
      obtain ⟨w1, w2⟩ := ew he
      have hle := wrong_le w1
      have c1 : decide ((er2 : Int) = 172) = true := decide_eq_true (by omega)
      have hwr := wrong_spec s at2 hl w1
      (refine G.condT rfl (by assumption) ?_; refine G.seq ?_; refine G.region ?_; refine GO.move rfl rfl ?_; refine GO.move rfl rfl ?_; refine GO.move rfl rfl ?_; refine GO.strLen rfl rfl ?_)
      refine GO.min2 rfl rfl rfl ?_
      refine GO.max2 rfl rfl rfl ?_
      refine GO.strHi (b := at2) rfl rfl rfl ⟨by omega, hle⟩ ?_
      refine GO.call1 rfl rfl (p4) Tks.n ?_
      rintro _ _ ⟨vn2, ve2, y2, rfl, hd2, rfl⟩
      obtain ⟨an2, cn2, rfl⟩ := strsR_sl hd2.n
      obtain ⟨ae2, ce2, rfl⟩ := edges_sl hd2.e
      (refine GO.move rfl rfl ?_; refine GO.extract rfl rfl rfl ?_; refine GO.extract rfl rfl rfl ?_; refine GO.extract rfl rfl rfl ?_; refine GO.alloc rfl fun b17 => ?_; refine GO.storeW rfl rfl Tk.h ⟨rfl, rfl⟩ (by simp [Value.oneCell']) ?_; refine GO.assign rfl rfl ?_; refine GO.assign rfl rfl ?_; refine GO.nil ?_; refine kthen_n ?_; refine G.seq ?_; refine G.region ?_; refine GO.move rfl rfl ?_; refine GO.move rfl rfl ?_)
      refine GO.call2 rfl rfl rfl (hwr) Tks.n ?_
      rintro _ _ ⟨rfl, rfl⟩
      by_cases hf1 : f2 = 172
      · have hk := w2 hf1
        have c2 : decide ((f2 : Int) = 172) = true := decide_eq_true (by omega)
        have c3 : decide ((k2 : Int) ≠ (at2 : Int)) = false := decide_eq_false (by omega)
        (refine GO.not rfl rfl ?_; refine GO.move rfl rfl ?_; refine GO.gT rfl rfl rfl ?_; refine GO.move rfl rfl ?_; refine GO.gT rfl rfl rfl ?_; refine GO.eqi rfl rfl rfl ?_; refine GO.gT rfl rfl rfl ?_; refine GO.move rfl rfl ?_; refine GO.gT rfl rfl (by assumption) ?_; refine GO.move rfl rfl ?_; refine GO.gT rfl rfl (by assumption) ?_; refine GO.move rfl rfl ?_; refine GO.gT rfl rfl (by assumption) ?_; refine GO.nei rfl rfl rfl ?_; refine GO.gT rfl rfl rfl ?_; refine GO.pickTa rfl rfl (by assumption) rfl ?_; refine GO.pickF rfl rfl rfl ?_; refine GO.nil ?_; refine kthen_n ?_; refine G.condF rfl (by assumption) ?_; refine G.skip ?_; refine kthen_n ?_)
        refine ⟨(), trivial, ?_, ImpS.sb ?_⟩
        · (refine SubE.c rfl rfl ?_; refine SubE.c rfl rfl ?_; refine SubE.c rfl rfl ?_; refine SubE.c rfl rfl ?_; exact SubE.n)
        · ((refine Sb.c (Tk.t (Tk.t Tk.h)) ?_; refine Sb.c (Tk.t (Tk.t Tk.h)) ?_); (refine Sb.s ?_; refine Sb.s ?_; exact Sb.r))
      · have c2 : decide ((f2 : Int) = 172) = false := decide_eq_false (by omega)
        (refine GO.not rfl rfl ?_; refine GO.move rfl rfl ?_; refine GO.gT rfl rfl rfl ?_; refine GO.move rfl rfl ?_; refine GO.gT rfl rfl rfl ?_; refine GO.eqi rfl rfl rfl ?_; refine GO.gT rfl rfl rfl ?_; refine GO.move rfl rfl ?_; refine GO.gF rfl rfl rfl (by assumption) ?_; refine GO.gF rfl rfl rfl (by assumption) ?_; refine GO.gF rfl rfl rfl (by assumption) ?_; refine GO.gT rfl rfl rfl ?_; refine GO.pickFa rfl rfl (by assumption) rfl ?_; refine GO.pickF rfl rfl rfl ?_; refine GO.nil ?_; refine kthen_n ?_; refine G.condF rfl rfl ?_; refine G.skip ?_; refine kthen_n ?_)
        refine ⟨(), trivial, ?_, ImpS.sb ?_⟩
        · (refine SubE.c rfl rfl ?_; refine SubE.c rfl rfl ?_; refine SubE.c rfl rfl ?_; refine SubE.c rfl rfl ?_; exact SubE.n)
        · ((refine Sb.c (Tk.t (Tk.t Tk.h)) ?_; refine Sb.c (Tk.t (Tk.t Tk.h)) ?_); (refine Sb.s ?_; refine Sb.s ?_; exact Sb.r))
    · have c1 : decide ((er2 : Int) = 172) = false := decide_eq_false (by omega)
      (refine G.condF rfl (by assumption) ?_; refine G.skip ?_; refine kthen_n ?_)
      refine ⟨(), trivial, ?_, ImpS.sb ?_⟩
      · (refine SubE.c rfl rfl ?_; refine SubE.c rfl rfl ?_; refine SubE.c rfl rfl ?_; refine SubE.c rfl rfl ?_; exact SubE.n)
      · ((refine Sb.c Tk.h ?_; refine Sb.c Tk.h ?_); (exact Sb.r))
  intro _ _
  clear ew p4
  (refine G.seq ?_; refine G.seq ?_; refine G.region ?_; refine GO.move rfl rfl ?_; refine GO.eqi rfl rfl rfl ?_; refine GO.nil ?_; refine kthen_n ?_)
  refine G.midE (σ := Unit) (fun _ => [(0, str s)]) (fun _ => F) (fun _ => True) ?_ ?_
  · by_cases he : er2 = 0
    · obtain ⟨w1, w2, w3, w4⟩ := er he
      subst he w2 w3
      have c1 : decide (((0 : Nat) : Int) = 0) = true := rfl
      have z1 : decide (d = d) = true := decide_eq_true rfl
      have z2 : decide ((txe : List UInt8) ≠ txe) = false := decide_eq_false (fun h => h rfl)
      have z3 : decide ((2048 : Int) < (txe.length : Int)) = false := decide_eq_false (by omega)
      rw [w1] at q2
      (refine G.condT rfl rfl ?_; refine G.seq ?_; refine G.region ?_; refine GO.loadW rfl rfl rfl Tk.h rfl ?_)
      refine GO.call1 rfl rfl (q2 rfl _ _ _ hd) (Tks.c (Tk.t Tk.h) Tks.n) ?_
      rintro _ _ ⟨rfl, rfl⟩
      (refine GO.move rfl rfl ?_; refine GO.extract rfl rfl rfl ?_; refine GO.extract rfl rfl rfl ?_; refine GO.assign rfl rfl ?_; refine GO.assign rfl rfl ?_; refine GO.nil ?_; refine kthen_n ?_; refine G.seq ?_; refine G.region ?_; refine GO.move rfl rfl ?_)
      refine GO.call1 rfl rfl (p6) Tks.n ?_
      rintro _ _ ⟨vn2, ve2, y2, rfl, hd2, rfl⟩
      obtain ⟨an2, cn2, e2⟩ := strsR_sl hd2.n
      obtain ⟨ae2, ce2, e3⟩ := edges_sl hd2.e
      subst e2 e3
      (refine GO.move rfl rfl ?_; refine GO.extract rfl rfl rfl ?_; refine GO.extract rfl rfl rfl ?_; refine GO.extract rfl rfl rfl ?_; refine GO.alloc rfl fun b22 => ?_; refine GO.storeW rfl rfl Tk.h ⟨rfl, rfl⟩ (by simp [Value.oneCell']) ?_; refine GO.assign rfl rfl ?_; refine GO.assign rfl rfl ?_; refine GO.nil ?_; refine kthen_n ?_; refine G.seq ?_; refine G.region ?_; refine GO.loadW rfl rfl rfl Tk.h rfl ?_)
      refine GO.call1 rfl rfl (q2 rfl _ _ _ hd2) (Tks.c (Tk.t Tk.h) Tks.n) ?_
      rintro _ _ ⟨rfl, rfl⟩
      (refine GO.move rfl rfl ?_; refine GO.extract rfl rfl rfl ?_; refine GO.extract rfl rfl rfl ?_; refine GO.assign rfl rfl ?_; refine GO.assign rfl rfl ?_; refine GO.nil ?_; refine kthen_n ?_; refine G.seq ?_; refine G.region ?_; refine GO.move rfl rfl ?_; refine GO.neF rfl rfl rfl rfl ?_; refine GO.move rfl rfl ?_; refine GO.gT rfl rfl rfl ?_; refine GO.move rfl rfl ?_; refine GO.gT rfl rfl rfl ?_; refine GO.neF rfl rfl rfl rfl ?_; refine GO.pickF rfl rfl rfl ?_; refine GO.move rfl rfl ?_; refine GO.gT rfl rfl rfl ?_; refine GO.move rfl rfl ?_; refine GO.gT rfl rfl rfl ?_; refine GO.neF rfl rfl rfl rfl ?_; refine GO.pickF rfl rfl rfl ?_; refine GO.move rfl rfl ?_; refine GO.gT rfl rfl rfl ?_; refine GO.move rfl rfl ?_; refine GO.gT rfl rfl rfl ?_; refine GO.neF rfl rfl rfl rfl ?_; refine GO.pickF rfl rfl rfl ?_; refine GO.move rfl rfl ?_; refine GO.gT rfl rfl rfl ?_; refine GO.move rfl rfl ?_; refine GO.gT rfl rfl rfl ?_; refine GO.neF rfl rfl rfl rfl ?_; refine GO.pickF rfl rfl rfl ?_; refine GO.move rfl rfl ?_; refine GO.gT rfl rfl rfl ?_; refine GO.loadW rfl rfl rfl (Tk.t Tk.h) rfl ?_; refine GO.gT rfl rfl rfl ?_; refine GO.loadW rfl rfl rfl (Tk.t (Tk.t (Tk.t Tk.h))) rfl ?_; refine GO.gT rfl rfl rfl ?_)
      refine GO.call2 rfl rfl rfl (q4 rfl _ _ _ _ _ _ hd2 hd) (Tks.c Tk.h (Tks.c (Tk.t Tk.h) Tks.n)) ?_
      rintro _ _ ⟨rfl, rfl⟩
      rw [z1]
      (refine GO.gT rfl rfl rfl ?_; refine GO.not rfl rfl ?_; refine GO.pickF rfl rfl rfl ?_; refine GO.move rfl rfl ?_; refine GO.gT rfl rfl rfl ?_; refine GO.move rfl rfl ?_; refine GO.gT rfl rfl rfl ?_; refine GO.move rfl rfl ?_; refine GO.gT rfl rfl rfl ?_; refine GO.binS rfl rfl rfl rfl ?_; refine GO.pickF rfl rfl rfl ?_; refine GO.move rfl rfl ?_; refine GO.gT rfl rfl (by assumption) ?_; refine GO.move rfl rfl ?_; refine GO.gT rfl rfl (by assumption) ?_; refine GO.strLen rfl rfl ?_; refine GO.gT rfl rfl (by assumption) ?_; refine GO.gti rfl rfl rfl ?_; refine GO.pickFa rfl rfl (by assumption) rfl ?_; refine GO.nil ?_; refine kthen_n ?_; refine G.condF rfl (by assumption) ?_; refine G.skip ?_; refine kthen_n ?_)
      refine ⟨(), trivial, ?_, ImpS.sb ?_⟩
      · (refine SubE.c rfl rfl ?_; exact SubE.n)
      · (skip; (refine Sb.s ?_; refine Sb.s ?_; refine Sb.s ?_; refine Sb.s ?_; exact Sb.r))
    · have c1 : decide ((er2 : Int) = 0) = false := decide_eq_false (by omega)
      (refine G.condF rfl (by assumption) ?_; refine G.skip ?_; refine kthen_n ?_)
      refine ⟨(), trivial, ?_, ImpS.sb ?_⟩
      · (refine SubE.c rfl rfl ?_; exact SubE.n)
      · (skip; (refine Sb.s ?_; refine Sb.s ?_; exact Sb.r))
  intro _ _
  (refine G.seq ?_; refine G.region ?_)
  refine GO.call0 rfl (hR) Tks.n ?_
  rintro _ _ ⟨rfl, rfl⟩
  (refine GO.assign rfl rfl ?_; refine GO.nil ?_; refine kthen_n ?_; refine G.ret ?_)
  refine KF2.r1 rfl (RV.t rfl) ⟨rfl, rfl⟩ (ImpS.sb ?_)
  (skip; (exact Sb.r))
end Go.Proofs.YtpgfmfbpmkfbjaaGreat
namespace Go.Proofs.YtpgfmfbpmkfbjaaGreat
open Go
theorem kindB_blank {b : UInt8} (h : blankB b = true) : kindB b = 0 := by
  unfold blankB at h
  simp only [Bool.or_eq_true, decide_eq_true_eq] at h
  unfold kindB innerB
  rw [if_neg (by omega), if_neg (by omega), if_neg (by omega), if_neg (by omega), if_neg (by omega), if_neg (by omega), if_neg (by omega), if_neg (by omega), if_neg (by omega), if_neg (by omega), if_neg (by omega), if_neg]
  simp only [Bool.or_eq_true, Bool.and_eq_true, decide_eq_true_eq]
  omega
theorem kindB_inner {b : UInt8} (h : kindB b ≠ 0) (h3 : kindB b ≤ 3) : innerB b = true := by
  unfold kindB at h h3
  by_cases a1 : (b.toNat : Int) = 61
  · rw [if_pos a1] at h3; omega
  rw [if_neg a1] at h h3
  by_cases a2 : (b.toNat : Int) = 59
  · rw [if_pos a2] at h3; omega
  rw [if_neg a2] at h h3
  by_cases a3 : (b.toNat : Int) = 124
  · rw [if_pos a3] at h3; omega
  rw [if_neg a3] at h h3
  by_cases a4 : (b.toNat : Int) = 42
  · rw [if_pos a4] at h3; omega
  rw [if_neg a4] at h h3
  by_cases a5 : (b.toNat : Int) = 43
  · rw [if_pos a5] at h3; omega
  rw [if_neg a5] at h h3
  by_cases a6 : (b.toNat : Int) = 63
  · rw [if_pos a6] at h3; omega
  rw [if_neg a6] at h h3
  by_cases a7 : (b.toNat : Int) = 40
  · rw [if_pos a7] at h3; omega
  rw [if_neg a7] at h h3
  by_cases a8 : (b.toNat : Int) = 41
  · rw [if_pos a8] at h3; omega
  rw [if_neg a8] at h h3
  by_cases a9 : (b.toNat : Int) = 37
  · rw [if_pos a9] at h3; omega
  rw [if_neg a9] at h h3
  by_cases b1 : 65 ≤ (b.toNat : Int) ∧ (b.toNat : Int) ≤ 90
  · unfold innerB; simp only [Bool.or_eq_true, Bool.and_eq_true, decide_eq_true_eq]; omega
  rw [if_neg b1] at h h3
  by_cases b2 : 97 ≤ (b.toNat : Int) ∧ (b.toNat : Int) ≤ 122
  · unfold innerB; simp only [Bool.or_eq_true, Bool.and_eq_true, decide_eq_true_eq]; omega
  rw [if_neg b2] at h h3
  by_cases b3 : innerB b = true
  · exact b3
  · rw [if_neg b3] at h; exact absurd rfl h
/-- What the next mark is, if there is one. -/
theorem nextM_some {s : List UInt8} {i : Nat} (hk : (nextM s i).kind ≠ 0) : ∃ b, s[(nextM s i).place]? = some b ∧ kindB b = (nextM s i).kind ∧ ((nextM s i).kind ≤ 3 → (nextM s i).place + (nextM s i).text.length = wordN s ((nextM s i).place + 1)) ∧ (3 < (nextM s i).kind → (nextM s i).text = [b]) ∧ ((nextM s i).kind ≤ 3 → (nextM s i).text = b :: (s.drop ((nextM s i).place + 1)).takeWhile innerB) := by
  unfold nextM at hk ⊢
  cases hb : s[skipN s i]? with
  | none => rw [hb] at hk; exact absurd rfl hk
  | some b =>
    rw [hb] at hk
    dsimp only at hk ⊢
    by_cases h0 : kindB b = 0
    · rw [if_pos h0] at hk; exact absurd rfl hk
    rw [if_neg h0] at hk ⊢
    have hlt := (List.getElem?_eq_some_iff.1 hb).1
    by_cases h3 : kindB b ≤ 3
    · rw [if_pos h3] at hk ⊢
      have h2 : wordN s (skipN s i + 1) ≤ s.length := wordN_le (by omega)
      have h4 : skipN s i + 1 ≤ wordN s (skipN s i + 1) := by unfold wordN; omega
      refine ⟨b, hb, rfl, fun _ => ?_, fun h => absurd h (by dsimp only; omega), fun _ => ?_⟩
      · dsimp only
        rw [List.length_take, List.length_drop]
        omega
      · dsimp only
        rw [drop_at hb, show wordN s (skipN s i + 1) - skipN s i = ((s.drop (skipN s i + 1)).takeWhile innerB).length + 1 by unfold wordN; omega, List.take_succ_cons]
        congr 1
        exact (List.prefix_iff_eq_take.1 (List.takeWhile_prefix innerB)).symm
    · rw [if_neg h3] at hk ⊢
      refine ⟨b, hb, rfl, fun h => absurd h h3, fun _ => ?_, fun h => absurd h h3⟩
      dsimp only
      rw [drop_at hb]; rfl
theorem word_end {s : List UInt8} {i : Nat} {b : UInt8} (h : s[wordN s i]? = some b) : innerB b = false := by
  unfold wordN at h
  rw [← List.getElem?_drop] at h
  generalize s.drop i = l at h
  induction l with
  | nil => simp at h
  | cons x l ih =>
    rw [List.takeWhile_cons] at h
    split at h
    · rw [List.length_cons, List.getElem?_cons_succ] at h; exact ih h
    · rename_i hx
      simp at h
      subst h
      simpa using hx
theorem atM_all (s : List UInt8) : ∀ k, k ≤ (marksF s).length → ∃ p, AtM s k p ∧ ∀ j m, k = j + 1 → (marksF s)[j]? = some m → p = m.place + m.text.length
  | 0, _ => ⟨0, AtM.start s, fun j m h => by omega⟩
  | k + 1, hk => by
    obtain ⟨p, hp, _⟩ := atM_all s k (by omega)
    have hk0 : (nextM s p).kind ≠ 0 := fun h => by have := hp.stop h; omega
    obtain ⟨h1, h2, _⟩ := hp.next hk0
    refine ⟨_, h2, fun j m hj hm => ?_⟩
    obtain rfl : j = k := by omega
    rw [h1] at hm
    cases hm; rfl
/-- A mark of a text. -/
theorem marks_at {s : List UInt8} {k : Nat} {m : MarkD} (h : (marksF s)[k]? = some m) : ∃ p, p ≤ s.length ∧ nextM s p = m ∧ m.kind ≠ 0 ∧ ∀ j m', k = j + 1 → (marksF s)[j]? = some m' → p = m'.place + m'.text.length := by
  have hlt := (List.getElem?_eq_some_iff.1 h).1
  obtain ⟨p, hp, hq⟩ := atM_all s k (by omega)
  have hk0 : (nextM s p).kind ≠ 0 := fun h => by have := hp.stop h; omega
  have h1 := (hp.next hk0).1
  rw [h] at h1
  cases h1
  exact ⟨p, hp.1, rfl, hk0, hq⟩
/-- Two words in a row do not touch. -/
theorem words_apart {s : List UInt8} {k : Nat} {m m' : MarkD} (h : (marksF s)[k]? = some m) (h' : (marksF s)[k + 1]? = some m') (h3 : m.kind ≤ 3) (h3' : m'.kind ≤ 3) : m.place + m.text.length < m'.place := by
  obtain ⟨p, hp, rfl, hk, _⟩ := marks_at h
  obtain ⟨p', hp', rfl, hk', hpp⟩ := marks_at h'
  have e := hpp k _ rfl h
  subst e
  have hle := (nextM_le hp').1
  obtain ⟨b, hb, hkb, he, _, _⟩ := nextM_some hk
  obtain ⟨b', hb', hkb', _, _, _⟩ := nextM_some hk'
  refine Nat.lt_of_le_of_ne hle fun hne => ?_
  rw [← hne, he h3] at hb'
  have := word_end hb'
  rw [kindB_inner (by omega) (by omega)] at this
  cases this
theorem place_byte {s : List UInt8} {k : Nat} {m : MarkD} (h : (marksF s)[k]? = some m) : ∃ b, s[m.place]? = some b ∧ blankB b = false := by
  obtain ⟨p, hp, rfl, hk, _⟩ := marks_at h
  obtain ⟨b, hb, hkb, _⟩ := nextM_some hk
  refine ⟨b, hb, ?_⟩
  cases hbl : blankB b with
  | false => rfl
  | true => exact absurd (kindB_blank hbl) (by omega)
theorem marks_drop {s : List UInt8} {k : Nat} (h : k < (marksF s).length) : (marksF s).drop k = (marksF (s.drop (placeAt (marksF s) (badF s) k))).map (shiftM (placeAt (marksF s) (badF s) k)) := by
  have hple := placeAt_le s k
  obtain ⟨h1, h2⟩ := scan_from s (s.length + 1) 0 k (s.length + 1) (Nat.zero_le _) (by omega) h (by omega)
  change scanL s (s.length + 1) (placeAt (marksF s) (badF s) k) = (marksF s).drop k at h1
  generalize placeAt (marksF s) (badF s) k = a at *
  rw [← h1]
  have h3 : scanL s (s.length + 1) a = (scanL (s.drop a) (s.length + 1) 0).map (shiftM a) := (scan_drop s a (s.length + 1) 0).1
  rw [h3]
  congr 1
  exact (scan_fuel (s.drop a) _ _ 0 (Nat.zero_le _) (by rw [List.length_drop]; omega) (by omega)).1
theorem wrongOK_place (s : List UInt8) (k : Nat) : WrongOK s (placeAt (marksF s) (badF s) k) := by
  by_cases hk : k < (marksF s).length
  · obtain ⟨m, hm⟩ : ∃ m, (marksF s)[k]? = some m := ⟨_, List.getElem?_eq_getElem hk⟩
    obtain ⟨c1, c2⟩ := marks_cut s (j := k) (by omega)
    have hd := marks_drop hk
    obtain ⟨b, hb, hbl⟩ := place_byte hm
    have hple := placeAt_le s k
    have hpm : placeAt (marksF s) (badF s) k = m.place := placeAt_some hm
    rw [drop_at hm] at hd
    rw [hpm] at c1 c2 hd hple ⊢
    refine .mid b hb hbl ?_ ?_
    · rw [c2, List.length_take]; omega
    · intro en m2 h1 h2 h3
      rw [c1] at h1
      have hm2 : (marksF (s.drop m.place))[0]? = some m2 := by
        unfold scM at h2
        split at h2
        · cases h2
        · exact h2
      have h0 := drop_at hm2
      rw [List.drop_zero] at h0
      rw [h0, List.map_cons] at hd
      injection hd with e1 _
      have ek : m2.kind = m.kind := by rw [e1]; rfl
      have ep : m.place = m2.place + m.place := by
        have := congrArg MarkD.place e1
        exact this
      refine ⟨by omega, ?_⟩
      by_cases h4 : 3 < en.kind
      · exact .inl h4
      · right
        rw [List.length_take, List.getElem?_take] at h1
        by_cases hk0 : k = 0
        · subst hk0; simp at h1
        · have e2 : min k (marksF s).length - 1 = k - 1 := by omega
          rw [e2, if_pos (by omega)] at h1
          obtain ⟨k, rfl⟩ : ∃ j, k = j + 1 := ⟨k - 1, by omega⟩
          exact words_apart h1 hm (by omega) (by omega)
  · rw [placeAt_none (by omega)]
    by_cases hb : badF s < s.length
    · exact .bad hb rfl
    · have := badF_le s
      exact .fin (by omega)
end Go.Proofs.YtpgfmfbpmkfbjaaGreat
namespace Go.Proofs.YtpgfmfbpmkfbjaaGreat
open Go
theorem here_take {ms : List MarkD} {e e' j i : Nat} (h : i < j) (hj : j ≤ ms.length) : hereM (ms.take j) e' i = hereM ms e i := by
  have hi : i < ms.length := by omega
  unfold hereM
  rw [List.getElem?_take, if_pos h, List.getElem?_eq_getElem hi]
theorem here_stop {ms : List MarkD} {e' j i : Nat} (h : j ≤ i) : hereM (ms.take j) e' i = ⟨0, e', []⟩ := hereM_none (by rw [List.length_take]; omega)
theorem readE_err {ms : List MarkD} {e : Nat} : ∀ (f k : Nat) (g : GraphD) (p : Nat), k ≤ ms.length → readE ms e f k g = .error p → ∃ j, k ≤ j ∧ j ≤ ms.length ∧ p = placeAt ms e j ∧ ∀ f' p', readE (ms.take j) p f' k g = .error p' → p' = p
  | 0, _, _, _, _, h => by cases h
  | f + 1, k, g, p, hk, h => by
    have hlen : ∀ j, j ≤ ms.length → (ms.take j).length = j := fun j hj => by rw [List.length_take]; omega
    rw [readE] at h
    by_cases c0 : k = ms.length
    · rw [if_pos c0] at h; cases h
    rw [if_neg c0] at h
    by_cases c1 : wordM (hereM ms e k) = false
    · rw [if_pos c1] at h
      injection h with h
      refine ⟨k, Nat.le_refl _, hk, by rw [← h, hereM_place], fun f' p' h' => ?_⟩
      cases f' with
      | zero => cases h'
      | succ f' => rw [readE, if_pos (hlen k hk).symm] at h'; cases h'
    rw [if_neg c1] at h
    have hw : wordM (hereM ms e k) = true := by simpa using c1
    have hlt := wordM_lt hw
    by_cases c2 : (hereM ms e (k + 1)).kind = 5
    · rw [if_pos c2] at h
      have hlt1 := hereM_lt (ms := ms) (e := e) (k := k + 1) (by omega)
      obtain ⟨j, h1, h2, h3, h4⟩ := readE_err f (k + 2) _ p (by omega) h
      refine ⟨j, by omega, h2, h3, fun f' p' h' => ?_⟩
      cases f' with
      | zero => cases h'
      | succ f' =>
        rw [readE, hlen j h2, if_neg (by omega), here_take (e := e) (by omega) h2, if_neg c1, here_take (e := e) (by omega) h2, if_pos c2] at h'
        exact h4 f' p' h'
    rw [if_neg c2] at h
    by_cases c3 : (hereM ms e (k + 1)).kind ≠ 2
    · rw [if_pos c3] at h
      injection h with h
      have hpp : placeAt ms e (k + 1) = p := by rw [← h, hereM_place]
      refine ⟨k + 1, by omega, by omega, hpp.symm, fun f' p' h' => ?_⟩
      cases f' with
      | zero => cases h'
      | succ f' =>
        rw [readE, hlen _ (by omega), if_neg (by omega), here_take (e := e) (by omega) (by omega), if_neg c1, here_stop (Nat.le_refl _), if_neg (show ¬ (0 : Nat) = 5 by decide), if_pos (show (0 : Nat) ≠ 2 by decide)] at h'
        injection h' with h'
        exact h'.symm
    rw [if_neg c3] at h
    have hlt1 := hereM_lt (ms := ms) (e := e) (k := k + 1) (by omega)
    by_cases c4 : wordM (hereM ms e (k + 2)) = false
    · rw [if_pos c4] at h
      injection h with h
      have hpp : placeAt ms e (k + 2) = p := by rw [← h, hereM_place]
      refine ⟨k + 2, by omega, by omega, hpp.symm, fun f' p' h' => ?_⟩
      cases f' with
      | zero => cases h'
      | succ f' =>
        rw [readE, hlen _ (by omega), if_neg (by omega), here_take (e := e) (by omega) (by omega), if_neg c1, here_take (e := e) (by omega) (by omega), if_neg c2, if_neg c3, here_stop (Nat.le_refl _), if_pos (by rfl)] at h'
        injection h' with h'
        exact h'.symm
    rw [if_neg c4] at h
    have hw2 : wordM (hereM ms e (k + 2)) = true := by simpa using c4
    have hlt2 := wordM_lt hw2
    by_cases c5 : (hereM ms e (k + 3)).kind ≠ 5
    · rw [if_pos c5] at h
      injection h with h
      have hpp : placeAt ms e (k + 3) = p := by rw [← h, hereM_place]
      refine ⟨k + 3, by omega, by omega, hpp.symm, fun f' p' h' => ?_⟩
      cases f' with
      | zero => cases h'
      | succ f' =>
        rw [readE, hlen _ (by omega), if_neg (by omega), here_take (e := e) (by omega) (by omega), if_neg c1, here_take (e := e) (by omega) (by omega), if_neg c2, if_neg c3, here_take (e := e) (by omega) (by omega), if_neg c4, here_stop (Nat.le_refl _), if_pos (show (0 : Nat) ≠ 5 by decide)] at h'
        injection h' with h'
        exact h'.symm
    rw [if_neg c5] at h
    have hlt3 := hereM_lt (ms := ms) (e := e) (k := k + 3) (by omega)
    obtain ⟨j, h1, h2, h3, h4⟩ := readE_err f (k + 4) _ p (by omega) h
    refine ⟨j, by omega, h2, h3, fun f' p' h' => ?_⟩
    cases f' with
    | zero => cases h'
    | succ f' =>
      rw [readE, hlen j h2, if_neg (by omega), here_take (e := e) (by omega) h2, if_neg c1, here_take (e := e) (by omega) h2, if_neg c2, if_neg c3, here_take (e := e) (by omega) h2, if_neg c4, here_take (e := e) (by omega) h2, if_neg c5] at h'
      exact h4 f' p' h'
theorem capsF_ne (g : GraphD) : capsF g ≠ 172 := by
  unfold capsF
  split
  · decide
  split
  · decide
  split
  · decide
  split <;> decide
theorem ofF_ne (g : GraphD) : (ofF g).2 ≠ 172 := by
  unfold ofF
  split
  · unfold madeF
    split
    · show (0 : Nat) ≠ 172; decide
    · exact capsF_ne _
  · decide
/-- The text up to a wrong place is wrong there, if anywhere. -/
theorem parseE_cut {s : List UInt8} (h : (parseE s).2.2 = 172) : WrongOK s (parseE s).2.1 ∧ ((parseE (s.take (parseE s).2.1)).2.2 = 172 → (parseE (s.take (parseE s).2.1)).2.1 = (parseE s).2.1) := by
  have hE : ∀ t : List UInt8, parseE t = if 2048 < t.length then (⟨[], []⟩, 0, 3) else
      match readE (marksF t) (badF t) ((marksF t).length + 1) 0 ⟨[], []⟩ with
      | .error p => (⟨[], []⟩, p, 172)
      | .ok g => if badF t < t.length then (⟨[], []⟩, badF t, 172) else ((ofF g).1, 0, (ofF g).2) := fun t => rfl
  by_cases hl : 2048 < s.length
  · rw [hE, if_pos hl] at h; cases h
  have hs : parseE s = match readE (marksF s) (badF s) ((marksF s).length + 1) 0 ⟨[], []⟩ with
      | .error p => (⟨[], []⟩, p, 172)
      | .ok g => if badF s < s.length then (⟨[], []⟩, badF s, 172) else ((ofF g).1, 0, (ofF g).2) := by rw [hE, if_neg hl]
  rw [hs] at h ⊢
  cases hr : readE (marksF s) (badF s) ((marksF s).length + 1) 0 ⟨[], []⟩ with
  | error p =>
    dsimp only
    obtain ⟨j, _, h2, h3, h4⟩ := readE_err _ 0 _ p (Nat.zero_le _) hr
    obtain ⟨c1, c2⟩ := marks_cut s (j := j) h2
    have hpl := placeAt_le s j
    rw [← h3] at c1 c2 hpl
    refine ⟨by rw [h3]; exact wrongOK_place s j, ?_⟩
    rw [hE, if_neg (by rw [List.length_take]; omega), c1, c2]
    cases hr2 : readE ((marksF s).take j) p (((marksF s).take j).length + 1) 0 ⟨[], []⟩ with
    | error p' => intro _; exact h4 _ p' hr2
    | ok g =>
      dsimp only
      rw [if_neg (by rw [List.length_take]; omega)]
      intro h5
      exact absurd h5 (ofF_ne g)
  | ok g =>
    rw [hr] at h
    dsimp only at h ⊢
    by_cases hb : badF s < s.length
    · rw [if_pos hb]
      dsimp only
      obtain ⟨c1, c2⟩ := marks_all s
      refine ⟨.bad hb rfl, ?_⟩
      rw [hE, if_neg (by rw [List.length_take]; omega), c1, c2, hr]
      dsimp only
      rw [if_neg (by rw [List.length_take]; omega)]
      intro h5
      exact absurd h5 (ofF_ne g)
    · rw [if_neg hb] at h
      exact absurd h (ofF_ne g)
end Go.Proofs.YtpgfmfbpmkfbjaaGreat
namespace Go.Proofs.YtpgfmfbpmkfbjaaGreat
open Go
abbrev Tok := Nat × List UInt8
def kt (m : MarkD) : Tok := (m.kind, m.text)
inductive LexR : List UInt8 → List Tok → Prop where
  | nil : LexR [] []
  | blank {b : UInt8} {l : List UInt8} {ts : List Tok} (h : blankB b = true) (r : LexR l ts) : LexR (b :: l) ts
  | word {b : UInt8} {w l : List UInt8} {ts : List Tok} (h0 : kindB b ≠ 0) (h3 : kindB b ≤ 3) (hw : w.all innerB = true) (hl : ∀ c ∈ l.head?, innerB c = false) (r : LexR l ts) : LexR (b :: (w ++ l)) ((kindB b, b :: w) :: ts)
  | sign {b : UInt8} {l : List UInt8} {ts : List Tok} (h : 3 < kindB b) (r : LexR l ts) : LexR (b :: l) ((kindB b, [b]) :: ts)
theorem LexR.app {a b : List UInt8} {ts us : List Tok} (h : LexR a ts) (k : LexR b us) (hj : ∀ c ∈ a.getLast?, innerB c = true → ∀ d ∈ b.head?, innerB d = false) : LexR (a ++ b) (ts ++ us) := by
  induction h with
  | nil => exact k
  | @blank x l ts hx r ih =>
    refine .blank hx (ih fun c hc => ?_)
    refine hj c ?_
    cases l with
    | nil => cases hc
    | cons y l => rw [List.getLast?_cons_cons]; exact hc
  | @sign x l ts hx r ih =>
    refine .sign hx (ih fun c hc => ?_)
    refine hj c ?_
    cases l with
    | nil => cases hc
    | cons y l => rw [List.getLast?_cons_cons]; exact hc
  | @word x w l ts h0 h3 hw hl r ih =>
    have e : x :: (w ++ l) ++ b = x :: (w ++ (l ++ b)) := by rw [List.cons_append, List.append_assoc]
    rw [e]
    refine .word h0 h3 hw ?_ (ih fun c hc => ?_)
    · cases l with
      | cons y l => exact hl
      | nil =>
        intro d hd
        rw [List.nil_append] at hd
        rw [List.append_nil] at hj
        have hne : ((x :: w).getLast?) = some ((x :: w).getLast (by simp)) := List.getLast?_eq_some_getLast (by simp)
        refine hj _ hne ?_ d hd
        have hm := List.getLast_mem (l := x :: w) (by simp)
        rcases List.mem_cons.1 hm with h | h
        · rw [h]; exact kindB_inner h0 h3
        · exact List.all_eq_true.1 hw _ h
    · refine hj c ?_
      cases l with
      | nil => cases hc
      | cons y l =>
        have : (x :: (w ++ y :: l)).getLast? = (y :: l).getLast? := by
          rw [← List.cons_append]
          rw [List.getLast?_append]
          rw [hc]; rfl
        rw [this]; exact hc
theorem takeWhile_pre {f : UInt8 → Bool} : ∀ {w l : List UInt8}, w.all f = true → (∀ c ∈ l.head?, f c = false) → (w ++ l).takeWhile f = w
  | [], [], _, _ => rfl
  | [], c :: l, _, h => by rw [List.nil_append, List.takeWhile_cons, if_neg (by rw [h c rfl]; decide)]
  | x :: w, l, h, h' => by
    rw [List.all_cons, Bool.and_eq_true] at h
    rw [List.cons_append, List.takeWhile_cons, if_pos h.1, takeWhile_pre h.2 h']
theorem nextM_skip {s : List UInt8} {i i' : Nat} (h : skipN s i = skipN s i') : nextM s i = nextM s i' := by unfold nextM; rw [h]
theorem LexR.scan {l : List UInt8} {ts : List Tok} (h : LexR l ts) (s : List UInt8) : ∀ (i f : Nat), s.drop i = l → i ≤ s.length → s.length - i < f → (scanL s f i).map kt = ts ∧ scanE s f i = s.length := by
  induction h with
  | nil =>
    intro i f hd hi hf
    have hie : i = s.length := by
      have := congrArg List.length hd
      rw [List.length_drop, List.length_nil] at this
      omega
    obtain ⟨f, rfl⟩ : ∃ g, f = g + 1 := ⟨f - 1, by omega⟩
    have hn : nextM s i = ⟨0, i, []⟩ := by
      have hs : skipN s i = i := run_end (by omega)
      unfold nextM
      rw [hs, List.getElem?_eq_none (by omega)]
    obtain ⟨e1, e2⟩ := scan_stop (s := s) (i := i) f (by rw [hn])
    rw [e1, e2, hn]
    exact ⟨rfl, hie⟩
  | @blank b l ts hb r ih =>
    intro i f hd hi hf
    have hlt : i < s.length := by
      have := congrArg List.length hd
      rw [List.length_drop, List.length_cons] at this
      omega
    have hg : s[i]? = some b := by
      have := congrArg (·[0]?) hd
      simpa [List.getElem?_drop] using this
    have hd2 : s.drop (i + 1) = l := by
      have := drop_at hg
      rw [hd] at this
      injection this with _ h
      exact h.symm
    have hn : nextM s i = nextM s (i + 1) := nextM_skip (by unfold skipN; exact (run_step hg hb).symm)
    obtain ⟨k1, k2⟩ := ih (i + 1) f hd2 (by omega) (by omega)
    obtain ⟨f, rfl⟩ : ∃ g, f = g + 1 := ⟨f - 1, by omega⟩
    simp only [scanL, scanE] at k1 k2 ⊢
    rw [hn]
    exact ⟨k1, k2⟩
  | @word b w l ts h0 h3 hw hl r ih =>
    intro i f hd hi hf
    have hlen := congrArg List.length hd
    rw [List.length_drop, List.length_cons, List.length_append] at hlen
    have hg : s[i]? = some b := by
      have := congrArg (·[0]?) hd
      simpa [List.getElem?_drop] using this
    have hd2 : s.drop (i + 1) = w ++ l := by
      have := drop_at hg
      rw [hd] at this
      injection this with _ h
      exact h.symm
    have hbl : blankB b = false := by
      cases h : blankB b with
      | false => rfl
      | true => exact absurd (kindB_blank h) h0
    have hs : skipN s i = i := run_stop hg hbl
    have hwn : wordN s (i + 1) = i + 1 + w.length := by
      unfold wordN
      rw [hd2, takeWhile_pre hw hl]
    have hn : nextM s i = ⟨kindB b, i, b :: w⟩ := by
      unfold nextM
      rw [hs, hg]
      dsimp only
      rw [if_neg h0, if_pos h3, hwn, hd, show i + 1 + w.length - i = w.length + 1 by omega, List.take_succ_cons, List.take_left]
    obtain ⟨f, rfl⟩ : ∃ g, f = g + 1 := ⟨f - 1, by omega⟩
    obtain ⟨e1, e2⟩ := scan_go (s := s) (i := i) f (by rw [hn]; exact h0)
    rw [e1, e2, hn]
    have hd3 : s.drop (i + (b :: w).length) = l := by
      rw [List.length_cons, show i + (w.length + 1) = i + 1 + w.length by omega, ← List.drop_drop, hd2, List.drop_left]
    obtain ⟨k1, k2⟩ := ih (i + (b :: w).length) f hd3 (by rw [List.length_cons]; omega) (by rw [List.length_cons]; omega)
    exact ⟨by rw [List.map_cons, k1]; rfl, k2⟩
  | @sign b l ts h3 r ih =>
    intro i f hd hi hf
    have hlen := congrArg List.length hd
    rw [List.length_drop, List.length_cons] at hlen
    have hg : s[i]? = some b := by
      have := congrArg (·[0]?) hd
      simpa [List.getElem?_drop] using this
    have hd2 : s.drop (i + 1) = l := by
      have := drop_at hg
      rw [hd] at this
      injection this with _ h
      exact h.symm
    have hbl : blankB b = false := by
      cases h : blankB b with
      | false => rfl
      | true => exact absurd (kindB_blank h) (by omega)
    have hs : skipN s i = i := run_stop hg hbl
    have hn : nextM s i = ⟨kindB b, i, [b]⟩ := by
      unfold nextM
      rw [hs, hg]
      dsimp only
      rw [if_neg (by omega), if_neg (by omega), hd]; rfl
    obtain ⟨f, rfl⟩ : ∃ g, f = g + 1 := ⟨f - 1, by omega⟩
    obtain ⟨e1, e2⟩ := scan_go (s := s) (i := i) f (by rw [hn]; show kindB b ≠ 0; omega)
    rw [e1, e2, hn]
    obtain ⟨k1, k2⟩ := ih (i + 1) f hd2 (by omega) (by omega)
    exact ⟨by rw [List.map_cons]; rw [show (⟨kindB b, i, [b]⟩ : MarkD).place + (⟨kindB b, i, [b]⟩ : MarkD).text.length = i + 1 from rfl, k1]; rfl, k2⟩
theorem LexR.marks {s : List UInt8} {ts : List Tok} (h : LexR s ts) : (marksF s).map kt = ts ∧ badF s = s.length := h.scan s 0 (s.length + 1) rfl (Nat.zero_le _) (by omega)
/-- A name. -/
def NameOK (n : List UInt8) : Prop := n ≠ [] ∧ n.all innerB = true
def kindN (n : List UInt8) : Nat := match n with | [] => 0 | b :: _ => kindB b
theorem innerB_kind {b : UInt8} (h : innerB b = true) : kindB b ≠ 0 ∧ kindB b ≤ 3 := by
  have h' := h
  unfold innerB at h'
  simp only [Bool.or_eq_true, Bool.and_eq_true, decide_eq_true_eq] at h'
  unfold kindB
  rw [if_neg (by omega), if_neg (by omega), if_neg (by omega), if_neg (by omega), if_neg (by omega), if_neg (by omega), if_neg (by omega), if_neg (by omega), if_neg (by omega)]
  by_cases b1 : 65 ≤ (b.toNat : Int) ∧ (b.toNat : Int) ≤ 90
  · rw [if_pos b1]; omega
  rw [if_neg b1]
  by_cases b2 : 97 ≤ (b.toNat : Int) ∧ (b.toNat : Int) ≤ 122
  · rw [if_pos b2]; omega
  rw [if_neg b2, if_pos h]; omega
theorem kindN_ok {n : List UInt8} (h : NameOK n) : kindN n ≠ 0 ∧ kindN n ≤ 3 := by
  match n, h with
  | b :: w, h =>
    have := h.2
    rw [List.all_cons, Bool.and_eq_true] at this
    exact innerB_kind this.1
theorem LexR.name {n : List UInt8} (h : NameOK n) : LexR n [(kindN n, n)] := by
  match n, h with
  | b :: w, h =>
    have h2 := h.2
    rw [List.all_cons, Bool.and_eq_true] at h2
    obtain ⟨h0, h3⟩ := innerB_kind h2.1
    have := LexR.word (b := b) (w := w) (l := []) h0 h3 h2.2 (fun c hc => by cases hc) .nil
    rw [List.append_nil] at this
    exact this
end Go.Proofs.YtpgfmfbpmkfbjaaGreat
namespace Go.Proofs.YtpgfmfbpmkfbjaaGreat
open Go
section
variable {α : Type} [DecidableEq α] {cf : α → α → Int}
omit [DecidableEq α] in
theorem risL_pair (h : TOrd cf) : ∀ {l : List α}, risL cf l = true → l.Pairwise fun x y => cf x y < 0
  | [], _ => .nil
  | [x], _ => List.pairwise_singleton _ _
  | x :: y :: r, hl => by
    rw [risL] at hl
    split at hl
    · cases hl
    rename_i h0
    have hp := risL_pair h hl
    refine List.pairwise_cons.2 ⟨fun z hz => ?_, hp⟩
    rcases List.mem_cons.1 hz with rfl | hz
    · omega
    · exact h.trans x y z (by omega) ((List.pairwise_cons.1 hp).1 z hz)
omit [DecidableEq α] in
theorem pair_risL : ∀ {l : List α}, (l.Pairwise fun x y => cf x y < 0) → risL cf l = true
  | [], _ => rfl
  | [x], _ => rfl
  | x :: y :: r, hl => by
    have h1 := List.pairwise_cons.1 hl
    have h2 := h1.1 y (by simp)
    rw [risL, if_neg (by omega)]
    exact pair_risL h1.2
omit [DecidableEq α] in
theorem pair_uniq (h : TOrd cf) : ∀ {l k : List α}, (l.Pairwise fun x y => cf x y < 0) → (k.Pairwise fun x y => cf x y < 0) → (∀ x, x ∈ l ↔ x ∈ k) → l = k
  | [], [], _, _, _ => rfl
  | [], y :: k, _, _, hm => absurd ((hm y).2 (by simp)) (by simp)
  | x :: l, [], _, _, hm => absurd ((hm x).1 (by simp)) (by simp)
  | x :: l, y :: k, hl, hk, hm => by
    have l1 := List.pairwise_cons.1 hl
    have k1 := List.pairwise_cons.1 hk
    have irr : ∀ a, ¬ cf a a < 0 := fun a => by rw [h.self a]; omega
    have hxy : x = y := by
      have h1 := (hm x).1 (by simp)
      have h2 := (hm y).2 (by simp)
      rcases List.mem_cons.1 h1 with h1 | h1
      · exact h1
      rcases List.mem_cons.1 h2 with h2 | h2
      · exact h2.symm
      have a1 := k1.1 x h1
      have a2 := l1.1 y h2
      exact absurd (h.trans _ _ _ a1 a2) (irr y)
    subst hxy
    congr 1
    refine pair_uniq h l1.2 k1.2 fun z => ?_
    constructor
    · intro hz
      rcases List.mem_cons.1 ((hm z).1 (List.mem_cons_of_mem _ hz)) with rfl | h2
      · exact absurd (l1.1 z hz) (irr z)
      · exact h2
    · intro hz
      rcases List.mem_cons.1 ((hm z).2 (List.mem_cons_of_mem _ hz)) with rfl | h2
      · exact absurd (k1.1 z hz) (irr z)
      · exact h2
theorem compG_mem : ∀ (r : List α) (x y : α), y ∈ x :: compG x r ↔ y ∈ x :: r
  | [], _, _ => Iff.rfl
  | z :: r, x, y => by
    simp only [compG]
    split
    · rename_i h
      subst h
      rw [compG_mem r z y]
      simp only [List.mem_cons]
      constructor
      · rintro (h | h)
        · exact .inl h
        · exact .inr (.inr h)
      · rintro (h | h | h)
        · exact .inl h
        · exact .inl h
        · exact .inr h
    · rw [List.mem_cons, compG_mem r z y, List.mem_cons (a := y) (b := x)]
theorem compL_mem {l : List α} {y : α} : y ∈ compL l ↔ y ∈ l := by
  cases l with
  | nil => exact Iff.rfl
  | cons x r => exact compG_mem r x y
theorem compG_pair (h : TOrd cf) : ∀ (r : List α) (x : α), ((x :: r).Pairwise fun x y => ¬ cf y x < 0) → (x :: compG x r).Pairwise fun x y => cf x y < 0
  | [], _, _ => List.pairwise_singleton _ _
  | z :: r, x, hp => by
    have h1 := List.pairwise_cons.1 hp
    simp only [compG]
    split
    · rename_i e
      subst e
      exact compG_pair h r z h1.2
    · rename_i e
      have ih := compG_pair h r z h1.2
      refine List.pairwise_cons.2 ⟨fun y hy => ?_, ih⟩
      have hzx := h1.1 z (by simp)
      have a1 := h.anti x z
      have hxz : cf x z < 0 := by
        by_cases h0 : cf x z = 0
        · exact absurd (h.eq _ _ h0).symm e
        · omega
      rcases List.mem_cons.1 hy with rfl | hy
      · exact hxz
      · exact h.trans _ _ _ hxz ((List.pairwise_cons.1 ih).1 y hy)
theorem compL_pair (h : TOrd cf) (l : List α) : (compL (sortB cf l)).Pairwise fun x y => cf x y < 0 := by
  have hs : (sortB cf l).Pairwise fun x y => ¬ cf y x < 0 := by
    have := List.pairwise_mergeSort (le := fun x y => !(Go.Proofs.ltOf cf) y x) (fun a b c h1 h2 => by
      simp only [Go.Proofs.ltOf, Bool.not_eq_true', decide_eq_false_iff_not] at h1 h2 ⊢
      intro h3
      have a1 := h.anti a b
      have a2 := h.anti b c
      by_cases e1 : cf a b = 0
      · rw [h.eq a b e1] at h3; exact h2 h3
      by_cases e2 : cf b c = 0
      · rw [← h.eq b c e2] at h3; exact h1 h3
      exact h1 (h.trans b c a (by omega) h3)) (fun a b => by
      simp only [Go.Proofs.ltOf, Bool.or_eq_true, Bool.not_eq_true', decide_eq_false_iff_not]
      have := h.anti a b
      omega) l
    refine this.imp fun {a b} h1 => ?_
    simpa [Go.Proofs.ltOf] using h1
  cases hc : sortB cf l with
  | nil => exact .nil
  | cons x r => rw [hc] at hs; exact compG_pair h r x hs
/-- A list that is rising already is its own sorted list; and so is whatever has its members. -/
theorem sorted_same (h : TOrd cf) {l k : List α} (hl : l.Pairwise fun x y => cf x y < 0) (hm : ∀ x, x ∈ k ↔ x ∈ l) : compL (sortB cf k) = l :=
  pair_uniq h (compL_pair h k) hl fun x => by rw [compL_mem, sortB_mem]; exact hm x
end
end Go.Proofs.YtpgfmfbpmkfbjaaGreat
namespace Go.Proofs.YtpgfmfbpmkfbjaaGreat
open Go
theorem nameF_ok {n : List UInt8} (h : nameF n = true) : NameOK n := by
  unfold nameF at h
  simp only [Bool.and_eq_true, decide_eq_true_eq] at h
  exact ⟨fun e => by rw [e] at h; exact absurd h.1 (by decide), h.2.2⟩
theorem labelF_ok {n : List UInt8} (h : labelF n = true) : NameOK n ∧ kindN n = 2 := by
  match n, h with
  | b :: r, h =>
    simp only [labelF, Bool.and_eq_true] at h
    refine ⟨nameF_ok h.1, ?_⟩
    have h2 := h.2
    unfold lowerB at h2
    simp only [Bool.and_eq_true, decide_eq_true_eq] at h2
    show kindB b = 2
    unfold kindB
    rw [if_neg (by omega), if_neg (by omega), if_neg (by omega), if_neg (by omega), if_neg (by omega), if_neg (by omega), if_neg (by omega), if_neg (by omega), if_neg (by omega), if_neg (by omega), if_pos (by omega)]
def tokN (n : List UInt8) : List Tok := [(kindN n, n), (5, [59])]
def tokE (x : EdgeD) : List Tok := [(kindN x.src, x.src), (2, x.lab), (kindN x.dst, x.dst), (5, [59])]
theorem lex_end : LexR [32, 59, 10] [(5, [59])] := .blank (by decide) (.sign (b := 59) (by decide) (.blank (by decide) .nil))
theorem lex_sp : LexR [32] [] := .blank (by decide) .nil
theorem lex_lineN {n : List UInt8} (h : NameOK n) : LexR (lineN n) (tokN n) := (LexR.name h).app lex_end (fun c _ _ d hd => by cases hd; decide)
theorem lex_lineE {x : EdgeD} (h1 : NameOK x.src) (h2 : NameOK x.lab ∧ kindN x.lab = 2) (h3 : NameOK x.dst) : LexR (lineE x) (tokE x) := by
  have hsp : ∀ {a : List UInt8} {ts : List Tok}, LexR a ts → LexR (a ++ [32]) ts := fun h => by
    have := h.app lex_sp (fun c _ _ d hd => by cases hd; decide)
    rwa [List.append_nil] at this
  have hl : ∀ (a : List UInt8), ∀ c ∈ (a ++ [32]).getLast?, innerB c = true → ∀ d : UInt8, innerB d = false := fun a c hc hi => by
    rw [List.getLast?_append] at hc
    cases hc
    exact absurd hi (by decide)
  have a1 := (hsp (LexR.name h1)).app (LexR.name h2.1) (fun c hc hi d _ => hl _ c hc hi d)
  have a2 := (hsp a1).app (LexR.name h3) (fun c hc hi d _ => hl _ c hc hi d)
  have a3 := a2.app lex_end (fun c _ _ d hd => by cases hd; decide)
  rw [h2.2] at a3
  exact a3
theorem lex_flat {α : Type} {line : α → List UInt8} {tok : α → List Tok} : ∀ {l : List α}, (∀ x ∈ l, LexR (line x) (tok x)) → (∀ x, ∃ a, line x = a ++ [10]) → LexR (l.flatMap line) (l.flatMap tok)
  | [], _, _ => .nil
  | x :: l, h, hn => by
    rw [List.flatMap_cons, List.flatMap_cons]
    refine (h x (by simp)).app (lex_flat (fun y hy => h y (by simp [hy])) hn) fun c hc hi => ?_
    obtain ⟨a, e⟩ := hn x
    rw [e, List.getLast?_append] at hc
    cases hc
    exact absurd hi (by decide)
theorem here_kt {ms : List MarkD} {e k a : Nat} {t : List UInt8} (h : (ms.map kt)[k]? = some (a, t)) : (hereM ms e k).kind = a ∧ (hereM ms e k).text = t := by
  rw [List.getElem?_map] at h
  cases hm : ms[k]? with
  | none => rw [hm] at h; cases h
  | some m =>
    rw [hm] at h
    rw [hereM_some hm]
    cases h
    exact ⟨rfl, rfl⟩
theorem wordM_of {m : MarkD} (h0 : m.kind ≠ 0) (h3 : m.kind ≤ 3) : wordM m = true := by
  unfold wordM
  rw [Bool.and_eq_true, decide_eq_true_eq, decide_eq_true_eq]
  omega
theorem getk {l : List Tok} {k i : Nat} {ts r : List Tok} {x : Tok} (h : l.drop k = ts ++ r) (hx : ts[i]? = some x) : l[k + i]? = some x := by
  have hi := (List.getElem?_eq_some_iff.1 hx).1
  rw [← List.getElem?_drop, h, List.getElem?_append_left hi]
  exact hx
theorem readE_ns {ms : List MarkD} {e : Nat} : ∀ (ns : List (List UInt8)) (f k : Nat) (g : GraphD) (r : List Tok), (∀ n ∈ ns, NameOK n) → (ms.map kt).drop k = ns.flatMap tokN ++ r → readE ms e (f + ns.length) k g = readE ms e f (k + 2 * ns.length) ⟨g.nodes ++ ns, g.edges⟩
  | [], f, k, g, r, _, _ => by rw [List.append_nil]; rfl
  | n :: ns, f, k, g, r, hn, hd => by
    obtain ⟨k0, k3⟩ := kindN_ok (hn n (by simp))
    rw [List.flatMap_cons, List.append_assoc] at hd
    obtain ⟨a1, a2⟩ := here_kt (e := e) (getk (i := 0) hd rfl)
    obtain ⟨b1, b2⟩ := here_kt (e := e) (getk (i := 1) hd rfl)
    rw [Nat.add_zero] at a1 a2
    have hlt := hereM_lt (ms := ms) (e := e) (k := k) (by rw [a1]; exact k0)
    rw [List.length_cons, ← Nat.add_assoc, readE, if_neg (by omega), if_neg (by rw [wordM_of (by rw [a1]; exact k0) (by rw [a1]; exact k3)]; decide), if_pos b1, a2]
    have hd2 : (ms.map kt).drop (k + 2) = ns.flatMap tokN ++ r := by
      rw [← List.drop_drop, hd]; rfl
    rw [readE_ns ns f (k + 2) _ r (fun m hm => hn m (by simp [hm])) hd2, List.append_assoc]
    congr 1
    omega
theorem readE_es {ms : List MarkD} {e : Nat} : ∀ (es : List EdgeD) (f k : Nat) (g : GraphD) (r : List Tok), (∀ x ∈ es, okE x = true) → (ms.map kt).drop k = es.flatMap tokE ++ r → readE ms e (f + es.length) k g = readE ms e f (k + 4 * es.length) ⟨g.nodes, g.edges ++ es⟩
  | [], f, k, g, r, _, _ => by rw [List.append_nil]; rfl
  | x :: es, f, k, g, r, hn, hd => by
    have hx := hn x (by simp)
    unfold okE at hx
    simp only [Bool.and_eq_true] at hx
    obtain ⟨k0, k3⟩ := kindN_ok (nameF_ok hx.1)
    obtain ⟨j0, j3⟩ := kindN_ok (nameF_ok hx.2.2)
    rw [List.flatMap_cons, List.append_assoc] at hd
    obtain ⟨a1, a2⟩ := here_kt (e := e) (getk (i := 0) hd rfl)
    obtain ⟨b1, b2⟩ := here_kt (e := e) (getk (i := 1) hd rfl)
    obtain ⟨c1, c2⟩ := here_kt (e := e) (getk (i := 2) hd rfl)
    obtain ⟨d1, d2⟩ := here_kt (e := e) (getk (i := 3) hd rfl)
    rw [Nat.add_zero] at a1 a2
    have hlt := hereM_lt (ms := ms) (e := e) (k := k) (by rw [a1]; exact k0)
    rw [List.length_cons, ← Nat.add_assoc, readE, if_neg (by omega), if_neg (by rw [wordM_of (by rw [a1]; exact k0) (by rw [a1]; exact k3)]; decide), if_neg (by rw [b1]; decide), if_neg (by rw [b1]; decide), if_neg (by rw [wordM_of (by rw [c1]; exact j0) (by rw [c1]; exact j3)]; decide), if_neg (by rw [d1]; decide), a2, b2, c2]
    have hd2 : (ms.map kt).drop (k + 4) = es.flatMap tokE ++ r := by
      rw [← List.drop_drop, hd]; rfl
    rw [readE_es es f (k + 4) _ r (fun m hm => hn m (by simp [hm])) hd2, List.append_assoc]
    congr 1
    omega
theorem flat_tok {α : Type} {tok : α → List Tok} {c : Nat} (h : ∀ x, (tok x).length = c) : ∀ l : List α, (l.flatMap tok).length = c * l.length
  | [] => by simp
  | x :: l => by rw [List.flatMap_cons, List.length_append, h, flat_tok h l, List.length_cons, Nat.mul_add]; omega
/-! ## Which nodes are lone -/
theorem met_zero (n : List UInt8) : ∀ (es : List EdgeD) (acc : List SN), getN n (es.foldl metStep acc) = 0 ↔ getN n acc = 0 ∧ n ∉ endsE es
  | [], acc => by simp [endsE]
  | x :: es, acc => by
    rw [List.foldl_cons, met_zero n es]
    have he : endsE (x :: es) = [x.src, x.dst] ++ endsE es := by unfold endsE; rw [List.flatMap_cons]
    rw [he]
    unfold metStep
    rw [getN_put]
    simp only [List.cons_append, List.nil_append, List.mem_cons, not_or]
    constructor
    · rintro ⟨h1, h2⟩
      by_cases c1 : n = x.dst
      · rw [if_pos c1] at h1; omega
      rw [if_neg c1, getN_put] at h1
      by_cases c2 : n = x.src
      · rw [if_pos c2] at h1; omega
      rw [if_neg c2] at h1
      exact ⟨h1, c2, c1, h2⟩
    · rintro ⟨h1, c2, c1, h2⟩
      rw [if_neg c1, getN_put, if_neg c2]
      exact ⟨h1, h2⟩
theorem mem_lone {g : GraphD} {n : List UInt8} : n ∈ loneG g ↔ n ∈ g.nodes ∧ n ∉ endsE g.edges := by
  unfold loneG loneL metE
  rw [List.mem_filter]
  constructor
  · rintro ⟨h1, h2⟩
    have h2 := of_decide_eq_true h2
    have := (met_zero n g.edges []).1 (by omega)
    exact ⟨h1, this.2⟩
  · rintro ⟨h1, h2⟩
    have := (met_zero n g.edges []).2 ⟨rfl, h2⟩
    exact ⟨h1, decide_eq_true (by omega)⟩
theorem getN_metF (n : List UInt8) : ∀ (l : List (List UInt8)) (i : Nat) (acc : List SN), (n ∈ l ∨ getN n acc ≠ 0) → getN n (metF i acc l) ≠ 0
  | [], i, acc, h => by
    rcases h with h | h
    · cases h
    · exact h
  | m :: l, i, acc, h => by
    rw [metF]
    refine getN_metF n l (i + 1) _ ?_
    by_cases hm : n = m
    · right; rw [getN_put, if_pos hm]; omega
    · rcases h with h | h
      · rcases List.mem_cons.1 h with h | h
        · exact absurd h hm
        · exact .inl h
      · right; rw [getN_put, if_neg hm]; exact h
/-! ## The graph that was made -/
theorem mem_ends {es : List EdgeD} {n : List UInt8} : n ∈ endsE es ↔ ∃ x ∈ es, n = x.src ∨ n = x.dst := by
  constructor
  · exact endsE_mem
  · rintro ⟨x, hx, h⟩
    unfold endsE
    exact List.mem_flatMap.2 ⟨x, hx, by simpa using h⟩
theorem made_back {t : GraphD} (hn : namedG t = true) (hc : capsF (madeG t) = 0) : checkE (madeG t) = 0 ∧ parseE (printE (madeG t)) = (madeG t, 0, 0) ∧ (printE (madeG t)).length ≤ 2048 := by
  have hN : ∀ n, n ∈ (madeG t).nodes ↔ n ∈ t.nodes ∨ n ∈ endsE t.edges := fun n => by
    show n ∈ compL (sortB cmpS _) ↔ _
    rw [compL_mem, sortB_mem, List.mem_append]
  have hE : ∀ x, x ∈ (madeG t).edges ↔ x ∈ t.edges := fun x => by
    show x ∈ compL (sortB orderE _) ↔ _
    rw [compL_mem, sortB_mem]
  have pN : (madeG t).nodes.Pairwise fun x y => cmpS x y < 0 := compL_pair cmpS_ord _
  have pE : (madeG t).edges.Pairwise fun x y => orderE x y < 0 := compL_pair orderE_ord _
  generalize madeG t = G at *
  unfold namedG at hn
  rw [Bool.and_eq_true, List.all_eq_true, List.all_eq_true] at hn
  have hends : ∀ n, n ∈ endsE G.edges ↔ n ∈ endsE t.edges := fun n => by
    rw [mem_ends, mem_ends]
    constructor <;> rintro ⟨x, hx, h⟩
    · exact ⟨x, (hE x).1 hx, h⟩
    · exact ⟨x, (hE x).2 hx, h⟩
  have okEs : ∀ x ∈ G.edges, okE x = true := fun x hx => hn.2 x ((hE x).1 hx)
  have okNs : ∀ n ∈ G.nodes, nameF n = true := fun n hx => by
    rcases (hN n).1 hx with h | h
    · exact hn.1 n h
    · obtain ⟨x, hx, h⟩ := mem_ends.1 h
      have := hn.2 x hx
      unfold okE at this
      simp only [Bool.and_eq_true] at this
      rcases h with rfl | rfl
      · exact this.1
      · exact this.2.2
  have hna : namedG G = true := by
    unfold namedG
    rw [Bool.and_eq_true, List.all_eq_true, List.all_eq_true]
    exact ⟨okNs, okEs⟩
  have hfo : formG G = true := by
    unfold formG
    rw [pair_risL pN, pair_risL pE, Bool.true_and, Bool.true_and, List.all_eq_true]
    intro x hx
    have i1 := getN_metF x.src G.nodes 0 [] (.inl ((hN _).2 (.inr ((hends _).1 (mem_ends.2 ⟨x, hx, .inl rfl⟩)))))
    have i2 := getN_metF x.dst G.nodes 0 [] (.inl ((hN _).2 (.inr ((hends _).1 (mem_ends.2 ⟨x, hx, .inr rfl⟩)))))
    unfold inE
    rw [decide_eq_false (by omega), decide_eq_false (by omega)]
    rfl
  have hck : checkE G = 0 := by unfold checkE; rw [if_pos hfo, if_pos hna]; exact hc
  have hpr : printE G = textE G := by unfold printE; rw [if_pos hck]
  have hlen : (textE G).length ≤ 2048 := by
    unfold capsF at hc
    split at hc
    · cases hc
    split at hc
    · cases hc
    split at hc
    · cases hc
    split at hc
    · cases hc
    · omega
  rw [hpr]
  refine ⟨hck, ?_, hlen⟩
  have hlone : ∀ n ∈ loneG G, nameF n = true := fun n hx => okNs n (mem_lone.1 hx).1
  have hlex : LexR (textE G) ((loneG G).flatMap tokN ++ G.edges.flatMap tokE) := by
    unfold textE
    refine (lex_flat (fun n hx => lex_lineN (nameF_ok (hlone n hx))) (fun n => ⟨n ++ [32, 59], by unfold lineN; rw [List.append_assoc]; rfl⟩)).app (lex_flat (fun x hx => ?_) (fun x : EdgeD => ⟨x.src ++ [32] ++ x.lab ++ [32] ++ x.dst ++ [32, 59], by unfold lineE; simp only [List.append_assoc]; rfl⟩)) ?_
    · have := okEs x hx
      unfold okE at this
      simp only [Bool.and_eq_true] at this
      exact lex_lineE (nameF_ok this.1) (labelF_ok this.2.1) (nameF_ok this.2.2)
    · intro c hc hi
      cases hl : loneG G with
      | nil => rw [hl] at hc; cases hc
      | cons a l =>
        rcases List.eq_nil_or_concat (loneG G) with h0 | ⟨l', a', h0⟩
        · rw [h0] at hl; cases hl
        · rw [h0, List.concat_eq_append, List.flatMap_append, List.getLast?_append, List.flatMap_cons, List.flatMap_nil, List.append_nil] at hc
          unfold lineN at hc
          rw [List.getLast?_append] at hc
          cases hc
          exact absurd hi (by decide)
  obtain ⟨m1, m2⟩ := hlex.marks
  have hml : (marksF (textE G)).length = 2 * (loneG G).length + 4 * G.edges.length := by
    have := congrArg List.length m1
    rw [List.length_map, List.length_append, flat_tok (c := 2) (fun _ => rfl), flat_tok (c := 4) (fun _ => rfl)] at this
    exact this
  have hrd : readE (marksF (textE G)) (badF (textE G)) ((marksF (textE G)).length + 1) 0 ⟨[], []⟩ = .ok ⟨loneG G, G.edges⟩ := by
    generalize hf : (marksF (textE G)).length + 1 = f
    obtain ⟨f', rfl⟩ : ∃ f', f = (f' + 1 + G.edges.length) + (loneG G).length := ⟨(loneG G).length + 3 * G.edges.length, by omega⟩
    rw [readE_ns (loneG G) _ 0 _ (G.edges.flatMap tokE) (fun n hx => nameF_ok (hlone n hx)) (by rw [List.drop_zero]; exact m1)]
    rw [readE_es G.edges _ _ _ [] okEs (by
      rw [m1, List.append_nil, Nat.zero_add, ← flat_tok (tok := tokN) (c := 2) (fun _ => rfl), List.drop_left])]
    rw [readE, if_pos (by omega)]
    rfl
  have hme : madeG ⟨loneG G, G.edges⟩ = G := by
    have e1 : compL (sortB orderE G.edges) = G.edges := sorted_same orderE_ord pE (fun x => Iff.rfl)
    have e2 : compL (sortB cmpS (loneG G ++ endsE G.edges)) = G.nodes := sorted_same cmpS_ord pN (fun n => by
      rw [List.mem_append, mem_lone]
      constructor
      · rintro (h | h)
        · exact h.1
        · exact (hN n).2 (.inr ((hends n).1 h))
      · intro h
        by_cases h1 : n ∈ endsE G.edges
        · exact .inr h1
        · exact .inl ⟨h, h1⟩)
    show GraphD.mk _ _ = _
    rw [e1, e2]
  have hno : namedG ⟨loneG G, G.edges⟩ = true := by
    unfold namedG
    rw [Bool.and_eq_true, List.all_eq_true, List.all_eq_true]
    exact ⟨hlone, okEs⟩
  unfold parseE
  rw [if_neg (by omega), hrd, m2]
  dsimp only
  rw [if_neg (Nat.lt_irrefl _)]
  unfold ofF
  rw [if_pos hno]
  unfold madeF
  rw [hme, if_pos hc]
/-- A graph that is read. -/
theorem parseE_back {s : List UInt8} (h : (parseE s).2.2 = 0) : checkE (parseE s).1 = 0 ∧ parseE (printE (parseE s).1) = ((parseE s).1, 0, 0) ∧ (parseE s).2.1 = 0 ∧ (printE (parseE s).1).length ≤ 2048 := by
  have key : ∃ t, namedG t = true ∧ capsF (madeG t) = 0 ∧ parseE s = (madeG t, 0, 0) := by
    unfold parseE at h ⊢
    split at h
    · cases h
    rename_i hl
    rw [if_neg hl]
    cases hr : readE (marksF s) (badF s) ((marksF s).length + 1) 0 ⟨[], []⟩ with
    | error p => rw [hr] at h; cases h
    | ok g =>
      rw [hr] at h
      dsimp only at h ⊢
      split at h
      · cases h
      rename_i h1
      rw [if_neg h1]
      dsimp only at h
      unfold ofF at h ⊢
      split at h
      · rename_i h2
        rw [if_pos h2]
        unfold madeF at h ⊢
        split at h
        · rename_i h3
          rw [if_pos h3]
          exact ⟨g, h2, h3, rfl⟩
        · rename_i h3; exact absurd h h3
      · cases h
  obtain ⟨t, h1, h2, h3⟩ := key
  obtain ⟨k1, k2, k3⟩ := made_back h1 h2
  rw [h3]
  exact ⟨k1, k2, rfl, k3⟩
end Go.Proofs.YtpgfmfbpmkfbjaaGreat
namespace Go.Proofs.YtpgfmfbpmkfbjaaGreat
open Go
theorem kAt_take {ms : List MarkD} {i j : Nat} (h : i < j) : kAt (ms.take j) i = kAt ms i := by
  unfold kAt; rw [List.getElem?_take, if_pos h]
theorem kAt_stop {ms : List MarkD} {i j : Nat} (h : j ≤ i) : kAt (ms.take j) i = 0 := kAt_none (by rw [List.length_take]; omega)
/-- Where it goes wrong: from the place on, within the marks. -/
def ErrIn (ms : List MarkD) (u : Nat → PR) : Prop := ∀ k i, k ≤ ms.length → u k = .error i → k ≤ i ∧ i ≤ ms.length
theorem atomF_err {ms : List MarkD} {ex : Nat → PR} (hg : Goes ms ex) (he : ErrIn ms ex) : ErrIn ms (atomF ms ex) := by
  intro k i hk h
  unfold atomF at h
  cases hm : ms[k]? with
  | none => rw [hm] at h; cases h; exact ⟨Nat.le_refl _, hk⟩
  | some m =>
    have hlt := (List.getElem?_eq_some_iff.1 hm).1
    rw [hm] at h
    dsimp only at h
    split at h
    · cases h
    split at h
    · cases h
    split at h
    · cases h
    split at h
    · cases hx : ex (k + 1) with
      | error j =>
        rw [hx] at h; cases h
        have := he _ _ hlt hx
        omega
      | ok z =>
        obtain ⟨l, j⟩ := z
        rw [hx] at h
        dsimp only at h
        obtain ⟨h1, h2, _⟩ := hg _ _ _ hx
        split at h
        · cases h
        · cases h; omega
    · cases h; omega
theorem atomF_begins {ms : List MarkD} {ex : Nat → PR} (hg : Goes ms ex) (he : ErrIn ms ex) {k i : Nat} (hk : k ≤ ms.length) (hb : beginsK (kAt ms k) = true) (h : atomF ms ex k = .error i) : k < i := by
  unfold atomF at h
  unfold kAt at hb
  cases hm : ms[k]? with
  | none => rw [hm] at hb; exact absurd hb (by decide)
  | some m =>
    have hlt := (List.getElem?_eq_some_iff.1 hm).1
    rw [hm] at h hb
    dsimp only at h hb
    split at h
    · cases h
    split at h
    · cases h
    split at h
    · cases h
    split at h
    · cases hx : ex (k + 1) with
      | error j =>
        rw [hx] at h; cases h
        have := he _ _ hlt hx
        omega
      | ok z =>
        obtain ⟨l, j⟩ := z
        rw [hx] at h
        dsimp only at h
        obtain ⟨h1, h2, _⟩ := hg _ _ _ hx
        split at h
        · cases h
        · cases h; omega
    · rename_i a1 a2 a3 a4
      exfalso
      unfold beginsK at hb
      simp only [Bool.or_eq_true, decide_eq_true_eq] at hb
      omega
theorem unitF_err {ms : List MarkD} {ex : Nat → PR} (hg : Goes ms ex) (he : ErrIn ms ex) : ErrIn ms (unitF ms ex) := by
  intro k i hk h
  unfold unitF at h
  cases ha : atomF ms ex k with
  | error j => rw [ha] at h; cases h; exact atomF_err hg he _ _ hk ha
  | ok z => rw [ha] at h; cases h
theorem unitF_begins {ms : List MarkD} {ex : Nat → PR} (hg : Goes ms ex) (he : ErrIn ms ex) {k i : Nat} (hk : k ≤ ms.length) (hb : beginsK (kAt ms k) = true) (h : unitF ms ex k = .error i) : k < i := by
  unfold unitF at h
  cases ha : atomF ms ex k with
  | error j => rw [ha] at h; cases h; exact atomF_begins hg he hk hb ha
  | ok z => rw [ha] at h; cases h
theorem manyL_err {ms : List MarkD} {u : Nat → PR} {go : Nat → Option Nat} (hu : Goes ms u) (he : ErrIn ms u) (hg : ∀ i j, go i = some j → i ≤ j ∧ j ≤ ms.length) : ∀ (f : Nat) (all : List NodeD) (n k i : Nat), k ≤ ms.length → manyL u go f all n k = .error i → k ≤ i ∧ i ≤ ms.length
  | 0, _, _, _, _, _, h => by cases h
  | f + 1, all, n, k, i, hk, h => by
    simp only [manyL] at h
    cases hgo : go k with
    | none => rw [hgo] at h; cases h
    | some j =>
      rw [hgo] at h
      dsimp only at h
      obtain ⟨g1, g2⟩ := hg _ _ hgo
      cases huj : u j with
      | error x =>
        rw [huj] at h; cases h
        have := he _ _ g2 huj
        omega
      | ok z =>
        obtain ⟨l, m⟩ := z
        rw [huj] at h
        dsimp only at h
        obtain ⟨k1, k2, _⟩ := hu _ _ _ huj
        have := manyL_err hu he hg f _ _ m i k2 h
        omega
theorem manyR_err {kind : Nat} {x : Except Nat ((List NodeD × Nat) × Nat)} {i : Nat} (h : manyR kind x = .error i) : x = .error i := by
  cases x with
  | error e => cases h; rfl
  | ok z => cases h
theorem manyR_ok {kind : Nat} {x : Except Nat ((List NodeD × Nat) × Nat)} {l : List NodeD} {k : Nat} (h : manyR kind x = .ok (l, k)) : ∃ all n, x = .ok ((all, n), k) ∧ l = if n = 1 then all else ⟨kind, [], n⟩ :: all := by
  match x, h with
  | .ok ((all, n), k'), h => cases h; exact ⟨all, n, rfl, rfl⟩
theorem goU_in {ms : List MarkD} {i j : Nat} (h : goU ms i = some j) : i ≤ j ∧ j ≤ ms.length := by
  have := goU_lt h
  unfold goU at h
  split at h
  · cases h; omega
  · cases h
theorem goA_in {ms : List MarkD} {i j : Nat} (h : goA ms i = some j) : i ≤ j ∧ j ≤ ms.length := by
  have := goA_lt h
  unfold goA at h
  split at h
  · cases h; omega
  · cases h
theorem partF_err {ms : List MarkD} {ex : Nat → PR} (hg : Goes ms ex) (he : ErrIn ms ex) : ErrIn ms (partF ms ex) := by
  intro k i hk h
  unfold partF at h
  cases hu : unitF ms ex k with
  | error j => rw [hu] at h; cases h; exact unitF_err hg he _ _ hk hu
  | ok z =>
    obtain ⟨l, j⟩ := z
    rw [hu] at h
    obtain ⟨h1, h2, _⟩ := unitF_goes hg _ _ _ hu
    have := manyL_err (unitF_goes hg) (unitF_err hg he) (fun _ _ => goU_in) _ _ _ _ _ h2 (manyR_err h)
    omega
theorem exprF_err (ms : List MarkD) : ∀ f, ErrIn ms (exprF ms f)
  | 0 => fun k i hk h => by cases h; exact ⟨Nat.le_refl _, hk⟩
  | f + 1 => fun k i hk h => by
    have hg := exprF_goes ms f
    have he := exprF_err ms f
    rw [exprF] at h
    cases hu : partF ms (exprF ms f) k with
    | error j => rw [hu] at h; cases h; exact partF_err hg he _ _ hk hu
    | ok z =>
      obtain ⟨l, j⟩ := z
      rw [hu] at h
      obtain ⟨h1, h2, _⟩ := partF_goes hg _ _ _ hu
      have := manyL_err (partF_goes hg) (partF_err hg he) (fun _ _ => goA_in) _ _ _ _ _ h2 (manyR_err h)
      omega
/-! ## The marks cut at a place -/
def CutAt (u u' : Nat → PR) (j k : Nat) : Prop := (∀ l k2, u k = .ok (l, k2) → k2 ≤ j → u' k = .ok (l, k2)) ∧ (∀ i, u k = .error i → i ≤ j → u' k = .error i)
section
variable {ms : List MarkD} {ex ex' : Nat → PR} {j k : Nat} (hj : j ≤ ms.length) (hg : Goes ms ex) (he : ErrIn ms ex)
include hj hg he
theorem atomF_cut (hk : k ≤ j) (hc : ∀ k2, k < k2 → k2 ≤ j → CutAt ex ex' j k2) : CutAt (atomF ms ex) (atomF (ms.take j) ex') j k := by
  by_cases hlt : k < j
  · have hm' : (ms.take j)[k]? = ms[k]? := by rw [List.getElem?_take, if_pos hlt]
    obtain ⟨m, hm⟩ : ∃ m, ms[k]? = some m := ⟨_, List.getElem?_eq_getElem (by omega)⟩
    obtain ⟨c1, c2⟩ := hc (k + 1) (by omega) (by omega)
    unfold CutAt atomF
    rw [hm', hm]
    dsimp only
    split
    · exact ⟨fun _ _ h _ => h, fun _ h _ => h⟩
    split
    · exact ⟨fun _ _ h _ => h, fun _ h _ => h⟩
    split
    · exact ⟨fun _ _ h _ => h, fun _ h _ => h⟩
    split
    · cases hx : ex (k + 1) with
      | error e =>
        refine ⟨fun _ _ h _ => (by cases h), fun i h hi => ?_⟩
        cases h
        rw [c2 _ hx hi]
      | ok z =>
        obtain ⟨l, j2⟩ := z
        dsimp only
        by_cases h11 : kAt ms j2 = 11
        · rw [if_pos h11]
          refine ⟨fun l' k2 h hk2 => ?_, fun i h _ => (by cases h)⟩
          cases h
          rw [c1 _ _ hx (by omega)]
          dsimp only
          rw [if_pos (by rw [kAt_take (by omega)]; exact h11)]
        · rw [if_neg h11]
          refine ⟨fun l' k2 h _ => (by cases h), fun i h hi => ?_⟩
          cases h
          rw [c1 _ _ hx hi]
          dsimp only
          rw [if_neg]
          by_cases hlt2 : j2 < j
          · rw [kAt_take hlt2]; exact h11
          · rw [kAt_stop (by omega)]; decide
    · exact ⟨fun _ _ h _ => h, fun _ h _ => h⟩
  · obtain rfl : k = j := by omega
    have hm' : (ms.take k)[k]? = none := List.getElem?_eq_none (by rw [List.length_take]; omega)
    refine ⟨fun l k2 h hk2 => ?_, fun i h hi => ?_⟩
    · have := (atomF_goes hg) _ _ _ h
      omega
    · have := atomF_err hg he _ _ hj h
      obtain rfl : i = k := by omega
      unfold atomF
      rw [hm']
theorem unitF_cut (hk : k ≤ j) (hc : ∀ k2, k < k2 → k2 ≤ j → CutAt ex ex' j k2) : CutAt (unitF ms ex) (unitF (ms.take j) ex') j k := by
  have post : ∀ (f f' : Nat) (l : List NodeD) (i : Nat), i ≤ (postF ms f l i).2 ∧ (ms.length ≤ i + f → j ≤ i + f' → (postF ms f l i).2 ≤ j → postF (ms.take j) f' l i = postF ms f l i) := by
    intro f
    induction f with
    | zero =>
      intro f' l i
      refine ⟨Nat.le_refl _, fun h1 h2 h3 => ?_⟩
      change i ≤ j at h3
      cases f' with
      | zero => rfl
      | succ f' =>
        have h0 : kAt (ms.take j) i = 0 := kAt_stop (by omega)
        simp only [postF]
        rw [if_neg (by omega), if_neg (by omega), if_neg (by omega)]
    | succ f ih =>
      intro f' l i
      have key : ∀ kd : Nat, kAt ms i ≠ 0 → (postF ms f (⟨kd, [], 1⟩ :: l) (i + 1)).2 ≤ j → ms.length ≤ i + (f + 1) → j ≤ i + f' → ∃ f2, f' = f2 + 1 ∧ kAt (ms.take j) i = kAt ms i ∧ postF (ms.take j) f2 (⟨kd, [], 1⟩ :: l) (i + 1) = postF ms f (⟨kd, [], 1⟩ :: l) (i + 1) := fun kd h0 h3 h1 h2 => by
        obtain ⟨a1, a2⟩ := ih (f' - 1) (⟨kd, [], 1⟩ :: l) (i + 1)
        exact ⟨f' - 1, by omega, kAt_take (by omega), a2 (by omega) (by omega) h3⟩
      simp only [postF]
      split
      · rename_i h7
        refine ⟨by have := (ih 0 (⟨6, [], 1⟩ :: l) (i + 1)).1; omega, fun h1 h2 h3 => ?_⟩
        obtain ⟨f2, rfl, e1, e2⟩ := key 6 (by omega) h3 h1 h2
        simp only [postF]
        rw [if_pos (by omega), e2]
      split
      · rename_i h7 h8
        refine ⟨by have := (ih 0 (⟨7, [], 1⟩ :: l) (i + 1)).1; omega, fun h1 h2 h3 => ?_⟩
        obtain ⟨f2, rfl, e1, e2⟩ := key 7 (by omega) h3 h1 h2
        simp only [postF]
        rw [if_neg (by omega), if_pos (by omega), e2]
      split
      · rename_i h7 h8 h9
        refine ⟨by have := (ih 0 (⟨8, [], 1⟩ :: l) (i + 1)).1; omega, fun h1 h2 h3 => ?_⟩
        obtain ⟨f2, rfl, e1, e2⟩ := key 8 (by omega) h3 h1 h2
        simp only [postF]
        rw [if_neg (by omega), if_neg (by omega), if_pos (by omega), e2]
      · rename_i h7 h8 h9
        refine ⟨Nat.le_refl _, fun h1 h2 h3 => ?_⟩
        change i ≤ j at h3
        cases f' with
        | zero => rfl
        | succ f' =>
          have e : kAt (ms.take j) i = kAt ms i ∨ kAt (ms.take j) i = 0 := by
            by_cases hlt : i < j
            · exact .inl (kAt_take hlt)
            · exact .inr (kAt_stop (by omega))
          simp only [postF]
          rw [if_neg (by omega), if_neg (by omega), if_neg (by omega)]
  obtain ⟨c1, c2⟩ := atomF_cut hj hg he hk hc
  unfold CutAt unitF
  cases ha : atomF ms ex k with
  | error e =>
    refine ⟨fun _ _ h _ => (by cases h), fun i h hi => ?_⟩
    cases h
    rw [c2 _ ha hi]
  | ok z =>
    obtain ⟨l, j2⟩ := z
    dsimp only
    refine ⟨fun l' k2 h hk2 => ?_, fun i h _ => (by cases h)⟩
    obtain ⟨p1, p2⟩ := post ms.length (ms.take j).length l j2
    have h' := Except.ok.inj h
    rw [h'] at p1 p2
    dsimp only at p1 p2
    rw [c1 _ _ ha (by omega)]
    dsimp only
    rw [p2 (by omega) (by rw [List.length_take]; omega) hk2]
omit hg he in
theorem manyL_cut {u u' : Nat → PR} {go go' : Nat → Option Nat} (hu : Goes ms u) (hE : ErrIn ms u) (hgo : ∀ i i', go i = some i' → i ≤ i' ∧ i' ≤ ms.length) (hgo' : ∀ i, i < j → go' i = go i) (hgs : ∀ i, j ≤ i → go' i = none) (hge : ∀ i i' e, go i = some i' → u i' = .error e → i < e) :
    ∀ (f f' : Nat) (all : List NodeD) (n i : Nat), i ≤ ms.length → ms.length ≤ i + f → j ≤ i + f' → (∀ k2, i ≤ k2 → k2 ≤ j → CutAt u u' j k2) →
      (∀ r k2, manyL u go f all n i = .ok (r, k2) → i ≤ k2 ∧ (k2 ≤ j → manyL u' go' f' all n i = .ok (r, k2))) ∧ (∀ e, manyL u go f all n i = .error e → e ≤ j → manyL u' go' f' all n i = .error e) := by
  intro f
  induction f with
  | zero =>
    intro f' all n i hi h1 h2 hc
    refine ⟨fun r k2 h => ?_, fun e h _ => (by cases h)⟩
    cases h
    refine ⟨Nat.le_refl _, fun hk2 => ?_⟩
    cases f' with
    | zero => rfl
    | succ f' => simp only [manyL]; rw [hgs _ (by omega)]
  | succ f ih =>
    intro f' all n i hi h1 h2 hc
    simp only [manyL]
    cases hgi : go i with
    | none =>
      dsimp only
      refine ⟨fun r k2 h => ?_, fun e h _ => (by cases h)⟩
      cases h
      refine ⟨Nat.le_refl _, fun hk2 => ?_⟩
      cases f' with
      | zero => rfl
      | succ f' =>
        simp only [manyL]
        have : go' i = none := by
          by_cases hlt : i < j
          · rw [hgo' _ hlt]; exact hgi
          · exact hgs _ (by omega)
        rw [this]
    | some i' =>
      dsimp only
      obtain ⟨g1, g2⟩ := hgo _ _ hgi
      cases hui : u i' with
      | error e0 =>
        dsimp only
        refine ⟨fun _ _ h => (by cases h), fun e h he2 => ?_⟩
        cases h
        have q1 := hge _ _ _ hgi hui
        have q2 := hE _ _ g2 hui
        obtain ⟨f', rfl⟩ : ∃ f2, f' = f2 + 1 := ⟨f' - 1, by omega⟩
        simp only [manyL]
        rw [hgo' _ (by omega), hgi]
        dsimp only
        rw [(hc i' g1 (by omega)).2 _ hui he2]
      | ok z =>
        obtain ⟨l, m⟩ := z
        dsimp only
        obtain ⟨k1, k3, _⟩ := hu _ _ _ hui
        have step : ∀ k2, k2 ≤ j → m ≤ k2 → ∃ f2, f' = f2 + 1 ∧ go' i = some i' ∧ u' i' = .ok (l, m) := fun k2 hk hm => by
          refine ⟨f' - 1, by omega, ?_, (hc i' g1 (by omega)).1 _ _ hui (by omega)⟩
          rw [hgo' _ (by omega)]; exact hgi
        have I := ih (f' - 1) (all ++ l) (n + 1) m k3 (by omega) (by omega) (fun k2 hk hk' => hc k2 (by omega) hk')
        refine ⟨fun r k2 h => ?_, fun e h he2 => ?_⟩
        · obtain ⟨q1, q2⟩ := I.1 r k2 h
          refine ⟨by omega, fun hk2 => ?_⟩
          obtain ⟨f2, rfl, e1, e2⟩ := step k2 hk2 q1
          simp only [manyL]
          rw [e1]
          dsimp only
          rw [e2]
          exact q2 hk2
        · have q0 := (manyL_err hu hE hgo f _ _ m e k3 h).1
          obtain ⟨f2, rfl, e1, e2⟩ := step e he2 q0
          simp only [manyL]
          rw [e1]
          dsimp only
          rw [e2]
          exact I.2 e h he2
omit hj hg he in
theorem goU_cut : (∀ i, i < j → goU (ms.take j) i = goU ms i) ∧ ∀ i, j ≤ i → goU (ms.take j) i = none := by
  refine ⟨fun i h => ?_, fun i h => ?_⟩
  · unfold goU; rw [kAt_take h]
  · unfold goU; rw [kAt_stop h, if_neg (by decide)]
omit hj hg he in
theorem goA_cut : (∀ i, i < j → goA (ms.take j) i = goA ms i) ∧ ∀ i, j ≤ i → goA (ms.take j) i = none := by
  refine ⟨fun i h => ?_, fun i h => ?_⟩
  · unfold goA; rw [kAt_take h]
  · unfold goA; rw [kAt_stop h, if_neg (by decide)]
theorem partF_cut (hk : k ≤ j) (hc : ∀ k2, k < k2 → k2 ≤ j → CutAt ex ex' j k2) : CutAt (partF ms ex) (partF (ms.take j) ex') j k := by
  obtain ⟨c1, c2⟩ := unitF_cut hj hg he hk hc
  unfold CutAt partF
  cases hu : unitF ms ex k with
  | error e =>
    dsimp only
    refine ⟨fun _ _ h _ => (by cases h), fun i h hi => ?_⟩
    cases h
    rw [c2 _ hu hi]
  | ok z =>
    obtain ⟨l, m⟩ := z
    dsimp only
    obtain ⟨h1, h2, _⟩ := unitF_goes hg _ _ _ hu
    have M := manyL_cut (ms := ms) (j := j) (u := unitF ms ex) (u' := unitF (ms.take j) ex') (go := goU ms) (go' := goU (ms.take j)) hj (unitF_goes hg) (unitF_err hg he) (fun _ _ => goU_in) goU_cut.1 goU_cut.2 (fun i i' e h h' => by
      have hi := goU_in h
      unfold goU at h
      split at h
      · rename_i hb
        cases h
        exact unitF_begins hg he hi.2 hb h'
      · cases h) ms.length (ms.take j).length l 1 m h2 (by omega) (by rw [List.length_take]; omega) (fun k2 hk2 hk3 => unitF_cut hj hg he hk3 (fun k3 hk4 hk5 => hc k3 (by omega) hk5))
    refine ⟨fun l' k2 h hk2 => ?_, fun i h hi => ?_⟩
    · obtain ⟨all, n, e1, e2⟩ := manyR_ok h
      obtain ⟨q1, q2⟩ := M.1 _ _ e1
      rw [c1 _ _ hu (by omega)]
      dsimp only
      rw [q2 hk2, e2]; rfl
    · have e1 := manyR_err h
      have q0 := manyL_err (unitF_goes hg) (unitF_err hg he) (fun _ _ => goU_in) _ _ _ _ _ h2 e1
      rw [c1 _ _ hu (by omega)]
      dsimp only
      rw [M.2 _ e1 hi]; rfl
end
theorem exprF_cut {ms : List MarkD} {j : Nat} (hj : j ≤ ms.length) : ∀ (f f' k : Nat), k ≤ j → ms.length < k + f → j < k + f' → CutAt (exprF ms f) (exprF (ms.take j) f') j k
  | 0, _, _, h, h1, _ => by omega
  | _ + 1, 0, _, h, _, h2 => by omega
  | f + 1, f' + 1, k, hk, h1, h2 => by
    have hg := exprF_goes ms f
    have he := exprF_err ms f
    have hc : ∀ k2, k < k2 → k2 ≤ j → CutAt (exprF ms f) (exprF (ms.take j) f') j k2 := fun k2 h3 h4 => exprF_cut hj f f' k2 h4 (by omega) (by omega)
    have P := fun k3 (h3 : k ≤ k3) (h4 : k3 ≤ j) => partF_cut hj hg he (ex' := exprF (ms.take j) f') h4 (fun k2 h5 h6 => hc k2 (by omega) h6)
    obtain ⟨c1, c2⟩ := P k (Nat.le_refl _) hk
    unfold CutAt
    rw [exprF, exprF]
    cases hu : partF ms (exprF ms f) k with
    | error e =>
      dsimp only
      refine ⟨fun _ _ h _ => (by cases h), fun i h hi => ?_⟩
      cases h
      rw [c2 _ hu hi]
    | ok z =>
      obtain ⟨l, m⟩ := z
      dsimp only
      obtain ⟨h3, h4, _⟩ := partF_goes hg _ _ _ hu
      have M := manyL_cut (ms := ms) (j := j) (u := partF ms (exprF ms f)) (u' := partF (ms.take j) (exprF (ms.take j) f')) (go := goA ms) (go' := goA (ms.take j)) hj (partF_goes hg) (partF_err hg he) (fun _ _ => goA_in) goA_cut.1 goA_cut.2 (fun i i' e h h' => by
        have hi := goA_in h
        have := partF_err hg he _ _ hi.2 h'
        unfold goA at h
        split at h
        · cases h; omega
        · cases h) ms.length (ms.take j).length l 1 m h4 (by omega) (by rw [List.length_take]; omega) (fun k2 hk2 hk3 => P k2 (by omega) hk3)
      refine ⟨fun l' k2 h hk2 => ?_, fun i h hi => ?_⟩
      · obtain ⟨all, n, e1, e2⟩ := manyR_ok h
        obtain ⟨q1, q2⟩ := M.1 _ _ e1
        rw [c1 _ _ hu (by omega)]
        dsimp only
        rw [q2 hk2, e2]; rfl
      · have e1 := manyR_err h
        have q0 := manyL_err (partF_goes hg) (partF_err hg he) (fun _ _ => goA_in) _ _ _ _ _ h4 e1
        rw [c1 _ _ hu (by omega)]
        dsimp only
        rw [M.2 _ e1 hi]; rfl
/-- The text up to a wrong place is wrong there, if anywhere. -/
theorem readF_cut {s : List UInt8} {l : List NodeD} {a er : Nat} (hl : ¬ 2048 < s.length) (h : readF s = (l, a, er)) (h0 : er ≠ 0) : er = 172 ∧ ∃ i, i ≤ (marksF s).length ∧ a = placeAt (marksF s) (badF s) i ∧ ∀ l' a' e', readF (s.take a) = (l', a', e') → e' = 0 ∨ (a' = a ∧ e' = 172) := by
  have hE : ∀ t : List UInt8, ¬ 2048 < t.length → readF t = match exprF (marksF t) ((marksF t).length + 1) 0 with
      | .error k => ([], placeAt (marksF t) (badF t) k, 172)
      | .ok (l, k) => if k < (marksF t).length ∨ badF t < t.length then ([], placeAt (marksF t) (badF t) k, 172) else (l, 0, 0) := fun t ht => by unfold readF; rw [if_neg ht]; rfl
  rw [hE s hl] at h
  cases hx : exprF (marksF s) ((marksF s).length + 1) 0 with
  | error i =>
    rw [hx] at h
    cases h
    obtain ⟨_, hi⟩ := exprF_err _ _ 0 i (Nat.zero_le _) hx
    have C := exprF_cut hi ((marksF s).length + 1) (i + 1) 0 (Nat.zero_le _) (by omega) (by omega)
    obtain ⟨c1, c2⟩ := marks_cut s (j := i) hi
    refine ⟨rfl, i, hi, rfl, fun l' a' e' h' => ?_⟩
    rw [hE _ (by rw [List.length_take]; omega), c1, c2, show ((marksF s).take i).length = i by rw [List.length_take]; omega, C.2 i hx (Nat.le_refl _)] at h'
    cases h'
    exact .inr ⟨placeAt_none (by rw [List.length_take]; omega), rfl⟩
  | ok z =>
    obtain ⟨l2, k⟩ := z
    rw [hx] at h
    dsimp only at h
    obtain ⟨_, hk, _⟩ := exprF_goes _ _ _ _ _ hx
    by_cases hc : k < (marksF s).length ∨ badF s < s.length
    · rw [if_pos hc] at h
      cases h
      have C := exprF_cut hk ((marksF s).length + 1) (k + 1) 0 (Nat.zero_le _) (by omega) (by omega)
      obtain ⟨c1, c2⟩ := marks_cut s (j := k) hk
      refine ⟨rfl, k, hk, rfl, fun l' a' e' h' => ?_⟩
      have hlt : (s.take (placeAt (marksF s) (badF s) k)).length = placeAt (marksF s) (badF s) k := by rw [List.length_take]; have := placeAt_le s k; omega
      rw [hE _ (by rw [List.length_take]; omega), c1, c2, show ((marksF s).take k).length = k by rw [List.length_take]; omega, C.1 l2 k hx (Nat.le_refl _)] at h'
      dsimp only at h'
      rw [if_neg (by rw [hlt]; omega)] at h'
      cases h'
      exact .inl rfl
    · rw [if_neg hc] at h
      cases h
      exact absurd rfl h0
end Go.Proofs.YtpgfmfbpmkfbjaaGreat
namespace Go.Proofs.YtpgfmfbpmkfbjaaGreat
open Go
theorem takeF_cut {ms : List MarkD} {e e' kd j k : Nat} (h : k < j) (hj : j ≤ ms.length) : takeF (ms.take j) e' kd k = takeF ms e kd k := by
  obtain ⟨m, hm⟩ : ∃ m, ms[k]? = some m := ⟨_, List.getElem?_eq_getElem (by omega)⟩
  unfold takeF
  rw [List.getElem?_take, if_pos h, hm]
theorem takeF_end {ms : List MarkD} {e' kd j k : Nat} (h : j ≤ k) : takeF (ms.take j) e' kd k = .error e' := by
  unfold takeF
  rw [List.getElem?_eq_none (by rw [List.length_take]; omega)]
theorem takeF_err {ms : List MarkD} {e kd k p : Nat} (h : takeF ms e kd k = .error p) : p = placeAt ms e k := by
  unfold takeF at h
  unfold placeAt
  cases hm : ms[k]? with
  | none => rw [hm] at h; cases h; rfl
  | some m =>
    rw [hm] at h
    dsimp only at h ⊢
    split at h
    · cases h
    · cases h; rfl
theorem placeAt_cut {ms : List MarkD} {e j k : Nat} (h : k ≤ j) (hj : j ≤ ms.length) : placeAt (ms.take j) (placeAt ms e j) k = placeAt ms e k := by
  by_cases hlt : k < j
  · unfold placeAt
    rw [List.getElem?_take, if_pos hlt, List.getElem?_eq_getElem (by omega)]
  · obtain rfl : k = j := by omega
    rw [placeAt_none (by rw [List.length_take]; omega)]
theorem stopN_cut {ms : List MarkD} {j k : Nat} (h : k ≤ j) (hj : j ≤ ms.length) : stopN (ms.take j) k = min j (stopN ms k) := by
  unfold stopN
  rw [List.drop_take, takeWhile_take, List.length_take]
  omega
theorem piece_cut (s : List UInt8) {a b p : Nat} (h : b ≤ p) : ((s.take p).drop a).take (b - a) = (s.drop a).take (b - a) := by
  rw [List.drop_take, List.take_take]
  congr 1
  omega
section
variable {s : List UInt8} (hl : ¬ 2048 < s.length)
/-- The marks of a piece of a text, from a mark's place to a mark's place. -/
theorem marks_piece {k j : Nat} (hk : k ≤ j) (hj : j ≤ (marksF s).length) :
    (marksF ((s.drop (placeAt (marksF s) (badF s) k)).take (placeAt (marksF s) (badF s) j - placeAt (marksF s) (badF s) k))).map (shiftM (placeAt (marksF s) (badF s) k)) = ((marksF s).take j).drop k ∧
    badF ((s.drop (placeAt (marksF s) (badF s) k)).take (placeAt (marksF s) (badF s) j - placeAt (marksF s) (badF s) k)) = placeAt (marksF s) (badF s) j - placeAt (marksF s) (badF s) k := by
  obtain ⟨c1, c2⟩ := marks_cut s (j := j) hj
  have hpl := placesOK s k j hk
  have hcut := placeAt_cut (ms := marksF s) (e := badF s) hk hj
  have hdt : (s.take (placeAt (marksF s) (badF s) j)).drop (placeAt (marksF s) (badF s) k) = (s.drop (placeAt (marksF s) (badF s) k)).take (placeAt (marksF s) (badF s) j - placeAt (marksF s) (badF s) k) := List.drop_take ..
  rw [← hdt]
  by_cases hlt : k < j
  · have hd := marks_drop (s := s.take (placeAt (marksF s) (badF s) j)) (k := k) (by rw [c1, List.length_take]; omega)
    rw [c1, c2, hcut] at hd
    refine ⟨hd.symm, ?_⟩
    obtain ⟨h1, h2⟩ := scan_from (s.take (placeAt (marksF s) (badF s) j)) ((s.take (placeAt (marksF s) (badF s) j)).length + 1) 0 k ((s.take (placeAt (marksF s) (badF s) j)).length + 1) (Nat.zero_le _) (by omega) (by change k < (marksF (s.take _)).length; rw [c1, List.length_take]; omega) (by omega)
    change scanE _ _ (placeAt (marksF (s.take _)) (badF (s.take _)) k) = badF (s.take _) at h2
    rw [c1, c2, hcut] at h2
    have h3 : scanE (s.take (placeAt (marksF s) (badF s) j)) ((s.take (placeAt (marksF s) (badF s) j)).length + 1) (placeAt (marksF s) (badF s) k) = scanE ((s.take (placeAt (marksF s) (badF s) j)).drop (placeAt (marksF s) (badF s) k)) ((s.take (placeAt (marksF s) (badF s) j)).length + 1) 0 + placeAt (marksF s) (badF s) k := (scan_drop (s.take (placeAt (marksF s) (badF s) j)) (placeAt (marksF s) (badF s) k) ((s.take (placeAt (marksF s) (badF s) j)).length + 1) 0).2
    rw [h2] at h3
    have h4 := (scan_fuel ((s.take (placeAt (marksF s) (badF s) j)).drop (placeAt (marksF s) (badF s) k)) ((s.take (placeAt (marksF s) (badF s) j)).length + 1) (((s.take (placeAt (marksF s) (badF s) j)).drop (placeAt (marksF s) (badF s) k)).length + 1) 0 (Nat.zero_le _) (by rw [List.length_drop]; omega) (by omega)).2
    rw [h4] at h3
    change _ = badF _ + _ at h3
    omega
  · obtain rfl : k = j := by omega
    have he : (s.take (placeAt (marksF s) (badF s) k)).drop (placeAt (marksF s) (badF s) k) = [] := List.drop_eq_nil_of_le (by rw [List.length_take]; omega)
    rw [he, Nat.sub_self]
    refine ⟨?_, rfl⟩
    rw [List.drop_eq_nil_of_le (by rw [List.length_take]; omega)]
    rfl
theorem bodyF_cut {k j : Nat} (hk : k ≤ stopN (marksF s) k) (h : stopN (marksF s) k ≤ j) (hj : j ≤ (marksF s).length) : bodyF (s.take (placeAt (marksF s) (badF s) j)) ((marksF s).take j) (placeAt (marksF s) (badF s) j) k = bodyF s (marksF s) (badF s) k := by
  unfold bodyF
  rw [stopN_cut (by omega) hj, show min j (stopN (marksF s) k) = stopN (marksF s) k by omega, placeAt_cut (k := k) (by omega) hj, placeAt_cut (k := stopN (marksF s) k) h hj, piece_cut s (placesOK s _ _ h).1]
include hl in
theorem bodyF_err {k p : Nat} (hk : k ≤ (marksF s).length) (h : bodyF s (marksF s) (badF s) k = .error p) : ∃ j, k ≤ j ∧ j ≤ stopN (marksF s) k ∧ p = placeAt (marksF s) (badF s) j ∧
    (bodyF (s.take p) ((marksF s).take j) p k = .error p ∨ ∃ l, bodyF (s.take p) ((marksF s).take j) p k = .ok (l, j)) := by
  obtain ⟨s1, s2⟩ := stopN_le (marksF s) hk
  obtain ⟨m1, m2⟩ := marks_piece s1 s2
  obtain ⟨o1, o2⟩ := placesOK s k _ s1
  unfold bodyF at h
  have hpl : ((s.drop (placeAt (marksF s) (badF s) k)).take (placeAt (marksF s) (badF s) (stopN (marksF s) k) - placeAt (marksF s) (badF s) k)).length = placeAt (marksF s) (badF s) (stopN (marksF s) k) - placeAt (marksF s) (badF s) k := by
    rw [List.length_take, List.length_drop]; omega
  generalize hpc : (s.drop (placeAt (marksF s) (badF s) k)).take (placeAt (marksF s) (badF s) (stopN (marksF s) k) - placeAt (marksF s) (badF s) k) = pc at *
  cases hr : readF pc with
  | mk l z =>
  obtain ⟨a, er⟩ := z
  rw [hr] at h
  dsimp only at h
  by_cases h0 : er = 0
  · rw [if_pos h0] at h; cases h
  rw [if_neg h0] at h
  obtain ⟨rfl, i, hi, ha, hcut⟩ := readF_cut (by omega) hr h0
  have hml : (marksF pc).length = stopN (marksF s) k - k := by
    have := congrArg List.length m1
    rw [List.length_map, List.length_drop, List.length_take] at this
    omega
  have hpj : placeAt (marksF s) (badF s) (k + i) = placeAt (marksF s) (badF s) k + a := by
    by_cases hlt : i < (marksF pc).length
    · obtain ⟨m, hm⟩ : ∃ m, (marksF pc)[i]? = some m := ⟨_, List.getElem?_eq_getElem hlt⟩
      rw [placeAt_some hm] at ha
      have hg : (((marksF s).take (stopN (marksF s) k)).drop k)[i]? = some (shiftM (placeAt (marksF s) (badF s) k) m) := by rw [← m1, List.getElem?_map, hm]; rfl
      rw [List.getElem?_drop, List.getElem?_take, if_pos (by omega)] at hg
      rw [placeAt_some hg, ha]
      show m.place + _ = _
      omega
    · obtain rfl : i = (marksF pc).length := by omega
      rw [placeAt_none (Nat.le_refl _), m2] at ha
      rw [show k + (marksF pc).length = stopN (marksF s) k by omega]
      omega
  have hale : a ≤ pc.length := by rw [ha]; exact placeAt_le pc i
  have hp : p = placeAt (marksF s) (badF s) k + a := by
    by_cases he : a = placeAt (marksF s) (badF s) (stopN (marksF s) k) - placeAt (marksF s) (badF s) k
    · rw [if_pos he] at h; cases h; omega
    · rw [if_neg he] at h; cases h; rfl
  refine ⟨k + i, by omega, by omega, by rw [hpj]; exact hp, ?_⟩
  have hj : k + i ≤ (marksF s).length := by omega
  have hpp : p = placeAt (marksF s) (badF s) (k + i) := by rw [hpj]; exact hp
  have hk2 : placeAt ((marksF s).take (k + i)) p k = placeAt (marksF s) (badF s) k := by rw [hpp]; exact placeAt_cut (by omega) hj
  have hk3 : placeAt ((marksF s).take (k + i)) p (k + i) = p := placeAt_none (by rw [List.length_take]; omega)
  have hst : stopN ((marksF s).take (k + i)) k = k + i := by rw [stopN_cut (by omega) hj]; omega
  have hpiece : ((s.take p).drop (placeAt (marksF s) (badF s) k)).take (p - placeAt (marksF s) (badF s) k) = pc.take a := by
    rw [piece_cut s (Nat.le_refl _), ← hpc, List.take_take]
    congr 1
    omega
  unfold bodyF
  rw [hst, hk2, hk3, hpiece]
  cases hr2 : readF (pc.take a) with
  | mk l' z' =>
  obtain ⟨a', e'⟩ := z'
  dsimp only
  rcases hcut l' a' e' hr2 with h1 | ⟨h1, h2⟩
  · rw [if_pos h1]; exact .inr ⟨l', rfl⟩
  · rw [if_neg (by omega), if_pos (by omega)]; exact .inl rfl
theorem ruleF_same {k k' j : Nat} {r : RuleD} (h : ruleF s (marksF s) (badF s) k = .ok (r, k')) (hk : k' ≤ j) (hj : j ≤ (marksF s).length) : ruleF (s.take (placeAt (marksF s) (badF s) j)) ((marksF s).take j) (placeAt (marksF s) (badF s) j) k = .ok (r, k') := by
  obtain ⟨k3, e1, ⟨t2, e2⟩, e3, ⟨t4, e4⟩, h5, h6, h7, h8⟩ := ruleF_ok h
  unfold ruleF
  rw [takeF_cut (e := badF s) (by omega) hj, e1]
  dsimp only
  rw [takeF_cut (e := badF s) (by omega) hj, e2]
  dsimp only
  rw [bodyF_cut (by omega) (by omega) hj, e3]
  dsimp only
  rw [takeF_cut (e := badF s) (by omega) hj, e4]
include hl in
theorem ruleF_err {k p : Nat} (hk : k ≤ (marksF s).length) (h : ruleF s (marksF s) (badF s) k = .error p) : ∃ j, k ≤ j ∧ j ≤ (marksF s).length ∧ p = placeAt (marksF s) (badF s) j ∧ ruleF (s.take p) ((marksF s).take j) p k = .error p := by
  unfold ruleF at h
  cases e1 : takeF (marksF s) (badF s) 1 k with
  | error q =>
    rw [e1] at h; cases h
    have hp := takeF_err e1
    refine ⟨k, Nat.le_refl _, hk, hp, ?_⟩
    unfold ruleF
    rw [takeF_end (Nat.le_refl _)]
  | ok z =>
  obtain ⟨hd, k1⟩ := z
  rw [e1] at h
  dsimp only at h
  obtain ⟨_, _, _, _, rfl, g1⟩ := takeF_ok e1
  cases e2 : takeF (marksF s) (badF s) 4 (k + 1) with
  | error q =>
    rw [e2] at h; cases h
    have hp := takeF_err e2
    refine ⟨k + 1, by omega, g1, hp, ?_⟩
    unfold ruleF
    rw [takeF_cut (e := badF s) (by omega) g1, e1]
    dsimp only
    rw [takeF_end (Nat.le_refl _)]
  | ok z =>
  obtain ⟨t2, k2⟩ := z
  rw [e2] at h
  dsimp only at h
  obtain ⟨_, _, _, _, rfl, g2⟩ := takeF_ok e2
  obtain ⟨s1, s2⟩ := stopN_le (marksF s) g2
  cases e3 : bodyF s (marksF s) (badF s) (k + 1 + 1) with
  | error q =>
    rw [e3] at h; cases h
    obtain ⟨j, j1, j2, j3, j4⟩ := bodyF_err hl g2 e3
    refine ⟨j, by omega, by omega, j3, ?_⟩
    unfold ruleF
    rw [takeF_cut (e := badF s) (by omega) (by omega), e1]
    dsimp only
    rw [takeF_cut (e := badF s) (by omega) (by omega), e2]
    dsimp only
    rcases j4 with j4 | ⟨l, j4⟩
    · rw [j4]
    · rw [j4]
      dsimp only
      rw [takeF_end (Nat.le_refl _)]
  | ok z =>
  obtain ⟨b, k3⟩ := z
  rw [e3] at h
  dsimp only at h
  obtain ⟨rfl, _⟩ := bodyF_ok e3
  cases e4 : takeF (marksF s) (badF s) 5 (stopN (marksF s) (k + 1 + 1)) with
  | error q =>
    rw [e4] at h; cases h
    have hp := takeF_err e4
    refine ⟨stopN (marksF s) (k + 1 + 1), by omega, s2, hp, ?_⟩
    unfold ruleF
    rw [takeF_cut (e := badF s) (by omega) s2, e1]
    dsimp only
    rw [takeF_cut (e := badF s) (by omega) s2, e2]
    dsimp only
    have hb := bodyF_cut (s := s) (k := k + 1 + 1) (j := stopN (marksF s) (k + 1 + 1)) s1 (Nat.le_refl _) s2
    rw [← hp] at hb
    rw [hb, e3]
    dsimp only
    rw [takeF_end (Nat.le_refl _)]
  | ok z => obtain ⟨t4, k4⟩ := z; rw [e4] at h; cases h
include hl in
theorem rulesF_err : ∀ (f : Nat) (out : List RuleD) (k p : Nat), k ≤ (marksF s).length → rulesF s (marksF s) (badF s) f out k = .error p → ∃ j, k ≤ j ∧ j ≤ (marksF s).length ∧ p = placeAt (marksF s) (badF s) j ∧ ∀ f' p', rulesF (s.take p) ((marksF s).take j) p f' out k = .error p' → p' = p
  | 0, _, _, _, _, h => by cases h
  | f + 1, out, k, p, hk, h => by
    rw [rulesF] at h
    by_cases hc : out = [] ∨ k < (marksF s).length
    · rw [if_pos hc] at h
      cases hr : ruleF s (marksF s) (badF s) k with
      | error q =>
        rw [hr] at h; cases h
        obtain ⟨j, j1, j2, j3, j4⟩ := ruleF_err hl hk hr
        refine ⟨j, j1, j2, j3, fun f' p' h' => ?_⟩
        cases f' with
        | zero => cases h'
        | succ f' =>
          rw [rulesF] at h'
          split at h'
          · rw [j4] at h'
            cases h'; rfl
          · cases h'
      | ok z =>
        obtain ⟨r, k'⟩ := z
        rw [hr] at h
        dsimp only at h
        obtain ⟨k3, _, _, _, _, _, h6, h7, h8⟩ := ruleF_ok hr
        obtain ⟨j, j1, j2, j3, j4⟩ := rulesF_err f _ _ p h8 h
        refine ⟨j, by omega, j2, j3, fun f' p' h' => ?_⟩
        cases f' with
        | zero => cases h'
        | succ f' =>
          have hsame := ruleF_same hr j1 j2
          rw [← j3] at hsame
          rw [rulesF] at h'
          split at h'
          · rw [hsame] at h'
            exact j4 f' p' h'
          · cases h'
    · rw [if_neg hc] at h; cases h
theorem rulesF_same : ∀ (f : Nat) (out : List RuleD) (k : Nat) (g : List RuleD), k ≤ (marksF s).length → rulesF s (marksF s) (badF s) f out k = .ok g → rulesF (s.take (badF s)) (marksF s) (badF s) f out k = .ok g
  | 0, _, _, _, _, h => h
  | f + 1, out, k, g, hk, h => by
    rw [rulesF] at h ⊢
    by_cases hc : out = [] ∨ k < (marksF s).length
    · rw [if_pos hc] at h ⊢
      cases hr : ruleF s (marksF s) (badF s) k with
      | error q => rw [hr] at h; cases h
      | ok z =>
        obtain ⟨r, k'⟩ := z
        rw [hr] at h
        obtain ⟨k3, _, _, _, _, _, h6, h7, h8⟩ := ruleF_ok hr
        have hsame := ruleF_same hr h8 (Nat.le_refl _)
        rw [placeAt_none (Nat.le_refl _), List.take_length] at hsame
        rw [hsame]
        exact rulesF_same f _ k' g h8 h
    · rw [if_neg hc] at h ⊢; exact h
end
theorem checkG_ne (g : List RuleD) : checkG g ≠ 172 := by
  unfold checkG quesF firstE
  split
  · decide
  unfold firstE
  split
  · decide
  unfold firstE
  split
  · decide
  unfold firstE
  split
  · decide
  unfold firstE
  split
  · decide
  unfold firstE
  split
  · decide
  unfold firstE
  split
  · decide
  unfold firstE
  split
  · decide
  unfold firstE
  decide
theorem parseF_cut {s : List UInt8} (h : (parseF s).2.2 = 172) : WrongOK s (parseF s).2.1 ∧ ((parseF (s.take (parseF s).2.1)).2.2 = 172 → (parseF (s.take (parseF s).2.1)).2.1 = (parseF s).2.1) := by
  have hE : ∀ t : List UInt8, ¬ 2048 < t.length → parseF t =
      match rulesF t (marksF t) (badF t) ((marksF t).length + 1) [] 0 with
      | .error p => ([], p, 172)
      | .ok g => if badF t < t.length then ([], badF t, 172) else if g.any longR = true then ([], 0, 173) else if checkG g = 0 then (g, 0, 0) else ([], 0, checkG g) := fun t ht => by unfold parseF; rw [if_neg ht]; rfl
  have hne : ∀ g : List RuleD, (if g.any longR = true then (([], 0, 173) : List RuleD × Nat × Nat) else if checkG g = 0 then (g, 0, 0) else ([], 0, checkG g)).2.2 ≠ 172 := fun g => by
    split
    · show (173 : Nat) ≠ 172; decide
    split
    · show (0 : Nat) ≠ 172; decide
    · exact checkG_ne g
  by_cases hl : 2048 < s.length
  · rw [(parse_long hl).1] at h; cases h
  rw [hE s hl] at h ⊢
  cases hr : rulesF s (marksF s) (badF s) ((marksF s).length + 1) [] 0 with
  | error p =>
    dsimp only
    obtain ⟨j, _, h2, h3, h4⟩ := rulesF_err hl _ [] 0 p (Nat.zero_le _) hr
    obtain ⟨c1, c2⟩ := marks_cut s (j := j) h2
    have hpl := placeAt_le s j
    rw [← h3] at c1 c2 hpl
    refine ⟨by rw [h3]; exact wrongOK_place s j, ?_⟩
    rw [hE _ (by rw [List.length_take]; omega), c1, c2]
    cases hr2 : rulesF (s.take p) ((marksF s).take j) p (((marksF s).take j).length + 1) [] 0 with
    | error p' => intro _; exact h4 _ p' hr2
    | ok g =>
      dsimp only
      rw [if_neg (by rw [List.length_take]; omega)]
      intro h5
      exact absurd h5 (hne g)
  | ok g =>
    rw [hr] at h
    dsimp only at h ⊢
    by_cases hb : badF s < s.length
    · rw [if_pos hb]
      dsimp only
      obtain ⟨c1, c2⟩ := marks_all s
      refine ⟨.bad hb rfl, ?_⟩
      rw [hE _ (by rw [List.length_take]; omega), c1, c2]
      rw [rulesF_same _ [] 0 g (Nat.zero_le _) hr]
      dsimp only
      rw [if_neg (by rw [List.length_take]; omega)]
      intro h5
      exact absurd h5 (hne g)
    · rw [if_neg hb] at h
      exact absurd h (hne g)
end Go.Proofs.YtpgfmfbpmkfbjaaGreat
namespace Go.Proofs.YtpgfmfbpmkfbjaaGreat
open Go
def wrapK (k j : Nat) (ts : List Tok) : List Tok := if j = 5 ∨ (j = 4 ∧ k ≠ 5) then (10, [40]) :: (ts ++ [(11, [41])]) else ts
def betK (k : Nat) : List Tok := if k = 5 then [(6, [124])] else []
def signK (k : Nat) : List Tok := if k = 6 then [(7, [42])] else if k = 7 then [(8, [43])] else if k = 8 then [(9, [63])] else []
def joinK (sep : List Tok) : List (List Tok) → List Tok
  | [] => []
  | x :: r => x ++ r.flatMap fun y => sep ++ y
mutual
def toksT : Tree → List Tok
  | .node k n ts => if k = 1 then [(12, [37])] else if k = 2 then [(1, n)] else if k = 3 then [(2, n)] else joinK (betK k) (toksTs k ts) ++ signK k
def toksTs (k : Nat) : List Tree → List (List Tok)
  | [] => []
  | t :: ts => wrapK k t.kind (toksT t) :: toksTs k ts
end
theorem toksTs_map (k : Nat) : ∀ ts : List Tree, toksTs k ts = ts.map fun t => wrapK k t.kind (toksT t)
  | [] => by rw [toksTs]; rfl
  | t :: ts => by rw [toksTs, toksTs_map k ts]; rfl
theorem toksT_eq (t : Tree) : toksT t = if t.kind = 1 then [(12, [37])] else if t.kind = 2 then [(1, t.name)] else if t.kind = 3 then [(2, t.name)] else joinK (betK t.kind) (t.kids.map fun u => wrapK t.kind u.kind (toksT u)) ++ signK t.kind := by
  cases t; rw [toksT, toksTs_map]; rfl
theorem nameB_inner {b : UInt8} (h : nameB b = true) : innerB b = true := by
  unfold nameB upperB lowerB at h
  unfold innerB
  simp only [Bool.or_eq_true, Bool.and_eq_true, decide_eq_true_eq] at h ⊢
  omega
theorem namedF_ok {n : List UInt8} {f : UInt8 → Bool} (h : namedF n f = true) : NameOK n ∧ ∃ b r, n = b :: r ∧ f b = true := by
  match n, h with
  | b :: r, h =>
    simp only [namedF, Bool.and_eq_true] at h
    exact ⟨⟨by simp, List.all_eq_true.2 fun c hc => nameB_inner (List.all_eq_true.1 h.2.2 c hc)⟩, b, r, rfl, h.2.1⟩
theorem named_upper {n : List UInt8} (h : namedF n upperB = true) : NameOK n ∧ kindN n = 1 := by
  obtain ⟨h1, b, r, rfl, hb⟩ := namedF_ok h
  refine ⟨h1, ?_⟩
  unfold upperB at hb
  simp only [Bool.and_eq_true, decide_eq_true_eq] at hb
  show kindB b = 1
  unfold kindB
  rw [if_neg (by omega), if_neg (by omega), if_neg (by omega), if_neg (by omega), if_neg (by omega), if_neg (by omega), if_neg (by omega), if_neg (by omega), if_neg (by omega), if_pos (by omega)]
theorem named_lower {n : List UInt8} (h : namedF n lowerB = true) : NameOK n ∧ kindN n = 2 := by
  obtain ⟨h1, b, r, rfl, hb⟩ := namedF_ok h
  refine ⟨h1, ?_⟩
  unfold lowerB at hb
  simp only [Bool.and_eq_true, decide_eq_true_eq] at hb
  show kindB b = 2
  unfold kindB
  rw [if_neg (by omega), if_neg (by omega), if_neg (by omega), if_neg (by omega), if_neg (by omega), if_neg (by omega), if_neg (by omega), if_neg (by omega), if_neg (by omega), if_neg (by omega), if_pos (by omega)]
theorem lex_wrap {k j : Nat} {s : List UInt8} {ts : List Tok} (h : LexR s ts) : LexR (wrapT k j s) (wrapK k j ts) := by
  unfold wrapT wrapK
  split
  · have h1 : LexR [40] [(10, [40])] := .sign (b := 40) (by decide) .nil
    have h2 : LexR [41] [(11, [41])] := .sign (b := 41) (by decide) .nil
    have a1 := h1.app h (fun c hc hi => by cases hc; exact absurd hi (by decide))
    exact a1.app h2 (fun c _ _ d hd => by cases hd; decide)
  · exact h
theorem lex_bet {k : Nat} (h : k = 4 ∨ k = 5) : LexR (betF k) (betK k) ∧ (∀ c ∈ (betF k).getLast?, innerB c = false) ∧ (∀ d ∈ (betF k).head?, innerB d = false) ∧ betF k ≠ [] := by
  rcases h with rfl | rfl
  · exact ⟨.blank (by decide) .nil, fun c hc => by cases hc; decide, fun c hc => by cases hc; decide, by decide⟩
  · exact ⟨.blank (by decide) (.sign (b := 124) (by decide) (.blank (by decide) .nil)), fun c hc => by cases hc; decide, fun c hc => by cases hc; decide, by decide⟩
theorem lex_sign {k : Nat} (h : k = 6 ∨ k = 7 ∨ k = 8) : LexR (signF k) (signK k) ∧ ∀ d ∈ (signF k).head?, innerB d = false := by
  rcases h with rfl | rfl | rfl
  · exact ⟨.sign (b := 42) (by decide) .nil, fun c hc => by cases hc; decide⟩
  · exact ⟨.sign (b := 43) (by decide) .nil, fun c hc => by cases hc; decide⟩
  · exact ⟨.sign (b := 63) (by decide) .nil, fun c hc => by cases hc; decide⟩
theorem lex_join {α : Type} {k : Nat} (h : k = 4 ∨ k = 5) {f : α → List UInt8} {g : α → List Tok} : ∀ (l : List α) (x : List UInt8) (ts : List Tok), LexR x ts → (∀ a ∈ l, LexR (f a) (g a)) → LexR (joinF (betF k) (x :: l.map f)) (joinK (betK k) (ts :: l.map g))
  | [], x, ts, hx, _ => by
    show LexR (x ++ _) (ts ++ _)
    rw [show ([].map f).flatMap (fun y => betF k ++ y) = [] from rfl, show ([].map g).flatMap (fun y => betK k ++ y) = [] from rfl, List.append_nil, List.append_nil]
    exact hx
  | a :: l, x, ts, hx, hl => by
    obtain ⟨b1, b2, b3, b4⟩ := lex_bet h
    have ih := lex_join h l (f a) (g a) (hl a (by simp)) (fun b hb => hl b (by simp [hb]))
    have e1 : joinF (betF k) (x :: (a :: l).map f) = (x ++ betF k) ++ joinF (betF k) (f a :: l.map f) := by
      show x ++ ((f a :: l.map f).flatMap fun y => betF k ++ y) = (x ++ betF k) ++ (f a ++ _)
      rw [List.flatMap_cons]
      simp only [List.append_assoc]
    have e2 : joinK (betK k) (ts :: (a :: l).map g) = (ts ++ betK k) ++ joinK (betK k) (g a :: l.map g) := by
      show ts ++ ((g a :: l.map g).flatMap fun y => betK k ++ y) = (ts ++ betK k) ++ (g a ++ _)
      rw [List.flatMap_cons]
      simp only [List.append_assoc]
    rw [e1, e2]
    refine (hx.app b1 (fun c _ _ d hd => b3 d hd)).app ih fun c hc hi => ?_
    rw [List.getLast?_append] at hc
    cases hb : (betF k).getLast? with
    | none => exact absurd (List.getLast?_eq_none_iff.1 hb) b4
    | some y =>
      rw [hb] at hc
      cases hc
      rw [b2 _ hb] at hi
      cases hi
theorem lex_text (t : Tree) : okT t = true → LexR (textT t) (toksT t) := by
  refine Tree.ind (p := fun t => okT t = true → LexR (textT t) (toksT t)) (fun t ih => ?_) t
  intro h
  rw [okT_eq, Bool.and_eq_true] at h
  have hk := fun u hu => ih u hu (okTs_mem h.2 hu)
  rw [textT_eq, toksT_eq]
  rcases mayN_cases h.1 with ⟨h1, _, _⟩ | ⟨h1, _, h2⟩ | ⟨h1, _, h2⟩ | ⟨h1, _, h2⟩ | ⟨h1, _, h2⟩
  · have h1 : t.kind = 1 := h1
    rw [if_pos h1, if_pos h1]
    exact .sign (b := 37) (by decide) .nil
  · have h1 : t.kind = 2 := h1
    rw [if_neg (by omega), if_pos (.inl h1), if_neg (by omega), if_pos h1]
    obtain ⟨n1, n2⟩ := named_upper h2
    have := LexR.name n1
    rwa [n2] at this
  · have h1 : t.kind = 3 := h1
    rw [if_neg (by omega), if_pos (.inr h1), if_neg (by omega), if_neg (by omega), if_pos h1]
    obtain ⟨n1, n2⟩ := named_lower h2
    have := LexR.name n1
    rwa [n2] at this
  · have h1 : t.kind = 4 ∨ t.kind = 5 := h1
    have h2 : 2 ≤ t.kids.length := h2
    rw [if_neg (by omega), if_neg (by omega), if_neg (by omega), if_neg (by omega), if_neg (by omega)]
    have es : signF t.kind = [] ∧ signK t.kind = [] := by
      unfold signF signK
      rw [if_neg (by omega), if_neg (by omega), if_neg (by omega), if_neg (by omega), if_neg (by omega), if_neg (by omega)]
      exact ⟨rfl, rfl⟩
    rw [es.1, es.2, List.append_nil, List.append_nil]
    cases hkid : t.kids with
    | nil => rw [hkid] at h2; simp at h2
    | cons u us =>
      rw [hkid] at hk
      exact lex_join h1 us _ _ (lex_wrap (hk u (by simp))) (fun x hx => lex_wrap (hk x (by simp [hx])))
  · have h1 : t.kind = 6 ∨ t.kind = 7 ∨ t.kind = 8 := h1
    have h2 : t.kids.length = 1 := h2
    rw [if_neg (by omega), if_neg (by omega), if_neg (by omega), if_neg (by omega), if_neg (by omega)]
    obtain ⟨s1, s2⟩ := lex_sign h1
    match hkid : t.kids, h2 with
    | [u], _ =>
      rw [hkid] at hk
      have e1 : joinF (betF t.kind) ([u].map fun u => wrapT t.kind u.kind (textT u)) = wrapT t.kind u.kind (textT u) := by show _ ++ [] = _; rw [List.append_nil]
      have e2 : joinK (betK t.kind) ([u].map fun u => wrapK t.kind u.kind (toksT u)) = wrapK t.kind u.kind (toksT u) := by show _ ++ [] = _; rw [List.append_nil]
      rw [e1, e2]
      exact (lex_wrap (hk u (by simp))).app s1 (fun c _ _ d hd => s2 d hd)
/-- What a tree's marks begin with. -/
theorem toks_begin (t : Tree) : okT t = true → ∃ a w r, toksT t = (a, w) :: r ∧ beginsK a = true := by
  refine Tree.ind (p := fun t => okT t = true → ∃ a w r, toksT t = (a, w) :: r ∧ beginsK a = true) (fun t ih => ?_) t
  intro h
  rw [okT_eq, Bool.and_eq_true] at h
  have hk := fun u hu => ih u hu (okTs_mem h.2 hu)
  rw [toksT_eq]
  have big : 4 ≤ t.kind → 1 ≤ t.kids.length → ∃ a w r, (if t.kind = 1 then [(12, [37])] else if t.kind = 2 then [(1, t.name)] else if t.kind = 3 then [(2, t.name)] else joinK (betK t.kind) (t.kids.map fun u => wrapK t.kind u.kind (toksT u)) ++ signK t.kind : List Tok) = (a, w) :: r ∧ beginsK a = true := fun h4 h1 => by
    rw [if_neg (by omega), if_neg (by omega), if_neg (by omega)]
    cases hkid : t.kids with
    | nil => rw [hkid] at h1; simp at h1
    | cons u us =>
      obtain ⟨a, w, r, e, hb⟩ := hk u (by rw [hkid]; simp)
      show ∃ a w r, (wrapK t.kind u.kind (toksT u) ++ _) ++ _ = _ ∧ _
      unfold wrapK
      split
      · exact ⟨_, _, _, rfl, by decide⟩
      · rw [e]; exact ⟨_, _, _, rfl, hb⟩
  rcases mayN_cases h.1 with ⟨h1, _, _⟩ | ⟨h1, _, h2⟩ | ⟨h1, _, h2⟩ | ⟨h1, _, h2⟩ | ⟨h1, _, h2⟩
  · have h1 : t.kind = 1 := h1
    rw [if_pos h1]
    exact ⟨_, _, _, rfl, by decide⟩
  · have h1 : t.kind = 2 := h1
    rw [if_neg (by omega), if_pos h1]
    exact ⟨_, _, _, rfl, by decide⟩
  · have h1 : t.kind = 3 := h1
    rw [if_neg (by omega), if_neg (by omega), if_pos h1]
    exact ⟨_, _, _, rfl, by decide⟩
  · exact big (by have h1 : t.kind = 4 ∨ t.kind = 5 := h1; omega) (by have h2 : 2 ≤ t.kids.length := h2; omega)
  · exact big (by have h1 : t.kind = 6 ∨ t.kind = 7 ∨ t.kind = 8 := h1; omega) (by have h2 : t.kids.length = 1 := h2; omega)
theorem wrap_begin {k : Nat} {t : Tree} (h : okT t = true) : ∃ a w r, wrapK k t.kind (toksT t) = (a, w) :: r ∧ beginsK a = true := by
  unfold wrapK
  split
  · exact ⟨_, _, _, rfl, by decide⟩
  · exact toks_begin t h
end Go.Proofs.YtpgfmfbpmkfbjaaGreat
