/-
  QDa, part 1.
-/
import Derived.Test.YtjokibfldngkeaaU
import Derived.MapKept
import Derived.Test.YtjokibfldngkeaaY
import Derived.Test.YtjokibfldngkeaaTy
import Derived.Test.YtjokibfldngkeaaNB
import Derived.Test.YtjokibfldngkeaaZ
namespace Go.Proofs.Ytjokibfldngkeaa
open Go
abbrev F3 := Int × Int × Int
def f3V (f : F3) : Value := .agg #[i64 f.1, i64 f.2.1, i64 f.2.2]
/-- What lies in a map, in the order in which it came. -/
def entsAt (n : Nat) : List (F3 × Value) → List MapEntry
  | [] => []
  | (k, v) :: l => { key := f3V k, val := v, born := n } :: entsAt (n + 1) l
def mapO (l : List (F3 × Value)) : Obj := .map (entsAt 0 l).toArray l.length
def findL (k : F3) : List (F3 × Value) → Nat → Option (Nat × Value)
  | [], _ => none
  | (a, v) :: l, i => if k = a then some (i, v) else findL k l (i + 1)
theorem entsAt_push (k : F3) (v : Value) : ∀ (l : List (F3 × Value)) (n : Nat), entsAt n (l ++ [(k, v)]) = entsAt n l ++ [{ key := f3V k, val := v, born := n + l.length }]
  | [], n => rfl
  | (a, u) :: l, n => by
    show _ :: entsAt (n + 1) (l ++ [(k, v)]) = _ :: (entsAt (n + 1) l ++ _)
    rw [entsAt_push k v l (n + 1), List.length_cons, show n + 1 + l.length = n + (l.length + 1) by omega]
/-- A key's type: a struct of three numbers. -/
class K3 (P : Program) (kt : TypeId) : Prop where
  eq : ∀ a b : F3, EqR P 10000 kt (f3V a) (f3V b) (decide (a = b))
  un : ∃ fs, P.underlying kt = some (.struct fs)
  ck : ∀ (e : Bool) (a : F3) (w : World), (Instr.checkKey e 10000 kt (f3V a)).run P w = .ok () w
/-- A type's zero value. -/
class ZV (P : Program) (t : TypeId) (z : outParam Value) : Prop where out : (P.info? t).bind (·.zero) = some z
theorem run_zero_ZV {P : Program} {t : TypeId} {z : Value} [h : ZV P t z] (w : World) : (zeroValue t).run P w = .ok z w := by
  have h1 := h.out
  cases hq : P.info? t with
  | none => simp [hq] at h1
  | some i =>
    simp [hq] at h1
    simp [zeroValue, typeInfo, hq, h1]
section
variable {P : Program} {kt : TypeId} [hk : K3 P kt]
theorem find_run (k : F3) (w : World) : ∀ (l : List (F3 × Value)) (n i : Nat), (Instr.findAsking kt (f3V k) (entsAt n l) i).run P w = .ok (findL k l i) w
  | [], n, i => by simp [entsAt, Instr.findAsking, findL]
  | (a, v) :: l, n, i => by
    have he : (Op.equal kt (f3V k) (f3V a)).run P w = .ok (decide (k = a)) w := by
      have := hk.eq k a w
      simpa [Op.equal, Op.maxDepth] using this
    have ih := find_run k w l (n + 1) (i + 1)
    unfold findL
    simp only [entsAt, Instr.findAsking, Sem.run_bind, he, Result.andThen_ok]
    by_cases h : k = a
    · rw [if_pos h, decide_eq_true h]; simp
    · rw [if_neg h, decide_eq_false h]; simpa using ih
theorem findKey_run (k : F3) (l : List (F3 × Value)) (w : World) : (Instr.findKey kt (f3V k) (entsAt 0 l)).run P w = .ok (findL k l 0) w := by
  obtain ⟨fs, hu⟩ := hk.un
  have hf := find_run (P := P) (kt := kt) k w l 0 0
  unfold Instr.findKey
  rw [Sem.run_bind, run_underlying hu, Result.andThen_ok]
  cases l with
  | nil => simp [entsAt, Instr.findNow, findL]
  | cons x l =>
    obtain ⟨a, v⟩ := x
    have : Instr.findNow (.struct fs) (f3V k) (entsAt 0 ((a, v) :: l)) 0 = none := rfl
    rw [this]
    exact hf
end
/-- What a look-up answers. -/
def lookV (z : Value) (k : F3) (l : List (F3 × Value)) : Value := match findL k l 0 with
  | some (_, v) => .tuple #[v, .bool true]
  | none => .tuple #[z, .bool false]
section rules
variable {P : Program} {c : Cx} {A : Array Oper} {rest : List Oper} {K : Kont} {L : Env} {H F : List HP} {t : TypeId} {p : String} {e : Array Edge}
variable {d b : Nat} {x y u : Operand} {mt kt et : TypeId} {k : F3} {l : List (F3 × Value)} {v z : Value}
theorem GO.makeMap (hN : Nat.blt d c.N = true) (k : ∀ b, GO P c A rest K ((d, .map (some b)) :: L) (pt b (mapO []) :: H)) : GO P c A (⟨some d, .makeMap mt none, t, p, e, none⟩ :: rest) K L H :=
  GO.gen hN rfl (fun v H' => ∃ b, v = .map (some b) ∧ H' = pt b (mapO []) :: H)
    (fun a w Y h s => ⟨.map (some w.heap.size), w.alloc (mapO []), _, by
      simp only [execOp, Instr.makeMap, Option.map_none]
      simp [Result.andThen, mapO, entsAt], Same.alloc w _, ⟨w.heap.size, rfl, rfl⟩, sat_alloc s _⟩) (by rintro _ _ ⟨b, rfl, rfl⟩; exact k b)
theorem GO.lookupK [hm : UL P mt (.map kt et)] [hk : K3 P kt] [hz : ZV P et z] (hN : Nat.blt d c.N = true) (hx : evl L x = some (.map (some b))) (hy : evl L y = some (f3V k)) (tk : Tk (pt b (mapO l)) H F)
    (g : GO P c A rest K ((d, lookV z k l) :: L) H) : GO P c A (⟨some d, .lookup mt x y true, t, p, e, none⟩ :: rest) K L H :=
  GO.val hN rfl (fun a w Y h s => by
    have hb := sat_pt (sat_perm (List.Perm.append_right Y tk) s)
    simp only [execOp, h.eval hx, h.eval hy, Instr.lookup]
    simp only [Sem.run_bind, run_underlying hm.out, Result.andThen_ok, MapKept.run_getObj_map hb, Sem.run_pure]
    simp only [hk.ck, findKey_run, Result.andThen_ok]
    unfold lookV
    cases hf : findL k l 0 with
    | none => simp [hf, run_zero_ZV, Result.andThen]
    | some q => obtain ⟨i, v⟩ := q; simp [hf, Result.andThen]) g
theorem GO.insertK [hm : UL P mt (.map kt et)] [hk : K3 P kt] (hx : evl L x = some (.map (some b))) (hy : evl L y = some (f3V k)) (hu : evl L u = some v) (tk : Tk (pt b (mapO l)) H F) (hn : findL k l 0 = none)
    (g : GO P c A rest K L (pt b (mapO (l ++ [(k, v)])) :: F)) : GO P c A (⟨none, .mapUpdate mt x y u, t, p, e, none⟩ :: rest) K L H :=
  GO.genS rfl (fun a w Y h s => by
    have s' := sat_perm (List.Perm.append_right Y tk) s
    have hb := sat_pt s'
    refine ⟨{ w with heap := w.heap.setIfInBounds b (mapO (l ++ [(k, v)])) }, ?_, ⟨rfl, rfl, rfl, by simp, Nat.le_refl _⟩, sat_upd s' ?_ ?_⟩
    · simp only [execOp, h.eval hx, h.eval hy, h.eval hu, Instr.mapUpdate]
      simp only [Sem.run_bind, run_underlying hm.out, Result.andThen_ok, MapKept.run_getObj_map hb, hk.ck, findKey_run, hn]
      rw [MapKept.run_setObj_map _ hb]
      simp [Result.andThen, mapO, entsAt_push]
    · have hlt := (Array.getElem?_eq_some_iff.1 hb).1
      simp [hlt]
    · intro j hj
      rw [Array.getElem?_setIfInBounds_ne (Ne.symm hj)]) g
end rules
end Go.Proofs.Ytjokibfldngkeaa
namespace Go.Proofs.Ytjokibfldngkeaa
open Go
abbrev SymD := Bool × Int
abbrev ProdD := Int × List SymD
structure CnfD where
  nts : Int
  prods : List ProdD
def symsV (ss : List SymD) : List Value := ss.flatMap fun s => [.bool s.1, i64 s.2]
theorem symsV_len (ss : List SymD) : (symsV ss).length = ss.length * 2 := by
  induction ss with
  | nil => rfl
  | cons s ss ih => simp only [symsV, List.flatMap_cons, List.length_append, List.length_cons, List.length_nil] at ih ⊢; omega
theorem symsV_one (ss : List SymD) : ∀ u ∈ symsV ss, u.oneCell' = true := by
  intro u hu
  obtain ⟨s, _, h⟩ := List.mem_flatMap.1 hu
  simp at h
  rcases h with rfl | rfl <;> rfl
theorem symsV_get : ∀ {ss : List SymD} {k : Nat} {s : SymD}, ss[k]? = some s → (symsV ss)[k * 2]? = some (.bool s.1) ∧ (symsV ss)[k * 2 + 1]? = some (i64 s.2)
  | [], _, _, h => by simp at h
  | t :: ss, 0, s, h => by simp at h; subst h; simp [symsV]
  | t :: ss, k + 1, s, h => by
    have := symsV_get (ss := ss) (k := k) (by simpa using h)
    have e : symsV (t :: ss) = .bool t.1 :: i64 t.2 :: symsV ss := rfl
    rw [e, show (k + 1) * 2 = k * 2 + 2 by omega]
    simpa using this
/-- The value v is a list of symbols that can be read in q. -/
def SymsR (q : HP) (v : Value) (ss : List SymD) : Prop := Sl q v ss.length 2 (symsV ss)
/-- Likewise a list of productions. -/
def PrsR (q : HP) (v : Value) (ps : List ProdD) : Prop :=
  ∃ cells, Sl q v ps.length 2 cells ∧ ∀ k p, ps[k]? = some p → ∃ bv, cells[k * 2]? = some (i64 p.1) ∧ cells[k * 2 + 1]? = some bv ∧ SymsR q bv p.2
def CnfR (q : HP) (v : Value) (C : CnfD) : Prop := ∃ pv, v = .agg [i64 C.nts, pv].toArray ∧ PrsR q pv C.prods
theorem SymsR.sup {q q' : HP} (h : Sup q q') {v : Value} {ss : List SymD} (k : SymsR q v ss) : SymsR q' v ss := Sl.sup h k
theorem PrsR.sup {q q' : HP} (h : Sup q q') {v : Value} {ps : List ProdD} (k : PrsR q v ps) : PrsR q' v ps := by
  obtain ⟨cells, h1, h2⟩ := k
  exact ⟨cells, Sl.sup h h1, fun k p hp => let ⟨bv, a, b, c⟩ := h2 k p hp; ⟨bv, a, b, c.sup h⟩⟩
theorem CnfR.sup {q q' : HP} (h : Sup q q') {v : Value} {C : CnfD} (k : CnfR q v C) : CnfR q' v C := let ⟨pv, a, b⟩ := k; ⟨pv, a, b.sup h⟩
theorem SymsR.form {q : HP} {v : Value} {ss : List SymD} (h : SymsR q v ss) : ∃ a cap, v = .slice a ss.length cap := let ⟨a, cap, e, _⟩ := h; ⟨a, cap, e⟩
theorem PrsR.form {q : HP} {v : Value} {ps : List ProdD} (h : PrsR q v ps) : ∃ a cap, v = .slice a ps.length cap := let ⟨_, ⟨a, cap, e, _⟩, _⟩ := h; ⟨a, cap, e⟩
theorem SymsR.at {q : HP} {a : Option Addr} {n cap k : Nat} {ss : List SymD} {s : SymD} (h : SymsR q (.slice a n cap) ss) (hk : ss[k]? = some s) :
    ∃ b o, a = some ⟨b, o, none⟩ ∧ n = ss.length ∧ Rd q ⟨b, o + k * 2, none⟩ (.bool s.1) ∧ Rd q ⟨b, o + k * 2 + 1, none⟩ (i64 s.2) := by
  obtain ⟨a', cap', e, hl, hr⟩ := h
  injection e with e1 e2 e3
  subst e1 e2
  have hlt := (List.getElem?_eq_some_iff.1 hk).1
  obtain ⟨b, o, rfl, hr'⟩ := hr (by omega)
  obtain ⟨h1, h2⟩ := symsV_get hk
  exact ⟨b, o, rfl, rfl, hr' _ _ h1, hr' _ _ h2⟩
theorem PrsR.at {q : HP} {a : Option Addr} {n cap k : Nat} {ps : List ProdD} {p : ProdD} (h : PrsR q (.slice a n cap) ps) (hk : ps[k]? = some p) :
    ∃ b o bv, a = some ⟨b, o, none⟩ ∧ n = ps.length ∧ Rd q ⟨b, o + k * 2, none⟩ (i64 p.1) ∧ Rd q ⟨b, o + k * 2 + 1, none⟩ bv ∧ SymsR q bv p.2 := by
  obtain ⟨cells, ⟨a', cap', e, hl, hr⟩, hc⟩ := h
  injection e with e1 e2 e3
  subst e1 e2
  have hlt := (List.getElem?_eq_some_iff.1 hk).1
  obtain ⟨b, o, rfl, hr'⟩ := hr (by omega)
  obtain ⟨bv, h1, h2, h3⟩ := hc k p hk
  exact ⟨b, o, bv, rfl, rfl, hr' _ _ h1, hr' _ _ h2, h3⟩
/-- What fits into memory. -/
def Fits (C : CnfD) : Prop := C.prods.length * 32 ≤ 140737488355328 ∧ ∀ p ∈ C.prods, p.2.length * 16 ≤ 140737488355328
end Go.Proofs.Ytjokibfldngkeaa
namespace Go.Proofs.Ytjokibfldngkeaa
open Go
attribute [local irreducible] G GO GR GT Fn pt init exs pur sat own ImpS
theorem built_cnf (n : Int) : Try.prog.built 24 [(0, i64 n)] = some [i64 n, .slice none 0 0].toArray := by kernel_rfl
/-- The copied productions so far. -/
def Cop (z : HP) (ps : List ProdD) (k : Nat) (cells : List Value) : Prop := ∀ j p, j < k → ps[j]? = some p → ∃ bv, cells[j * 2]? = some (i64 p.1) ∧ cells[j * 2 + 1]? = some bv ∧ SymsR z bv p.2
theorem Cop.sup {z z' : HP} (h : Sup z z') {ps : List ProdD} {k : Nat} {cells : List Value} (hc : Cop z ps k cells) : Cop z' ps k cells :=
  fun j p hj hp => let ⟨bv, a, b, c⟩ := hc j p hj hp; ⟨bv, a, b, c.sup h⟩
theorem Cop.succ {z : HP} {ps : List ProdD} {k : Nat} {cells : List Value} {p : ProdD} {bv : Value} (hc : Cop z ps k cells) (hl : cells.length = k * 2) (hp : ps[k]? = some p) (hb : SymsR z bv p.2) : Cop z ps (k + 1) (cells ++ [i64 p.1, bv]) := by
  intro j p' hj hp'
  by_cases e : j = k
  · subst e
    rw [hp] at hp'
    simp only [Option.some.injEq] at hp'
    subst hp'
    refine ⟨bv, ?_, ?_, hb⟩
    · rw [List.getElem?_append_right (by omega), hl]; simp
    · rw [List.getElem?_append_right (by omega), hl, show j * 2 + 1 - j * 2 = 1 by omega]; rfl
  · obtain ⟨bv', a, b, c⟩ := hc j p' (by omega) hp'
    exact ⟨bv', by rw [List.getElem?_append_left (by omega)]; exact a, by rw [List.getElem?_append_left (by omega)]; exact b, c⟩
set_option maxHeartbeats 4000000 in
set_option maxRecDepth 20000 in
theorem copy_spec (q : HP) (v : Value) (C : CnfD) (hv : CnfR q v C) (hz : Fits C) : Fn Try.prog 10 #[v] [q] (fun r Q => ∃ z, CnfR z r C ∧ Q = [z, q]) := by
  obtain ⟨pv, rfl, hp⟩ := hv
  obtain ⟨a0, cap0, rfl⟩ := hp.form
  have hz1 := hz.1
  refine Fn.mk Try.func10 rfl rfl fun w0 F => ?_
  (refine G.seq ?_; refine G.region ?_)
  refine GO.box rfl rfl rfl fun b1 => ?_
  refine GO.alloc rfl fun b2 => ?_
  (refine GO.nil ?_; refine kthen_n ?_; refine G.seq ?_; refine G.region ?_; refine GO.fieldAddr rfl rfl ?_; refine GO.load1 rfl rfl rfl (Tk.t Tk.h) rfl ?_)
  refine GO.buildPart1 (built_cnf _) rfl rfl ?_
  refine GO.alloc rfl fun b3 => ?_
  refine GO.storeW rfl rfl Tk.h ⟨rfl, rfl⟩ (by simp [Value.oneCell']) ?_
  (refine GO.nil ?_; refine kthen_n ?_; refine G.seq ?_; refine G.seq ?_; refine G.region ?_; refine GO.assign rfl rfl ?_; refine GO.nil ?_; refine kthen_n ?_; refine G.block ?_)
  refine G.ownNil (T := 52) (sz := 2) ?_
  refine G.imp (H' := pur True :: _) (fun l w s => sat_pur.2 ⟨trivial, s⟩) ?_
  refine G.loop4 (fun (k : Nat) (_ : Value) (_ : List Value) (_ : HP) => [(1, .pointer (some ⟨b1, 0, none⟩)), (2, .pointer (some ⟨b2, 0, none⟩)), (3, .pointer (some ⟨b3, 0, none⟩)), (4, i64 k)])
    (fun k pv cells z => own 52 2 k pv cells :: pt b3 (row [i64 C.nts, pv] 24) :: z :: pt b1 (row [i64 C.nts, .slice a0 C.prods.length cap0] 24) :: q :: pt b2 (row [i64 0, .slice none 0 0] 24) :: F)
    (fun k pv cells z => k ≤ C.prods.length ∧ Cop z C.prods k cells) (fun k _ _ _ => C.prods.length - k) 0 (.slice none 0 0) [] (pur True) ⟨by omega, fun j p hj => by omega⟩ ?_ ?_ ?_
  · (refine SubE.c rfl rfl ?_; refine SubE.c rfl rfl ?_; refine SubE.c rfl rfl ?_; refine SubE.c rfl rfl ?_; exact SubE.n)
  · ((refine Sb.c (Tk.t Tk.h) ?_; refine Sb.c (Tk.t Tk.h) ?_; refine Sb.c Tk.h ?_; refine Sb.c (Tk.t Tk.h) ?_; refine Sb.c (Tk.t Tk.h) ?_; refine Sb.c Tk.h ?_); (exact Sb.r))
  rintro k pv cells z ⟨hk, hc⟩
  refine G.ownMax Tk.h fun hmx hcl => ?_
  refine G.ownOne Tk.h fun hone => ?_
  (refine G.seq ?_; refine G.seq ?_; refine G.region ?_; refine GO.move rfl rfl ?_; refine GO.fieldAddr rfl rfl ?_; refine GO.load1 rfl rfl rfl (Tk.t (Tk.t (Tk.t Tk.h))) rfl ?_; refine GO.lenS rfl rfl ?_; refine GO.lti rfl rfl rfl ?_; refine GO.nil ?_; refine kthen_n ?_)
  refine G.condD rfl (fun hlt => ?_) (fun hge => ?_)
  · have hlt' : k < C.prods.length := by omega
    obtain ⟨p, hpk⟩ : ∃ p, C.prods[k]? = some p := ⟨C.prods[k], by simp [hlt']⟩
    obtain ⟨b, o, bv, rfl, _, r1, r2, hs⟩ := hp.at hpk
    have hpl := hz.2 p (List.mem_of_getElem? hpk)
    (refine G.skip ?_; refine kthen_n ?_; refine G.seq ?_; refine G.block ?_; refine G.seq ?_; refine G.region ?_; refine GO.assign rfl rfl ?_; refine GO.nil ?_; refine kthen_n ?_; refine G.seq ?_; refine G.region ?_; refine GO.move rfl rfl ?_; refine GO.fieldAddr rfl rfl ?_; refine GO.load1 rfl rfl rfl (Tk.t (Tk.t (Tk.t Tk.h))) rfl ?_; refine GO.move rfl rfl ?_; refine GO.idxS rfl rfl rfl ⟨rfl, by omega⟩ ?_; refine GO.fieldAddr rfl rfl ?_)
    refine GO.loadQ rfl rfl rfl (q := q) (by (exact (Tk.t (Tk.t (Tk.t (Tk.t Tk.h)))))) r2 ?_
    refine GO.ownNil (T := 54) (sz := 2) ?_
    refine GO.appendFrom (m := p.2.length) (q := q) rfl rfl rfl (by (exact Tk.h)) (by (exact (Tk.t (Tk.t (Tk.t (Tk.t Tk.h)))))) hs (symsV_one _) ⟨by decide, rfl⟩ (by unfold maxLen; omega) (by omega) fun v5 => ?_
    rw [List.nil_append, Nat.zero_add p.2.length]
    refine GO.ownRd Tk.h fun q5 h5 => ?_
    (refine GO.assign rfl rfl ?_; refine GO.nil ?_; refine kthen_n ?_)
    obtain ⟨a5, cap5, e5, _⟩ := id h5
    subst e5
    refine G.merge (x := q5) (y := z) (Tks.c Tk.h (Tks.c (Tk.t (Tk.t Tk.h)) Tks.n)) ?_
    have hc' : Cop (star [q5, z]) C.prods (k + 1) (cells ++ [i64 p.1, .slice a5 p.2.length cap5]) := (hc.sup (Sup.right q5 z)).succ hcl hpk (Sl.sup (Sup.left q5 z) h5)
    generalize star [q5, z] = z' at hc' ⊢
    clear hc h5
    refine G.drawT 13 3072 [pt b3 (row [i64 C.nts, pv] 24), pt b1 (row [i64 C.nts, .slice (some ⟨b, o, none⟩) C.prods.length cap0] 24), q, z', pt b2 (row [i64 0, .slice none 0 0] 24)] (own 52 2 k pv cells :: F) (by kernel_rfl) (keys_of rfl) (ImpS.sb (by ((refine Sb.c (Tk.t (Tk.t Tk.h)) ?_; refine Sb.c (Tk.t (Tk.t Tk.h)) ?_; refine Sb.c (Tk.t (Tk.t Tk.h)) ?_; refine Sb.c Tk.h ?_; refine Sb.c (Tk.t Tk.h) ?_; refine Sb.c Tk.h ?_); (exact Sb.r)))) ?_
    ((apply GR.step rfl; focus (intro Z; refine GO.fieldAddr rfl rfl ?_; exact KQ.z)); (apply GR.step rfl; focus (intro Z; refine GO.load1 rfl rfl rfl Tk.h rfl ?_; exact KQ.z)); (apply GR.step rfl; focus (intro Z; refine GO.fieldAddr rfl rfl ?_; exact KQ.z)); (apply GR.step rfl; focus (intro Z; refine GO.load1 rfl rfl rfl (Tk.t Tk.h) rfl ?_; exact KQ.z)); (apply GR.step rfl; focus (intro Z; refine GO.move rfl rfl ?_; exact KQ.z)); (apply GR.step rfl; focus (intro Z; refine GO.idxS rfl rfl rfl ⟨rfl, by omega⟩ ?_; exact KQ.z)); (apply GR.step rfl; focus (intro Z; refine GO.fieldAddr rfl rfl ?_; exact KQ.z)))
    apply GR.step rfl; focus (intro Z; refine GO.loadQ rfl rfl rfl (q := q) (by (exact (Tk.t (Tk.t Tk.h)))) r1 ?_; exact KQ.z)
    ((apply GR.step rfl; focus (intro Z; refine GO.move rfl rfl ?_; exact KQ.z)); (apply GR.step rfl; focus (intro Z; refine GO.build2 rfl rfl rfl rfl ?_; exact KQ.z)))
    (repeat refine GR.skip rfl ?_)
    ((apply GR.step rfl; focus (intro Z; refine GO.fieldAddr rfl rfl ?_; exact KQ.z)))
    refine GR.nil ?_
    (repeat refine GT.skip rfl ?_)
    refine GT.step rfl ?_
    refine GO.buildSlice1 rfl rfl (by simp; rfl) rfl ⟨by omega, by omega⟩ fun b6 => ?_
    refine GO.nil ⟨rfl, _, pt b6 (row [i64 p.1, .slice a5 p.2.length cap5] 52) :: own 52 2 k pv cells :: F, rfl, ImpS.sb (by ((refine Sb.c (Tk.t Tk.h) ?_; refine Sb.c (Tk.t Tk.h) ?_; refine Sb.c (Tk.t Tk.h) ?_; refine Sb.c (Tk.t Tk.h) ?_; refine Sb.c (Tk.t Tk.h) ?_; refine Sb.c Tk.h ?_; refine Sb.c Tk.h ?_); (exact Sb.r))), ?_⟩
    refine GT.step rfl ?_
    refine GO.appendOwn (m := 1) (news := [i64 p.1, .slice a5 p.2.length cap5]) rfl rfl rfl (by (exact (Tk.t (Tk.t (Tk.t (Tk.t (Tk.t (Tk.t Tk.h)))))))) (by (exact (Tk.t (Tk.t (Tk.t (Tk.t (Tk.t Tk.h))))))) rfl (by simp [Value.oneCell']) ⟨by decide, rfl⟩ Nat.one_pos (by have := hz.1; unfold maxLen; omega) (by have := hz.1; omega) fun v2 => ?_
    refine GO.ownOne Tk.h fun hone2 => ?_
    refine GO.nil ⟨rfl, _, own 52 2 (k + 1) v2 (cells ++ [i64 p.1, .slice a5 p.2.length cap5]) :: F, rfl, ImpS.sb (by ((refine Sb.c (Tk.t Tk.h) ?_; refine Sb.c (Tk.t Tk.h) ?_; refine Sb.c (Tk.t Tk.h) ?_; refine Sb.c (Tk.t Tk.h) ?_; refine Sb.c (Tk.t Tk.h) ?_; refine Sb.c Tk.h ?_); (refine Sb.s ?_; exact Sb.r))), ?_⟩
    (repeat refine GT.skip rfl ?_)
    refine GT.nil ?_
    refine GO.store1 rfl rfl hone2 (by (exact Tk.h)) (by simp) ?_
    (refine GO.nil ?_; refine kblock_n ?_; refine kthen_n ?_; refine G.region ?_; refine GO.move rfl rfl ?_; refine GO.addi rfl rfl rfl (by omega) ?_; refine GO.assign rfl rfl ?_; refine GO.nil ?_; refine kthen_n ?_)
    refine ⟨k + 1, v2, cells ++ [i64 p.1, .slice a5 p.2.length cap5], z', ⟨by omega, hc'⟩, by omega, ?_, ?_⟩
    · (refine SubE.c rfl rfl ?_; refine SubE.c rfl rfl ?_; refine SubE.c rfl rfl ?_; refine SubE.c rfl rfl ?_; exact SubE.n)
    · ((refine Sb.c (Tk.t (Tk.t (Tk.t (Tk.t (Tk.t Tk.h))))) ?_; refine Sb.c Tk.h ?_; refine Sb.c (Tk.t (Tk.t Tk.h)) ?_; refine Sb.c Tk.h ?_; refine Sb.c Tk.h ?_; refine Sb.c Tk.h ?_); (exact Sb.r))
  · have : k = C.prods.length := by omega
    subst this
    (refine G.exit ?_; refine G.seq ?_; refine G.region ?_)
    refine GO.loadW rfl rfl rfl (Tk.t Tk.h) rfl ?_
    refine GO.storeW rfl rfl (Tk.t (Tk.t (Tk.t (Tk.t (Tk.t Tk.h))))) ⟨rfl, rfl⟩ (by simp [Value.oneCell']; exact hone) ?_
    refine GO.ownRd (Tk.t Tk.h) fun q6 h6 => ?_
    refine GO.merge (x := q6) (y := z) (Tks.c Tk.h (Tks.c (by (exact (Tk.t (Tk.t Tk.h)))) Tks.n)) ?_
    (refine GO.nil ?_; refine kthen_n ?_; refine G.ret ?_)
    refine KF.r1 rfl (RV.cW rfl rfl (Tk.t Tk.h) rfl) ⟨star [q6, z], ⟨pv, rfl, cells, Sl.sup (Sup.left q6 z) h6, fun j p hj => (hc.sup (Sup.right q6 z)) j p (List.getElem?_eq_some_iff.1 hj).1 hj⟩, rfl⟩ ?_
    ((refine Sb.c Tk.h ?_; refine Sb.c (Tk.t (Tk.t (Tk.t Tk.h))) ?_); (refine Sb.s ?_; refine Sb.s ?_; refine Sb.s ?_; exact Sb.r))
end Go.Proofs.Ytjokibfldngkeaa
namespace Go.Proofs.Ytjokibfldngkeaa
open Go
attribute [local irreducible] G GO GR GT Fn pt init exs pur sat own ImpS
def symOK (n : Int) (s : SymD) : Bool := !(decide (s.2 < 0) || (s.1 && decide (16 ≤ s.2)) || (!s.1 && decide (n ≤ s.2)))
def prodOK (n : Int) (p : ProdD) : Bool := !(decide (p.1 < 0) || decide (n ≤ p.1)) && p.2.all (symOK n)
def okC (C : CnfD) : Bool := !(decide (C.nts < 1) || decide (1024 < C.nts)) && C.prods.all (prodOK C.nts)
theorem all_succ {α : Type} {l : List α} {k : Nat} {a : α} {f : α → Bool} (h : l[k]? = some a) (h1 : (l.take k).all f = true) (h2 : f a = true) : (l.take (k + 1)).all f = true := by
  rw [List.take_add_one, h, List.all_append, h1]; simp [h2]
theorem all_not {α : Type} {l : List α} {k : Nat} {a : α} {f : α → Bool} (h : l[k]? = some a) (h2 : f a = false) : l.all f = false := by
  rw [List.all_eq_false]; exact ⟨a, List.mem_of_getElem? h, by simp [h2]⟩
set_option maxHeartbeats 4000000 in
set_option maxRecDepth 20000 in
theorem rcheck_spec (q : HP) (v : Value) (C : CnfD) (hv : CnfR q v C) (hz : Fits C) : Fn Try.prog 43 #[v] [q] (fun r Q => r = i64 (if okC C then 0 else 220) ∧ Q = [q]) := by
  obtain ⟨pv, rfl, hp⟩ := hv
  obtain ⟨a0, cap0, rfl⟩ := hp.form
  have hz1 := hz.1
  refine Fn.mk Try.func43 rfl rfl fun w0 F => ?_
  (refine G.seq ?_; refine G.region ?_)
  refine GO.box rfl rfl rfl fun b1 => ?_
  (refine GO.assign rfl rfl ?_; refine GO.nil ?_; refine kthen_n ?_; refine G.seq ?_; refine G.seq ?_; refine G.region ?_; refine GO.fieldAddr rfl rfl ?_; refine GO.load1 rfl rfl rfl Tk.h rfl ?_; refine GO.lti rfl rfl rfl ?_; refine GO.move rfl rfl ?_)
  refine GO.cut1 14 (.bool (decide (C.nts < 1) || decide (1024 < C.nts))) ?_ ?_
  · refine GO.splitD 10 rfl (fun h => ?_) (fun h => ?_)
    · (refine GO.gF rfl rfl rfl rfl ?_; refine GO.gF rfl rfl rfl rfl ?_; refine GO.gF rfl rfl rfl rfl ?_; refine GO.pickT rfl rfl rfl ?_; refine GO.nil ?_; refine kthen_n ?_)
      refine ⟨?_, ImpS.sb ?_⟩
      · ((refine SubE.c rfl ?_ ?_; focus (simp; omega)); (refine SubE.c rfl ?_ ?_; focus (simp; omega)); refine SubE.c rfl rfl ?_; refine SubE.c rfl rfl ?_; refine SubE.c rfl rfl ?_; refine SubE.c rfl rfl ?_; refine SubE.c rfl rfl ?_; refine SubE.c rfl rfl ?_; exact SubE.n)
      · ((refine Sb.c Tk.h ?_; refine Sb.c Tk.h ?_); (exact Sb.r))
    · (refine GO.gT rfl rfl rfl ?_; refine GO.fieldAddr rfl rfl ?_; refine GO.gT rfl rfl rfl ?_; refine GO.load1 rfl rfl rfl Tk.h rfl ?_; refine GO.gT rfl rfl rfl ?_; refine GO.gti rfl rfl rfl ?_; refine GO.pickF rfl rfl rfl ?_; refine GO.nil ?_; refine kthen_n ?_)
      refine ⟨?_, ImpS.sb ?_⟩
      · ((refine SubE.c rfl ?_ ?_; focus (simp; omega)); (refine SubE.c rfl ?_ ?_; focus (simp; omega)); refine SubE.c rfl rfl ?_; refine SubE.c rfl rfl ?_; refine SubE.c rfl rfl ?_; refine SubE.c rfl rfl ?_; refine SubE.c rfl rfl ?_; refine SubE.c rfl rfl ?_; exact SubE.n)
      · ((refine Sb.c Tk.h ?_; refine Sb.c Tk.h ?_); (exact Sb.r))
  refine G.cond rfl (fun hb => ?_) (fun hb => ?_)
  · (refine G.seq ?_; refine G.region ?_; refine GO.assign rfl rfl ?_; refine GO.nil ?_; refine kthen_n ?_; refine G.ret ?_; refine kthen_r ?_)
    refine KF.r1 rfl (RV.t rfl) ⟨?_, rfl⟩ ?_
    · unfold okC; rw [hb]; rfl
    · ((refine Sb.c (Tk.t Tk.h) ?_); (refine Sb.s ?_; exact Sb.r))
  (refine G.skip ?_; refine kthen_n ?_; refine G.seq ?_; refine G.seq ?_; refine G.region ?_; refine GO.assign rfl rfl ?_; refine GO.nil ?_; refine kthen_n ?_; refine G.block ?_)
  refine G.loop (fun k : Nat => [(1, .pointer (some ⟨b1, 0, none⟩)), (3, i64 k)]) (fun _ => pt b1 (row [i64 C.nts, .slice a0 C.prods.length cap0] 24) :: q :: F) (fun k => k ≤ C.prods.length ∧ (C.prods.take k).all (prodOK C.nts) = true) (fun k => C.prods.length - k) 0 ⟨by omega, rfl⟩ ?_ ?_ ?_
  · (refine SubE.c rfl rfl ?_; refine SubE.c rfl rfl ?_; exact SubE.n)
  · ((refine Sb.c Tk.h ?_; refine Sb.c Tk.h ?_); (exact Sb.r))
  rintro k ⟨hk, hall⟩
  (refine G.seq ?_; refine G.seq ?_; refine G.region ?_; refine GO.move rfl rfl ?_; refine GO.fieldAddr rfl rfl ?_; refine GO.load1 rfl rfl rfl Tk.h rfl ?_; refine GO.lenS rfl rfl ?_; refine GO.lti rfl rfl rfl ?_; refine GO.nil ?_; refine kthen_n ?_)
  refine G.condD rfl (fun hlt => ?_) (fun hge => ?_)
  · have hlt' : k < C.prods.length := by omega
    obtain ⟨p, hpk⟩ : ∃ p, C.prods[k]? = some p := ⟨C.prods[k], by simp [hlt']⟩
    obtain ⟨b, o, bv, rfl, _, r1, r2, hs⟩ := hp.at hpk
    obtain ⟨ab, capb, rfl⟩ := hs.form
    have hpl := hz.2 p (List.mem_of_getElem? hpk)
    (refine G.skip ?_; refine kthen_n ?_; refine G.seq ?_; refine G.block ?_; refine G.seq ?_; refine G.region ?_; refine GO.fieldAddr rfl rfl ?_; refine GO.load1 rfl rfl rfl Tk.h rfl ?_; refine GO.move rfl rfl ?_; refine GO.idxS rfl rfl rfl ⟨rfl, by omega⟩ ?_)
    refine GO.load2 (q := q) rfl rfl rfl (by (exact (Tk.t Tk.h))) r1 r2 ?_
    refine GO.alloc rfl fun b4 => ?_
    refine GO.storeW rfl rfl Tk.h ⟨rfl, rfl⟩ (by simp [Value.oneCell']) ?_
    (refine GO.nil ?_; refine kthen_n ?_; refine G.seq ?_; refine G.seq ?_; refine G.region ?_; refine GO.fieldAddr rfl rfl ?_; refine GO.load1 rfl rfl rfl Tk.h rfl ?_; refine GO.lti rfl rfl rfl ?_; refine GO.move rfl rfl ?_)
    refine GO.cut1 36 (.bool (decide (p.1 < 0) || decide (C.nts ≤ p.1))) ?_ ?_
    · refine GO.splitD 30 rfl (fun h => ?_) (fun h => ?_)
      · (refine GO.gF rfl rfl rfl rfl ?_; refine GO.gF rfl rfl rfl rfl ?_; refine GO.gF rfl rfl rfl rfl ?_; refine GO.gF rfl rfl rfl rfl ?_; refine GO.gF rfl rfl rfl rfl ?_; refine GO.pickT rfl rfl rfl ?_; refine GO.nil ?_; refine kthen_n ?_)
        refine ⟨?_, ImpS.sb ?_⟩
        · ((refine SubE.c rfl ?_ ?_; focus (simp; omega)); (refine SubE.c rfl ?_ ?_; focus (simp; omega)); refine SubE.c rfl rfl ?_; refine SubE.c rfl rfl ?_; refine SubE.c rfl rfl ?_; refine SubE.c rfl rfl ?_; refine SubE.c rfl rfl ?_; refine SubE.c rfl rfl ?_; refine SubE.c rfl rfl ?_; refine SubE.c rfl rfl ?_; refine SubE.c rfl rfl ?_; refine SubE.c rfl rfl ?_; refine SubE.c rfl rfl ?_; refine SubE.c rfl rfl ?_; refine SubE.c rfl rfl ?_; refine SubE.c rfl rfl ?_; refine SubE.c rfl rfl ?_; refine SubE.c rfl rfl ?_; exact SubE.n)
        · ((refine Sb.c Tk.h ?_; refine Sb.c Tk.h ?_; refine Sb.c Tk.h ?_); (exact Sb.r))
      · (refine GO.gT rfl rfl rfl ?_; refine GO.fieldAddr rfl rfl ?_; refine GO.gT rfl rfl rfl ?_; refine GO.load1 rfl rfl rfl Tk.h rfl ?_; refine GO.gT rfl rfl rfl ?_; refine GO.fieldAddr rfl rfl ?_; refine GO.gT rfl rfl rfl ?_; refine GO.load1 rfl rfl rfl (Tk.t Tk.h) rfl ?_; refine GO.gT rfl rfl rfl ?_; refine GO.gei rfl rfl rfl ?_; refine GO.pickF rfl rfl rfl ?_; refine GO.nil ?_; refine kthen_n ?_)
        refine ⟨?_, ImpS.sb ?_⟩
        · ((refine SubE.c rfl ?_ ?_; focus (simp; omega)); (refine SubE.c rfl ?_ ?_; focus (simp; omega)); refine SubE.c rfl rfl ?_; refine SubE.c rfl rfl ?_; refine SubE.c rfl rfl ?_; refine SubE.c rfl rfl ?_; refine SubE.c rfl rfl ?_; refine SubE.c rfl rfl ?_; refine SubE.c rfl rfl ?_; refine SubE.c rfl rfl ?_; refine SubE.c rfl rfl ?_; refine SubE.c rfl rfl ?_; refine SubE.c rfl rfl ?_; refine SubE.c rfl rfl ?_; refine SubE.c rfl rfl ?_; refine SubE.c rfl rfl ?_; refine SubE.c rfl rfl ?_; refine SubE.c rfl rfl ?_; exact SubE.n)
        · ((refine Sb.c Tk.h ?_; refine Sb.c Tk.h ?_; refine Sb.c Tk.h ?_); (exact Sb.r))
    refine G.cond rfl (fun hb => ?_) (fun hb2 => ?_)
    · (refine G.seq ?_; refine G.region ?_; refine GO.assign rfl rfl ?_; refine GO.nil ?_; refine kthen_n ?_; refine G.ret ?_; refine kthen_r ?_; refine kblock_r ?_; refine kthen_r ?_; refine kthen_r ?_; refine kblock_r ?_; refine kthen_r ?_)
      refine KF.r1 rfl (RV.t rfl) ⟨?_, rfl⟩ ?_
      · unfold okC; rw [all_not hpk (by unfold prodOK; rw [hb]; rfl)]; simp
      · ((refine Sb.c (Tk.t (Tk.t Tk.h)) ?_); (refine Sb.s ?_; refine Sb.s ?_; exact Sb.r))
    (refine G.skip ?_; refine kthen_n ?_; refine G.seq ?_; refine G.region ?_; refine GO.assign rfl rfl ?_; refine GO.nil ?_; refine kthen_n ?_; refine G.block ?_)
    refine G.loop (fun j : Nat => [(1, .pointer (some ⟨b1, 0, none⟩)), (3, i64 k), (4, .pointer (some ⟨b4, 0, none⟩)), (5, i64 j)]) (fun _ => pt b4 (row [i64 p.1, .slice ab p.2.length capb] 52) :: pt b1 (row [i64 C.nts, .slice (some ⟨b, o, none⟩) C.prods.length cap0] 24) :: q :: F) (fun j => j ≤ p.2.length ∧ (p.2.take j).all (symOK C.nts) = true) (fun j => p.2.length - j) 0 ⟨by omega, rfl⟩ ?_ ?_ ?_
    · (refine SubE.c rfl rfl ?_; refine SubE.c rfl rfl ?_; refine SubE.c rfl rfl ?_; refine SubE.c rfl rfl ?_; exact SubE.n)
    · ((refine Sb.c Tk.h ?_; refine Sb.c Tk.h ?_; refine Sb.c Tk.h ?_); (exact Sb.r))
    rintro j ⟨hj, halls⟩
    (refine G.seq ?_; refine G.seq ?_; refine G.region ?_; refine GO.move rfl rfl ?_; refine GO.fieldAddr rfl rfl ?_; refine GO.load1 rfl rfl rfl Tk.h rfl ?_; refine GO.lenS rfl rfl ?_; refine GO.lti rfl rfl rfl ?_; refine GO.nil ?_; refine kthen_n ?_)
    refine G.condD rfl (fun hlt => ?_) (fun hge => ?_)
    · have hjl : j < p.2.length := by omega
      obtain ⟨⟨lb, m⟩, hsj⟩ : ∃ s : SymD, p.2[j]? = some s := ⟨p.2[j], by simp [hjl]⟩
      obtain ⟨b', o', rfl, _, r3, r4⟩ := hs.at hsj
      dsimp only at r3 r4
      (refine G.skip ?_; refine kthen_n ?_; refine G.seq ?_; refine G.block ?_; refine G.seq ?_; refine G.region ?_; refine GO.fieldAddr rfl rfl ?_; refine GO.load1 rfl rfl rfl Tk.h rfl ?_; refine GO.move rfl rfl ?_; refine GO.idxS rfl rfl rfl ⟨rfl, by omega⟩ ?_)
      refine GO.load2 (q := q) rfl rfl rfl (by (exact (Tk.t (Tk.t Tk.h)))) r3 r4 ?_
      refine GO.alloc rfl fun b6 => ?_
      refine GO.storeW rfl rfl Tk.h ⟨rfl, rfl⟩ (by simp [Value.oneCell']) ?_
      (refine GO.nil ?_; refine kthen_n ?_; refine G.seq ?_; refine G.region ?_; refine GO.fieldAddr rfl rfl ?_; refine GO.load1 rfl rfl rfl Tk.h rfl ?_; refine GO.lti rfl rfl rfl ?_; refine GO.move rfl rfl ?_)
      refine GO.cut1 72 (.bool (decide (m < 0) || (lb && decide (16 ≤ m)) || (!lb && decide (C.nts ≤ m)))) ?_ ?_
      · refine GO.splitD 52 rfl (fun h => ?_) (fun h => ?_)
        · (refine GO.gF rfl rfl rfl rfl ?_; refine GO.gF rfl rfl rfl rfl ?_; refine GO.gF rfl rfl rfl rfl ?_; refine GO.gU rfl rfl rfl ?_; refine GO.gU rfl rfl rfl ?_; refine GO.gU rfl rfl rfl ?_; refine GO.gF rfl rfl rfl rfl ?_; refine GO.pickT rfl rfl rfl ?_; refine GO.move rfl rfl ?_; refine GO.gF rfl rfl rfl rfl ?_; refine GO.gF rfl rfl rfl rfl ?_; refine GO.gF rfl rfl rfl rfl ?_; refine GO.gF rfl rfl rfl rfl ?_; refine GO.gU rfl rfl rfl ?_; refine GO.gU rfl rfl rfl ?_; refine GO.gU rfl rfl rfl ?_; refine GO.gU rfl rfl rfl ?_; refine GO.gU rfl rfl rfl ?_; refine GO.gF rfl rfl rfl rfl ?_; refine GO.pickT rfl rfl rfl ?_; refine GO.nil ?_; refine kthen_n ?_)
          refine ⟨?_, ImpS.sb ?_⟩
          · ((refine SubE.c rfl ?_ ?_; focus (simp; omega)); (refine SubE.c rfl ?_ ?_; focus (simp; omega)); refine SubE.c rfl rfl ?_; refine SubE.c rfl rfl ?_; refine SubE.c rfl rfl ?_; refine SubE.c rfl rfl ?_; refine SubE.c rfl rfl ?_; refine SubE.c rfl rfl ?_; refine SubE.c rfl rfl ?_; refine SubE.c rfl rfl ?_; refine SubE.c rfl rfl ?_; refine SubE.c rfl rfl ?_; refine SubE.c rfl rfl ?_; refine SubE.c rfl rfl ?_; refine SubE.c rfl rfl ?_; refine SubE.c rfl rfl ?_; refine SubE.c rfl rfl ?_; refine SubE.c rfl rfl ?_; refine SubE.c rfl rfl ?_; refine SubE.c rfl rfl ?_; exact SubE.n)
          · ((refine Sb.c Tk.h ?_; refine Sb.c Tk.h ?_; refine Sb.c Tk.h ?_; refine Sb.c Tk.h ?_); (exact Sb.r))
        · (refine GO.gT rfl rfl rfl ?_; refine GO.fieldAddr rfl rfl ?_; refine GO.gT rfl rfl rfl ?_; refine GO.load1 rfl rfl rfl Tk.h rfl ?_; refine GO.gT rfl rfl rfl ?_; refine GO.move rfl rfl ?_)
          cases lb with
          | true =>
            (refine GO.gT rfl rfl rfl ?_; refine GO.fieldAddr rfl rfl ?_; refine GO.gT rfl rfl rfl ?_; refine GO.load1 rfl rfl rfl Tk.h rfl ?_; refine GO.gT rfl rfl rfl ?_; refine GO.gei rfl rfl rfl ?_; refine GO.gT rfl rfl rfl ?_; refine GO.pickT rfl rfl rfl ?_; refine GO.pickF rfl rfl rfl ?_; refine GO.move rfl rfl ?_)
            refine GO.splitD 61 rfl (fun h2 => ?_) (fun h2 => ?_)
            · (refine GO.gF rfl rfl rfl rfl ?_; refine GO.gF rfl rfl rfl rfl ?_; refine GO.gF rfl rfl rfl rfl ?_; refine GO.gF rfl rfl rfl rfl ?_; refine GO.gU rfl rfl rfl ?_; refine GO.gU rfl rfl rfl ?_; refine GO.gU rfl rfl rfl ?_; refine GO.gU rfl rfl rfl ?_; refine GO.gU rfl rfl rfl ?_; refine GO.gF rfl rfl rfl rfl ?_; refine GO.pickT rfl rfl rfl ?_; refine GO.nil ?_; refine kthen_n ?_)
              refine ⟨?_, ImpS.sb ?_⟩
              · ((refine SubE.c rfl ?_ ?_; focus (simp; omega)); (refine SubE.c rfl ?_ ?_; focus (simp; omega)); refine SubE.c rfl rfl ?_; refine SubE.c rfl rfl ?_; refine SubE.c rfl rfl ?_; refine SubE.c rfl rfl ?_; refine SubE.c rfl rfl ?_; refine SubE.c rfl rfl ?_; refine SubE.c rfl rfl ?_; refine SubE.c rfl rfl ?_; refine SubE.c rfl rfl ?_; refine SubE.c rfl rfl ?_; refine SubE.c rfl rfl ?_; refine SubE.c rfl rfl ?_; refine SubE.c rfl rfl ?_; refine SubE.c rfl rfl ?_; refine SubE.c rfl rfl ?_; refine SubE.c rfl rfl ?_; refine SubE.c rfl rfl ?_; refine SubE.c rfl rfl ?_; exact SubE.n)
              · ((refine Sb.c Tk.h ?_; refine Sb.c Tk.h ?_; refine Sb.c Tk.h ?_; refine Sb.c Tk.h ?_); (exact Sb.r))
            · (refine GO.gT rfl rfl rfl ?_; refine GO.fieldAddr rfl rfl ?_; refine GO.gT rfl rfl rfl ?_; refine GO.load1 rfl rfl rfl Tk.h rfl ?_; refine GO.gT rfl rfl rfl ?_; refine GO.not rfl rfl ?_; refine GO.gT rfl rfl rfl ?_; refine GO.move rfl rfl ?_; refine GO.gF rfl rfl rfl rfl ?_; refine GO.gF rfl rfl rfl rfl ?_; refine GO.gF rfl rfl rfl rfl ?_; refine GO.gF rfl rfl rfl rfl ?_; refine GO.gF rfl rfl rfl rfl ?_; refine GO.gT rfl rfl rfl ?_; refine GO.pickF rfl rfl rfl ?_; refine GO.pickF rfl rfl rfl ?_; refine GO.nil ?_; refine kthen_n ?_)
              refine ⟨?_, ImpS.sb ?_⟩
              · ((refine SubE.c rfl ?_ ?_; focus (simp; omega)); (refine SubE.c rfl ?_ ?_; focus (simp; omega)); refine SubE.c rfl rfl ?_; refine SubE.c rfl rfl ?_; refine SubE.c rfl rfl ?_; refine SubE.c rfl rfl ?_; refine SubE.c rfl rfl ?_; refine SubE.c rfl rfl ?_; refine SubE.c rfl rfl ?_; refine SubE.c rfl rfl ?_; refine SubE.c rfl rfl ?_; refine SubE.c rfl rfl ?_; refine SubE.c rfl rfl ?_; refine SubE.c rfl rfl ?_; refine SubE.c rfl rfl ?_; refine SubE.c rfl rfl ?_; refine SubE.c rfl rfl ?_; refine SubE.c rfl rfl ?_; refine SubE.c rfl rfl ?_; refine SubE.c rfl rfl ?_; exact SubE.n)
              · ((refine Sb.c Tk.h ?_; refine Sb.c Tk.h ?_; refine Sb.c Tk.h ?_; refine Sb.c Tk.h ?_); (exact Sb.r))
          | false =>
            (refine GO.gF rfl rfl rfl rfl ?_; refine GO.gF rfl rfl rfl rfl ?_; refine GO.gF rfl rfl rfl rfl ?_; refine GO.gT rfl rfl rfl ?_; refine GO.pickF rfl rfl rfl ?_; refine GO.pickF rfl rfl rfl ?_; refine GO.move rfl rfl ?_; refine GO.gT rfl rfl rfl ?_; refine GO.fieldAddr rfl rfl ?_; refine GO.gT rfl rfl rfl ?_; refine GO.load1 rfl rfl rfl Tk.h rfl ?_; refine GO.gT rfl rfl rfl ?_; refine GO.not rfl rfl ?_; refine GO.gT rfl rfl rfl ?_; refine GO.move rfl rfl ?_; refine GO.gT rfl rfl rfl ?_; refine GO.fieldAddr rfl rfl ?_; refine GO.gT rfl rfl rfl ?_; refine GO.load1 rfl rfl rfl Tk.h rfl ?_; refine GO.gT rfl rfl rfl ?_; refine GO.fieldAddr rfl rfl ?_; refine GO.gT rfl rfl rfl ?_; refine GO.load1 rfl rfl rfl (Tk.t (Tk.t Tk.h)) rfl ?_; refine GO.gT rfl rfl rfl ?_; refine GO.gei rfl rfl rfl ?_; refine GO.gT rfl rfl rfl ?_; refine GO.pickT rfl rfl rfl ?_; refine GO.pickF rfl rfl rfl ?_; refine GO.nil ?_; refine kthen_n ?_)
            refine ⟨?_, ImpS.sb ?_⟩
            · ((refine SubE.c rfl ?_ ?_; focus (simp; omega)); (refine SubE.c rfl ?_ ?_; focus (simp; omega)); refine SubE.c rfl rfl ?_; refine SubE.c rfl rfl ?_; refine SubE.c rfl rfl ?_; refine SubE.c rfl rfl ?_; refine SubE.c rfl rfl ?_; refine SubE.c rfl rfl ?_; refine SubE.c rfl rfl ?_; refine SubE.c rfl rfl ?_; refine SubE.c rfl rfl ?_; refine SubE.c rfl rfl ?_; refine SubE.c rfl rfl ?_; refine SubE.c rfl rfl ?_; refine SubE.c rfl rfl ?_; refine SubE.c rfl rfl ?_; refine SubE.c rfl rfl ?_; refine SubE.c rfl rfl ?_; refine SubE.c rfl rfl ?_; refine SubE.c rfl rfl ?_; exact SubE.n)
            · ((refine Sb.c Tk.h ?_; refine Sb.c Tk.h ?_; refine Sb.c Tk.h ?_; refine Sb.c Tk.h ?_); (exact Sb.r))
      refine G.cond rfl (fun hb3 => ?_) (fun hb3 => ?_)
      · (refine G.seq ?_; refine G.region ?_; refine GO.assign rfl rfl ?_; refine GO.nil ?_; refine kthen_n ?_; refine G.ret ?_; refine kblock_r ?_; refine kthen_r ?_; refine kthen_r ?_; refine kblock_r ?_; refine kblock_r ?_; refine kthen_r ?_; refine kthen_r ?_; refine kblock_r ?_; refine kthen_r ?_)
        refine KF.r1 rfl (RV.t rfl) ⟨?_, rfl⟩ ?_
        · unfold okC
          rw [all_not hpk (by unfold prodOK; rw [all_not hsj (by unfold symOK; rw [hb3]; rfl)]; simp)]; simp
        · ((refine Sb.c (Tk.t (Tk.t (Tk.t Tk.h))) ?_); (refine Sb.s ?_; refine Sb.s ?_; refine Sb.s ?_; exact Sb.r))
      (refine G.skip ?_; refine kblock_n ?_; refine kthen_n ?_; refine G.region ?_; refine GO.move rfl rfl ?_; refine GO.addi rfl rfl rfl (by omega) ?_; refine GO.assign rfl rfl ?_; refine GO.nil ?_; refine kthen_n ?_)
      refine ⟨j + 1, ⟨by omega, all_succ hsj halls (by unfold symOK; rw [hb3]; rfl)⟩, by omega, ?_, ?_⟩
      · (refine SubE.c rfl rfl ?_; refine SubE.c rfl rfl ?_; refine SubE.c rfl rfl ?_; refine SubE.c rfl rfl ?_; exact SubE.n)
      · ((refine Sb.c (Tk.t Tk.h) ?_; refine Sb.c (Tk.t Tk.h) ?_; refine Sb.c (Tk.t Tk.h) ?_); (refine Sb.s ?_; exact Sb.r))
    · have : j = p.2.length := by omega
      subst this
      rw [List.take_length] at halls
      (refine G.exit ?_; refine G.region ?_; refine GO.move rfl rfl ?_; refine GO.addi rfl rfl rfl (by omega) ?_; refine GO.assign rfl rfl ?_; refine GO.nil ?_; refine kthen_n ?_)
      refine ⟨k + 1, ⟨by omega, all_succ hpk hall (by unfold prodOK; rw [hb2, halls]; rfl)⟩, by omega, ?_, ?_⟩
      · (refine SubE.c rfl rfl ?_; refine SubE.c rfl rfl ?_; exact SubE.n)
      · ((refine Sb.c (Tk.t Tk.h) ?_; refine Sb.c (Tk.t Tk.h) ?_); (refine Sb.s ?_; exact Sb.r))
  · have : k = C.prods.length := by omega
    subst this
    rw [List.take_length] at hall
    (refine G.exit ?_; refine G.seq ?_; refine G.region ?_; refine GO.assign rfl rfl ?_; refine GO.nil ?_; refine kthen_n ?_; refine G.ret ?_)
    refine KF.r1 rfl (RV.t rfl) ⟨?_, rfl⟩ ?_
    · unfold okC; rw [hb, hall]; rfl
    · ((refine Sb.c (Tk.t Tk.h) ?_); (refine Sb.s ?_; exact Sb.r))
end Go.Proofs.Ytjokibfldngkeaa
namespace Go.Proofs.Ytjokibfldngkeaa
open Go
/-- By bodies of at most two symbols: which piece of a word a nonterminal derives. -/
inductive Der (C : CnfD) (w : List Int) : Int → Nat → Nat → Prop
  | none {A : Int} {i : Nat} (h : (A, []) ∈ C.prods) (hi : i ≤ w.length) : Der C w A i i
  | one {A : Int} {s : SymD} {i : Nat} (h : (A, [s]) ∈ C.prods) (hi : w[i]? = some s.2) : Der C w A i (i + 1)
  | two {A : Int} {s t : SymD} {i j k : Nat} (h : (A, [s, t]) ∈ C.prods) (h1 : Der C w s.2 i k) (h2 : Der C w t.2 k j) : Der C w A i j
theorem Der.le {C : CnfD} {w : List Int} {A : Int} {i j : Nat} (h : Der C w A i j) : i ≤ j ∧ j ≤ w.length := by
  induction h with
  | none _ hi => exact ⟨Nat.le_refl _, hi⟩
  | one _ hi => exact ⟨Nat.le_succ _, (List.getElem?_eq_some_iff.1 hi).1⟩
  | two _ _ _ ih1 ih2 => exact ⟨Nat.le_trans ih1.1 ih2.1, ih2.2⟩
theorem Der.head {C : CnfD} {w : List Int} {A : Int} {i j : Nat} (h : Der C w A i j) : ∃ b, (A, b) ∈ C.prods := by
  cases h with
  | none h _ => exact ⟨_, h⟩
  | one h _ => exact ⟨_, h⟩
  | two h _ _ => exact ⟨_, h⟩
def factV (A : Int) (i j : Nat) : F3 := (A, (i : Nat), (j : Nat))
/-- All facts of a table hold. -/
def Sound (C : CnfD) (w : List Int) (fs : List F3) : Prop := ∀ f ∈ fs, ∃ A i j, f = factV A i j ∧ Der C w A i j
/-- The facts of the bodies without nonterminals are there. -/
def BaseP (w : List Int) (p : ProdD) (fs : List F3) : Prop :=
  (p.2 = [] → ∀ i, i ≤ w.length → factV p.1 i i ∈ fs) ∧ (∀ s, p.2 = [s] → ∀ i, w[i]? = some s.2 → factV p.1 i (i + 1) ∈ fs)
/-- What a fact makes with those that are there is there. -/
def JoinP (p : ProdD) (A : Int) (i j : Nat) (fs gs : List F3) : Prop :=
  ∀ s t, p.2 = [s, t] → (s.2 = A → ∀ k, factV t.2 j k ∈ fs → factV p.1 i k ∈ gs) ∧ (t.2 = A → ∀ k, factV s.2 k i ∈ fs → factV p.1 k j ∈ gs)
def JoinC (C : CnfD) (f : F3) (fs gs : List F3) : Prop := ∀ A i j, f = factV A i j → ∀ p ∈ C.prods, JoinP p A i j fs gs
theorem factV_inj {A B : Int} {i j k l : Nat} (h : factV A i j = factV B k l) : A = B ∧ i = k ∧ j = l := by
  unfold factV at h
  simp only [Prod.mk.injEq] at h
  omega
theorem closed_der {C : CnfD} {w : List Int} {fs : List F3} (hb : ∀ p ∈ C.prods, BaseP w p fs)
    (hj : ∀ p ∈ C.prods, ∀ s t, p.2 = [s, t] → ∀ i k j, factV s.2 i k ∈ fs → factV t.2 k j ∈ fs → factV p.1 i j ∈ fs) {A : Int} {i j : Nat} (h : Der C w A i j) : factV A i j ∈ fs := by
  induction h with
  | none h hi => exact (hb _ h).1 rfl _ hi
  | one h hi => exact (hb _ h).2 _ rfl _ hi
  | two h _ _ ih1 ih2 => exact hj _ h _ _ rfl _ _ _ ih1 ih2
/-- The facts that there may be. -/
def univL (n m : Nat) : List F3 := (List.range n).flatMap fun a => (List.range (m + 1)).flatMap fun i => (List.range (m + 1)).map fun j => factV (a : Nat) i j
theorem univL_len (n m : Nat) : (univL n m).length = n * ((m + 1) * (m + 1)) := by
  have h1 : ∀ (l : List Nat) (f : Nat → List F3) (k : Nat), (∀ x ∈ l, (f x).length = k) → (l.flatMap f).length = l.length * k := by
    intro l f k
    induction l with
    | nil => intro _; simp
    | cons x l ih =>
      intro h
      rw [List.flatMap_cons, List.length_append, h x (List.mem_cons_self ..), ih (fun y hy => h y (List.mem_cons_of_mem _ hy)), List.length_cons, Nat.add_mul]; omega
  unfold univL
  rw [h1 _ _ ((m + 1) * (m + 1)) (fun a _ => by
    rw [h1 _ _ (m + 1) (fun i _ => by simp)]; simp)]
  simp
theorem mem_univ {n m A i j : Nat} (h : A < n) (hi : i ≤ m) (hj : j ≤ m) : factV (A : Nat) i j ∈ univL n m := by
  unfold univL
  simp only [List.mem_flatMap, List.mem_map, List.mem_range]
  exact ⟨A, h, i, by omega, j, by omega, rfl⟩
theorem nodup_len {α : Type} [DecidableEq α] : ∀ {l m : List α}, l.Nodup → (∀ x ∈ l, x ∈ m) → l.length ≤ m.length
  | [], m, _, _ => Nat.zero_le _
  | a :: l, m, hn, hs => by
    rw [List.nodup_cons] at hn
    have ha := hs a (List.mem_cons_self ..)
    have h1 : l.length ≤ (m.erase a).length := nodup_len hn.2 fun x hx => by
      rw [List.mem_erase_of_ne (fun e => hn.1 (by rw [← e]; exact hx))]
      exact hs x (List.mem_cons_of_mem _ hx)
    rw [List.length_erase_of_mem ha] at h1
    have := List.length_pos_of_mem ha
    simp only [List.length_cons]; omega
theorem okC_nts {C : CnfD} (h : okC C = true) : 1 ≤ C.nts ∧ C.nts ≤ 1024 := by
  unfold okC at h
  simp only [Bool.and_eq_true, Bool.not_eq_true', Bool.or_eq_false_iff, decide_eq_false_iff_not] at h
  omega
theorem okC_prod {C : CnfD} (h : okC C = true) {p : ProdD} (hp : p ∈ C.prods) : 0 ≤ p.1 ∧ p.1 < C.nts := by
  unfold okC at h
  rw [Bool.and_eq_true] at h
  have h2 := List.all_eq_true.1 h.2 p hp
  unfold prodOK at h2
  simp only [Bool.and_eq_true, Bool.not_eq_true', Bool.or_eq_false_iff, decide_eq_false_iff_not] at h2
  omega
theorem sound_len {C : CnfD} {w : List Int} {fs : List F3} (hC : okC C = true) (hs : Sound C w fs) (hn : fs.Nodup) : fs.length ≤ C.nts.toNat * ((w.length + 1) * (w.length + 1)) := by
  rw [← univL_len]
  refine nodup_len hn fun f hf => ?_
  obtain ⟨A, i, j, rfl, hd⟩ := hs f hf
  obtain ⟨b, hb⟩ := hd.head
  have h1 := okC_prod hC hb
  dsimp only at h1
  have h2 := hd.le
  obtain ⟨a, rfl⟩ := Int.eq_ofNat_of_zero_le h1.1
  exact mem_univ (by omega) (by omega) (by omega)
/-- A fact that is new is added. -/
def addF (fs : List F3) (f : F3) : List F3 := if f ∈ fs then fs else fs ++ [f]
theorem addF_mem {fs : List F3} {f g : F3} : g ∈ addF fs f ↔ g ∈ fs ∨ g = f := by
  unfold addF
  split
  · rename_i h
    constructor
    · exact .inl
    · rintro (h1 | rfl)
      · exact h1
      · exact h
  · simp
theorem addF_nodup {fs : List F3} (h : fs.Nodup) (f : F3) : (addF fs f).Nodup := by
  unfold addF
  split
  · exact h
  · rename_i hf
    rw [List.nodup_append]
    exact ⟨h, by simp, fun a ha b hb => by simp at hb; subst hb; exact fun e => hf (e ▸ ha)⟩
theorem addF_pre (fs : List F3) (f : F3) : ∃ t, addF fs f = fs ++ t := by
  unfold addF
  split
  · exact ⟨[], by simp⟩
  · exact ⟨[f], rfl⟩
theorem addF_sound {C : CnfD} {w : List Int} {fs : List F3} (h : Sound C w fs) {A : Int} {i j : Nat} (hd : Der C w A i j) : Sound C w (addF fs (factV A i j)) := fun f hf => by
  rcases addF_mem.1 hf with h1 | rfl
  · exact h f h1
  · exact ⟨A, i, j, rfl, hd⟩
theorem JoinP.mono {p : ProdD} {A : Int} {i j : Nat} {fs gs hs : List F3} (h : JoinP p A i j fs gs) (k : ∀ x ∈ gs, x ∈ hs) : JoinP p A i j fs hs := fun s t e =>
  ⟨fun h1 n hn => k _ ((h s t e).1 h1 n hn), fun h1 n hn => k _ ((h s t e).2 h1 n hn)⟩
theorem BaseP.mono {w : List Int} {p : ProdD} {fs gs : List F3} (h : BaseP w p fs) (k : ∀ x ∈ fs, x ∈ gs) : BaseP w p gs :=
  ⟨fun e i hi => k _ (h.1 e i hi), fun s e i hi => k _ (h.2 s e i hi)⟩
end Go.Proofs.Ytjokibfldngkeaa
namespace Go.Proofs.Ytjokibfldngkeaa
open Go
theorem EqFs.three {P : Program} {t : TypeId} {k : IntKind} [UL P t (.int k)] {d : Nat} {f1 f2 f3 : Field} {a b c a' b' c' : Int} (n1 : f1.name ≠ "_") (n2 : f2.name ≠ "_") (n3 : f3.name ≠ "_") (t1 : f1.type = t) (t2 : f2.type = t) (t3 : f3.type = t) (o1 : f1.offset = 0) (o2 : f2.offset = 1) (o3 : f3.offset = 2) :
    EqFs P (d + 1) [i64 a, i64 b, i64 c] [i64 a', i64 b', i64 c'] [f1, f2, f3] (decide (a = a') && (decide (b = b') && decide (c = c'))) := by
  refine ⟨i64 a, i64 a', decide (a = a'), _, n1, ?_, ?_, ?_, ⟨i64 b, i64 b', decide (b = b'), _, n2, ?_, ?_, ?_, ⟨i64 c, i64 c', decide (c = c'), true, n3, ?_, ?_, ?_, rfl, by simp⟩, rfl⟩, rfl⟩
  · rw [t1, o1]; exact PartR.one rfl rfl
  · rw [t1, o1]; exact PartR.one rfl rfl
  · rw [t1]; exact EqR.int
  · rw [t2, o2]; exact PartR.one rfl rfl
  · rw [t2, o2]; exact PartR.one rfl rfl
  · rw [t2]; exact EqR.int
  · rw [t3, o3]; exact PartR.one rfl rfl
  · rw [t3, o3]; exact PartR.one rfl rfl
  · rw [t3]; exact EqR.int
theorem EqR.f3 (a b : F3) : EqR Try.prog 10000 62 (f3V a) (f3V b) (decide (a = b)) := by
  have h : EqR Try.prog (9998 + 1 + 1) 62 (.agg [i64 a.1, i64 a.2.1, i64 a.2.2].toArray) (.agg [i64 b.1, i64 b.2.1, i64 b.2.2].toArray) (decide (a.1 = b.1) && (decide (a.2.1 = b.2.1) && decide (a.2.2 = b.2.2))) :=
    EqR.struct (EqFs.three (t := 3) (by decide) (by decide) (by decide) rfl rfl rfl rfl rfl rfl)
  rwa [show (decide (a.1 = b.1) && (decide (a.2.1 = b.2.1) && decide (a.2.2 = b.2.2))) = decide (a = b) by
    rw [Bool.eq_iff_iff]; simp only [Bool.and_eq_true, decide_eq_true_iff]; exact ⟨fun h => Prod.ext h.1 (Prod.ext h.2.1 h.2.2), fun h => by rw [h]; exact ⟨rfl, rfl, rfl⟩⟩] at h
theorem check_f3 (e : Bool) (a : F3) (w : World) : (Instr.checkKey e 10000 62 (f3V a)).run Try.prog w = .ok () w := by
  have h3 : ∀ (v : Value) (w : World), (∃ n, v = i64 n) → (Instr.checkKey e 9999 3 v).run Try.prog w = .ok () w := fun v w ⟨n, hv⟩ => by
    subst hv
    unfold Instr.checkKey
    rw [Sem.run_bind, run_underlying Try.underlying3, Result.andThen_ok]
    rfl
  have p0 : ∀ w, (part 3 [i64 a.1, i64 a.2.1, i64 a.2.2].toArray 0).run Try.prog w = .ok (i64 a.1) w := fun w => run_part1 (P := Try.prog) (t := 3) rfl rfl w
  have p1 : ∀ w, (part 3 [i64 a.1, i64 a.2.1, i64 a.2.2].toArray 1).run Try.prog w = .ok (i64 a.2.1) w := fun w => run_part1 (P := Try.prog) (t := 3) rfl rfl w
  have p2 : ∀ w, (part 3 [i64 a.1, i64 a.2.1, i64 a.2.2].toArray 2).run Try.prog w = .ok (i64 a.2.2) w := fun w => run_part1 (P := Try.prog) (t := 3) rfl rfl w
  unfold Instr.checkKey f3V
  rw [Sem.run_bind, run_underlying Try.underlying62, Result.andThen_ok]
  simp [Sem.run_bind, Result.andThen, p0, p1, p2, h3]
instance : K3 Try.prog 62 := ⟨EqR.f3, ⟨_, Try.underlying62⟩, check_f3⟩
instance : ZV Try.prog 3 (i64 0) := ⟨by kernel_rfl⟩
/-- A table's facts, by their numbers. -/
def numF (n : Nat) : List F3 → List (F3 × Value)
  | [] => []
  | f :: fs => (f, i64 (n : Nat)) :: numF (n + 1) fs
theorem numF_snoc (f : F3) : ∀ (fs : List F3) (n : Nat), numF n (fs ++ [f]) = numF n fs ++ [(f, i64 ((n + fs.length : Nat) : Int))]
  | [], n => rfl
  | g :: fs, n => by
    show _ :: numF (n + 1) (fs ++ [f]) = _ :: (numF (n + 1) fs ++ _)
    rw [numF_snoc f fs (n + 1), List.length_cons, show n + 1 + fs.length = n + (fs.length + 1) by omega]
theorem find_num (f : F3) : ∀ (fs : List F3) (n i : Nat), (f ∈ fs → ∃ j v, findL f (numF n fs) i = some (j, v)) ∧ (f ∉ fs → findL f (numF n fs) i = none)
  | [], n, i => ⟨fun h => by simp at h, fun _ => rfl⟩
  | g :: fs, n, i => by
    have ih := find_num f fs (n + 1) (i + 1)
    have e : findL f (numF n (g :: fs)) i = if f = g then some (i, i64 (n : Nat)) else findL f (numF (n + 1) fs) (i + 1) := rfl
    rw [e]
    by_cases h : f = g
    · rw [if_pos h]
      exact ⟨fun _ => ⟨_, _, rfl⟩, fun hn => absurd (by rw [h]; exact List.mem_cons_self ..) hn⟩
    · rw [if_neg h]
      simp only [List.mem_cons, h, false_or]
      exact ih
theorem look_num (f : F3) (fs : List F3) (z : Value) : ∃ v, lookV z f (numF 0 fs) = .tuple #[v, .bool (decide (f ∈ fs))] := by
  obtain ⟨h1, h2⟩ := find_num f fs 0 0
  unfold lookV
  by_cases h : f ∈ fs
  · obtain ⟨j, v, e⟩ := h1 h
    rw [e, decide_eq_true h]; exact ⟨v, rfl⟩
  · rw [h2 h, decide_eq_false h]; exact ⟨z, rfl⟩
def f3sV (fs : List F3) : List Value := fs.flatMap fun f => [i64 f.1, i64 f.2.1, i64 f.2.2]
theorem f3sV_len (fs : List F3) : (f3sV fs).length = fs.length * 3 := by
  induction fs with
  | nil => rfl
  | cons p fs ih => simp only [f3sV, List.flatMap_cons, List.length_append, List.length_cons, List.length_nil] at ih ⊢; omega
theorem f3sV_snoc (fs : List F3) (f : F3) : f3sV (fs ++ [f]) = f3sV fs ++ [i64 f.1, i64 f.2.1, i64 f.2.2] := by simp [f3sV]
abbrev ptrT (b : Nat) : Value := .pointer (some ⟨b, 0, none⟩)
/-- A table: at bt; its map at bm; its row. -/
abbrev tabH (bt : Nat) (n : Int) (pv wv : Value) (bm : Nat) (rv : Value) : HP := pt bt (row [i64 n, pv, wv, .map (some bm), rv] 88)
abbrev tabL (bt : Nat) (n : Int) (pv wv : Value) (bm : Nat) (rv : Value) (fs : List F3) : List HP := [tabH bt n pv wv bm rv, pt bm (mapO (numF 0 fs)), own 62 3 fs.length rv (f3sV fs)]
attribute [local irreducible] G GO GR GT Fn FnV pt init exs pur sat own ImpS f3sV numF mapO
set_option maxHeartbeats 4000000 in
theorem has_spec (bt : Nat) (n : Int) (pv wv : Value) (bm : Nat) (rv : Value) (fs : List F3) (f : F3) :
    Fn Try.prog 27 #[ptrT bt, f3V f] (tabL bt n pv wv bm rv fs) (fun r Q => r = .bool (decide (f ∈ fs)) ∧ Q = tabL bt n pv wv bm rv fs) := by
  obtain ⟨u, hu⟩ := look_num f fs (i64 0)
  obtain ⟨f1, f2, f3⟩ := f
  refine Fn.mk2 Try.func27 rfl rfl fun w0 F => ?_
  (refine G.seq ?_; refine G.region ?_; refine GO.box rfl rfl rfl fun b3 => ?_; refine GO.assign rfl rfl ?_; refine GO.nil ?_; refine kthen_n ?_; refine G.seq ?_)
  refine G.draw 11 (by kernel_rfl) ?_
  ((apply GQ.step; focus (intro Z; refine GO.move rfl rfl ?_; exact KQ.z)); (apply GQ.step; focus (intro Z; refine GO.nilCheck rfl rfl ?_; exact KQ.z)); (apply GQ.step; focus (intro Z; refine GO.fieldAddr rfl rfl ?_; exact KQ.z)); (apply GQ.step; focus (intro Z; refine GO.load1 rfl rfl rfl (Tk.t Tk.h) rfl ?_; exact KQ.z)); (apply GQ.step; focus (intro Z; refine GO.loadW rfl rfl rfl Tk.h rfl ?_; exact KQ.z)))
  apply GQ.step; focus (intro Z; refine GO.lookupK (l := numF 0 fs) (k := (f1, f2, f3)) rfl rfl rfl (Tk.t (Tk.t Tk.h)) ?_; rw [hu]; exact KQ.z)
  ((apply GQ.step; focus (intro Z; refine GO.move rfl rfl ?_; exact KQ.z)); (apply GQ.step; focus (intro Z; refine GO.extract rfl rfl rfl ?_; exact KQ.z)); (apply GQ.step; focus (intro Z; refine GO.extract rfl rfl rfl ?_; exact KQ.z)); (apply GQ.step; focus (intro Z; refine GO.assign rfl rfl ?_; exact KQ.z)); (apply GQ.step; focus (intro Z; refine GO.assign rfl rfl ?_; exact KQ.z)); refine GQ.nil ?_)
  (refine GO.nil ?_; refine kthen_n ?_; refine G.seq ?_; refine G.region ?_; refine GO.move rfl rfl ?_; refine GO.assign rfl rfl ?_; refine GO.nil ?_; refine kthen_n ?_; refine G.ret ?_)
  refine KF2.r1 rfl (RV.t rfl) ⟨rfl, rfl⟩ (ImpS.sb ?_)
  ((refine Sb.c (Tk.t Tk.h) ?_; refine Sb.c (Tk.t Tk.h) ?_; refine Sb.c (Tk.t Tk.h) ?_); (refine Sb.s ?_; exact Sb.r))
set_option maxHeartbeats 4000000 in
theorem add_spec (bt : Nat) (n : Int) (pv wv : Value) (bm : Nat) (rv : Value) (fs : List F3) (f : F3) (hn : ¬ 10000000 ≤ fs.length) :
    Fn Try.prog 56 #[ptrT bt, f3V f] (tabL bt n pv wv bm rv fs) (fun r Q => ∃ rv', Q = tabL bt n pv wv bm rv' (addF fs f)) := by
  have hs := has_spec bt n pv wv bm rv fs f
  obtain ⟨_, hnone⟩ := find_num f fs 0 0
  have hsn := f3sV_snoc fs f
  have hnum := numF_snoc f fs 0
  rw [Nat.zero_add] at hnum
  unfold addF
  by_cases hf : f ∈ fs
  · rw [decide_eq_true hf] at hs
    rw [if_pos hf]
    obtain ⟨f1, f2, f3⟩ := f
    refine Fn.mk2 Try.func56 rfl rfl fun w0 F => ?_
    (refine G.seq ?_; refine G.region ?_; refine GO.box rfl rfl rfl fun b3 => ?_; refine GO.nil ?_; refine kthen_n ?_; refine G.seq ?_; refine G.region ?_; refine GO.move rfl rfl ?_; refine GO.loadW rfl rfl rfl Tk.h rfl ?_)
    refine GO.call2 rfl rfl rfl (hs) (Tks.c (Tk.t Tk.h) (Tks.c (Tk.t Tk.h) (Tks.c (Tk.t Tk.h) Tks.n))) ?_
    rintro _ _ ⟨rfl, rfl⟩
    (refine GO.not rfl rfl ?_; refine GO.nil ?_; refine kthen_n ?_; refine G.condF rfl rfl ?_; refine G.skip ?_)
    refine KF2.n0 rfl ⟨rv, rfl⟩ (ImpS.sb ?_)
    ((refine Sb.c Tk.h ?_; refine Sb.c Tk.h ?_; refine Sb.c Tk.h ?_); (refine Sb.s ?_; exact Sb.r))
  · rw [decide_eq_false hf] at hs
    rw [if_neg hf]
    replace hnone := hnone hf
    obtain ⟨f1, f2, f3⟩ := f
    dsimp only at hsn
    refine Fn.mk2 Try.func56 rfl rfl fun w0 F => ?_
    (refine G.seq ?_; refine G.region ?_; refine GO.box rfl rfl rfl fun b3 => ?_; refine GO.nil ?_; refine kthen_n ?_; refine G.seq ?_; refine G.region ?_; refine GO.move rfl rfl ?_; refine GO.loadW rfl rfl rfl Tk.h rfl ?_)
    refine GO.call2 rfl rfl rfl (hs) (Tks.c (Tk.t Tk.h) (Tks.c (Tk.t Tk.h) (Tks.c (Tk.t Tk.h) Tks.n))) ?_
    rintro _ _ ⟨rfl, rfl⟩
    (refine GO.not rfl rfl ?_; refine GO.nil ?_; refine kthen_n ?_; refine G.condT rfl rfl ?_; refine G.seq ?_)
    refine G.draw 10 (by kernel_rfl) ?_
    ((apply GQ.step; focus (intro Z; refine GO.move rfl rfl ?_; exact KQ.z)); (apply GQ.step; focus (intro Z; refine GO.nilCheck rfl rfl ?_; exact KQ.z)); (apply GQ.step; focus (intro Z; refine GO.fieldAddr rfl rfl ?_; exact KQ.z)); (apply GQ.step; focus (intro Z; refine GO.load1 rfl rfl rfl Tk.h rfl ?_; exact KQ.z)); (apply GQ.step; focus (intro Z; refine GO.loadW rfl rfl rfl (Tk.t (Tk.t (Tk.t Tk.h))) rfl ?_; exact KQ.z)); (apply GQ.step; focus (intro Z; refine GO.move rfl rfl ?_; exact KQ.z)); (apply GQ.step; focus (intro Z; refine GO.nilCheck rfl rfl ?_; exact KQ.z)); (apply GQ.step; focus (intro Z; refine GO.fieldAddr rfl rfl ?_; exact KQ.z)); (apply GQ.step; focus (intro Z; refine GO.load1 rfl rfl rfl Tk.h rfl ?_; exact KQ.z)); (apply GQ.step; focus (intro Z; refine GO.lenOwn rfl rfl (Tk.t (Tk.t Tk.h)) ?_; exact KQ.z)); refine GQ.nil ?_)
    skip
    refine GO.insertK (l := numF 0 fs) (k := (f1, f2, f3)) rfl rfl rfl (Tk.t Tk.h) hnone ?_
    rw [← hnum]
    (refine GO.nil ?_; refine kthen_n ?_)
    refine G.drawT 10 192 [tabH bt n pv wv bm rv, pt b3 (row [i64 f1, i64 f2, i64 f3] 62)] (pt bm (mapO (numF 0 (fs ++ [(f1, f2, f3)]))) :: own 62 3 fs.length rv (f3sV fs) :: F) (by kernel_rfl) (keys_of rfl) (ImpS.sb (by ((refine Sb.c (Tk.t Tk.h) ?_; refine Sb.c (Tk.t (Tk.t Tk.h)) ?_; refine Sb.c Tk.h ?_; refine Sb.c Tk.h ?_); (exact Sb.r)))) ?_
    ((apply GR.step rfl; focus (intro Z; refine GO.move rfl rfl ?_; exact KQ.z)); (apply GR.step rfl; focus (intro Z; refine GO.move rfl rfl ?_; exact KQ.z)); (apply GR.step rfl; focus (intro Z; refine GO.nilCheck rfl rfl ?_; exact KQ.z)); (apply GR.step rfl; focus (intro Z; refine GO.fieldAddr rfl rfl ?_; exact KQ.z)); (apply GR.step rfl; focus (intro Z; refine GO.load1 rfl rfl rfl Tk.h rfl ?_; exact KQ.z)); (apply GR.step rfl; focus (intro Z; refine GO.loadW rfl rfl rfl (Tk.t Tk.h) rfl ?_; exact KQ.z)); refine GR.skip rfl ?_; refine GR.skip rfl ?_; (apply GR.step rfl; focus (intro Z; refine GO.nilCheck rfl rfl ?_; exact KQ.z)); (apply GR.step rfl; focus (intro Z; refine GO.fieldAddr rfl rfl ?_; exact KQ.z)); refine GR.nil ?_)
    (repeat refine GT.skip rfl ?_)
    refine GT.step rfl ?_
    refine GO.buildSlice1 (n := 3) (v1 := .agg #[i64 f1, i64 f2, i64 f3]) rfl rfl (fun v hv => by rw [List.mem_singleton.1 hv]; rfl) rfl ⟨by omega, by omega⟩ fun bs => ?_
    refine GO.nil ⟨rfl, _, pt bs (row [i64 f1, i64 f2, i64 f3] 62) :: pt bm (mapO (numF 0 (fs ++ [(f1, f2, f3)]))) :: own 62 3 fs.length rv (f3sV fs) :: F, rfl, ImpS.sb (by ((refine Sb.c (Tk.t Tk.h) ?_; refine Sb.c (Tk.t Tk.h) ?_; refine Sb.c Tk.h ?_; refine Sb.c Tk.h ?_; refine Sb.c Tk.h ?_); (exact Sb.r))), ?_⟩
    (repeat refine GT.skip rfl ?_)
    refine GT.step rfl ?_
    refine GO.appendOwn (m := 1) (news := [i64 f1, i64 f2, i64 f3]) rfl rfl rfl (Tk.t (Tk.t (Tk.t (Tk.t Tk.h)))) (Tk.t (Tk.t Tk.h)) rfl (by simp [Value.oneCell']) ⟨by decide, rfl⟩ Nat.one_pos (by unfold maxLen; omega) (by omega) fun v4 => ?_
    refine GO.nil ⟨rfl, _, own 62 3 (fs.length + 1) v4 (f3sV fs ++ [i64 f1, i64 f2, i64 f3]) :: pt bm (mapO (numF 0 (fs ++ [(f1, f2, f3)]))) :: F, rfl, ImpS.sb (by ((refine Sb.c (Tk.t Tk.h) ?_; refine Sb.c (Tk.t Tk.h) ?_; refine Sb.c Tk.h ?_; refine Sb.c (Tk.t Tk.h) ?_); (refine Sb.s ?_; exact Sb.r))), ?_⟩
    (repeat refine GT.skip rfl ?_)
    refine GT.nil ?_
    refine GO.ownOne (Tk.t (Tk.t Tk.h)) fun hone => ?_
    refine GO.store1 (l := [i64 n, pv, wv, .map (some bm), rv]) rfl rfl (by assumption) Tk.h (by simp) ?_
    (refine GO.nil ?_)
    rw [← hsn, show fs.length + 1 = (fs ++ [(f1, f2, f3)]).length by rw [List.length_append]; rfl]
    refine KF2.n0 (Q := tabL bt n pv wv bm v4 (fs ++ [(f1, f2, f3)])) rfl ⟨v4, rfl⟩ (ImpS.sb ?_)
    ((refine Sb.c Tk.h ?_; refine Sb.c (Tk.t (Tk.t Tk.h)) ?_; refine Sb.c (Tk.t Tk.h) ?_); (refine Sb.s ?_; exact Sb.r))
end Go.Proofs.Ytjokibfldngkeaa
namespace Go.Proofs.Ytjokibfldngkeaa
open Go
def wordV (w : List Int) : List Value := w.map fun x => i64 x
/-- A word, readable in q. -/
def WordR (q : HP) (v : Value) (w : List Int) : Prop := Sl q v w.length 1 (wordV w)
theorem WordR.form {q : HP} {v : Value} {w : List Int} (h : WordR q v w) : ∃ a cap, v = .slice a w.length cap := let ⟨a, cap, e, _⟩ := h; ⟨a, cap, e⟩
theorem WordR.at {q : HP} {a : Option Addr} {n cap k : Nat} {w : List Int} {x : Int} (h : WordR q (.slice a n cap) w) (hk : w[k]? = some x) :
    ∃ b o, a = some ⟨b, o, none⟩ ∧ n = w.length ∧ Rd q ⟨b, o + k * 1, none⟩ (i64 x) := by
  obtain ⟨a', cap', e, hl, hr⟩ := h
  injection e with e1 e2 e3
  subst e1 e2
  have hlt := (List.getElem?_eq_some_iff.1 hk).1
  obtain ⟨b, o, rfl, hr'⟩ := hr (by omega)
  refine ⟨b, o, rfl, rfl, ?_⟩
  rw [Nat.mul_one]
  exact hr' _ _ (by unfold wordV; rw [List.getElem?_map, hk]; rfl)
theorem WordR.sup {q q' : HP} (h : Sup q q') {v : Value} {w : List Int} (k : WordR q v w) : WordR q' v w := Sl.sup h k
theorem tab_small {C : CnfD} {w : List Int} {fs : List F3} (hok : okC C = true) (hl : ¬ 64 < w.length) (hs : Sound C w fs) (hn : fs.Nodup) : ¬ 5000000 ≤ fs.length := by
  have h1 := sound_len hok hs hn
  have h2 := okC_nts hok
  have h3 : C.nts.toNat * ((w.length + 1) * (w.length + 1)) ≤ 1024 * (65 * 65) := Nat.mul_le_mul (by omega) (Nat.mul_le_mul (by omega) (by omega))
  omega
theorem memA {fs : List F3} {f : F3} : f ∈ addF fs f := addF_mem.2 (.inr rfl)
theorem memO {fs : List F3} {f g : F3} (h : g ∈ fs) : g ∈ addF fs f := addF_mem.2 (.inl h)
attribute [local irreducible] G GO GR GT Fn FnV pt init exs pur sat own ImpS f3sV numF mapO addF wordV symsV
set_option maxHeartbeats 16000000 in
theorem begin_spec (q : HP) (C : CnfD) (w : List Int) (pv wv : Value) (hp : PrsR q pv C.prods) (hw : WordR q wv w) (hok : okC C = true) (hz : Fits C) (hl : ¬ 64 < w.length) (bt bm : Nat) (rv : Value) (fs : List F3) (hs : Sound C w fs) (hnd : fs.Nodup) :
    Fn Try.prog 41 #[ptrT bt] (tabL bt C.nts pv wv bm rv fs ++ [q]) (fun r Q => ∃ rv' fs', Sound C w fs' ∧ fs'.Nodup ∧ (∀ p ∈ C.prods, BaseP w p fs') ∧ Q = tabL bt C.nts pv wv bm rv' fs' ++ [q]) := by
  have hpn : ¬ 140737488355328 < C.prods.length := by have := hz.1; omega
  obtain ⟨ap, cp, rfl⟩ := hp.form
  obtain ⟨aw, cw, rfl⟩ := hw.form
  refine Fn.mk2 Try.func41 rfl rfl fun w0 F => ?_
  (refine G.seq ?_; refine G.region ?_; refine GO.move rfl rfl ?_; refine GO.nilCheck rfl rfl ?_; refine GO.fieldAddr rfl rfl ?_; refine GO.fieldAddr rfl rfl ?_; refine GO.load1 rfl rfl rfl Tk.h rfl ?_; refine GO.lenS rfl rfl ?_; refine GO.move rfl rfl ?_; refine GO.nil ?_; refine kthen_n ?_; refine G.block ?_)
  refine G.loop3 (fun (k : Nat) (_ : Value) (_ : List F3) => [(0, ptrT bt), (11, .slice ap C.prods.length cp), (12, i64 (C.prods.length : Nat)), (13, i64 (k : Nat))])
    (fun _ rv fs => tabH bt C.nts (.slice ap C.prods.length cp) (.slice aw w.length cw) bm rv :: pt bm (mapO (numF 0 fs)) :: own 62 3 fs.length rv (f3sV fs) :: q :: F)
    (fun k _ fs => k ≤ C.prods.length ∧ Sound C w fs ∧ fs.Nodup ∧ ∀ j p, j < k → C.prods[j]? = some p → BaseP w p fs) (fun k _ _ => C.prods.length - k) 0 rv fs ⟨Nat.zero_le _, hs, hnd, fun j p h => absurd h (Nat.not_lt_zero _)⟩ ?_ ?_ ?_
  · (refine SubE.c rfl rfl ?_; refine SubE.c rfl rfl ?_; refine SubE.c rfl rfl ?_; refine SubE.c rfl rfl ?_; exact SubE.n)
  · ((refine Sb.c Tk.h ?_; refine Sb.c Tk.h ?_; refine Sb.c Tk.h ?_; refine Sb.c Tk.h ?_); (exact Sb.r))
  · rintro k rv fs ⟨hk, hs, hnd, hb⟩
    (refine G.seq ?_; refine G.region ?_; refine GO.lti rfl rfl rfl ?_; refine GO.nil ?_; refine kthen_n ?_; refine G.seq ?_)
    refine G.condD rfl (fun hlt => ?_) (fun hge => ?_)
    · have hkl : k < C.prods.length := by omega
      obtain ⟨p, hpk⟩ : ∃ p, C.prods[k]? = some p := ⟨_, List.getElem?_eq_getElem hkl⟩
      obtain ⟨b0, o0, bv, rfl, _, r1, r2, hss⟩ := hp.at hpk
      have hpm := List.mem_of_getElem? hpk
      obtain ⟨A, body⟩ := p
      dsimp only at r1 r2 hss
      obtain ⟨ab, cb, rfl⟩ := hss.form
      (refine G.skip ?_; refine kthen_n ?_; refine G.seq ?_; refine G.block ?_; refine G.seq ?_; refine G.region ?_; refine GO.idxS rfl rfl rfl ⟨rfl, by omega⟩ ?_; refine GO.load2 rfl rfl rfl (Tk.t (Tk.t (Tk.t Tk.h))) (by assumption) (by assumption) ?_; refine GO.alloc rfl fun b3 => ?_; refine GO.storeW rfl rfl Tk.h ⟨rfl, rfl⟩ (by simp [Value.oneCell']) ?_; refine GO.nil ?_; refine kthen_n ?_; refine G.seq ?_; refine G.region ?_; refine GO.fieldAddr rfl rfl ?_; refine GO.load1 rfl rfl rfl Tk.h rfl ?_; refine GO.lenS rfl rfl ?_; refine GO.nil ?_; refine kthen_n ?_; refine G.block ?_; refine G.seq ?_; refine G.region ?_; refine GO.eqi rfl rfl rfl ?_; refine GO.assign rfl rfl ?_; refine GO.nil ?_; refine kthen_n ?_)
      match body, hss, hpk, hpm with
      | [], hss, hpk, hpm =>
        (refine G.condT rfl rfl ?_; refine G.seq ?_; refine G.region ?_; refine GO.move rfl rfl ?_; refine GO.nilCheck rfl rfl ?_; refine GO.fieldAddr rfl rfl ?_; refine GO.load1 rfl rfl rfl (Tk.t Tk.h) rfl ?_; refine GO.lenS rfl rfl ?_; refine GO.addi rfl rfl rfl (by omega) ?_; refine GO.move rfl rfl ?_; refine GO.nil ?_; refine kthen_n ?_; refine G.block ?_)
        refine G.loop3 (fun (i : Nat) (_ : Value) (_ : List F3) => [(0, ptrT bt), (3, ptrT b3), (11, .slice (some ⟨b0, o0, none⟩) C.prods.length cp), (12, i64 (C.prods.length : Nat)), (13, i64 (k : Nat)), (27, .int .i64 ((w.length : Int) + 1)), (28, i64 (i : Nat))])
          (fun _ rv gs => tabH bt C.nts (.slice (some ⟨b0, o0, none⟩) C.prods.length cp) (.slice aw w.length cw) bm rv :: pt bm (mapO (numF 0 gs)) :: own 62 3 gs.length rv (f3sV gs) :: q :: pt b3 (row [i64 A, .slice ab 0 cb] 52) :: F)
          (fun i _ gs => i ≤ w.length + 1 ∧ Sound C w gs ∧ gs.Nodup ∧ (∀ x ∈ fs, x ∈ gs) ∧ ∀ j, j < i → factV A j j ∈ gs) (fun i _ _ => w.length + 1 - i) 0 rv fs ⟨Nat.zero_le _, hs, hnd, fun _ h => h, fun j h => absurd h (Nat.not_lt_zero _)⟩ ?_ ?_ ?_
        · (refine SubE.c rfl rfl ?_; refine SubE.c rfl rfl ?_; refine SubE.c rfl rfl ?_; refine SubE.c rfl rfl ?_; refine SubE.c rfl rfl ?_; refine SubE.c rfl rfl ?_; refine SubE.c rfl rfl ?_; exact SubE.n)
        · ((refine Sb.c (Tk.t Tk.h) ?_; refine Sb.c (Tk.t Tk.h) ?_; refine Sb.c (Tk.t Tk.h) ?_; refine Sb.c (Tk.t Tk.h) ?_; refine Sb.c Tk.h ?_); (exact Sb.r))
        · rintro i rv gs ⟨hi, hgs, hgn, hsub, hall⟩
          have hsm := tab_small hok hl hgs hgn
          (refine G.seq ?_; refine G.region ?_; refine GO.lti rfl rfl rfl ?_; refine GO.nil ?_; refine kthen_n ?_; refine G.seq ?_)
          refine G.condD rfl (fun hlt2 => ?_) (fun hge2 => ?_)
          · have hd : Der C w A i i := .none hpm (by omega)
            (refine G.skip ?_; refine kthen_n ?_; refine G.seq ?_; refine G.block ?_; refine G.seq ?_; refine G.region ?_; refine GO.move rfl rfl ?_; refine GO.assign rfl rfl ?_; refine GO.nil ?_; refine kthen_n ?_; refine G.region ?_; refine GO.move rfl rfl ?_; refine GO.fieldAddr rfl rfl ?_; refine GO.load1 rfl rfl rfl (Tk.t (Tk.t (Tk.t (Tk.t Tk.h)))) rfl ?_; refine GO.move rfl rfl ?_; refine GO.move rfl rfl ?_; refine GO.build3 rfl rfl rfl rfl rfl ?_)
            refine GO.call2 rfl rfl rfl (add_spec bt C.nts (.slice (some ⟨b0, o0, none⟩) C.prods.length cp) (.slice aw w.length cw) bm rv gs (factV A i i) (by omega)) (Tks.c Tk.h (Tks.c Tk.h (Tks.c Tk.h Tks.n))) ?_
            rintro _ _ ⟨rv', rfl⟩
            (refine GO.nil ?_; refine kblock_n ?_; refine kthen_n ?_; refine G.region ?_; refine GO.addi rfl rfl rfl (by omega) ?_; refine GO.move rfl rfl ?_; refine GO.nil ?_; refine kthen_n ?_)
            refine ⟨i + 1, rv', addF gs (factV A i i), ⟨by omega, addF_sound hgs hd, addF_nodup hgn _, fun x hx => memO (hsub x hx), fun j hj => ?_⟩, by omega, ?_, ?_⟩
            · by_cases e : j = i
              · subst e; exact memA
              · exact memO (hall j (by omega))
            · (refine SubE.c rfl rfl ?_; refine SubE.c rfl rfl ?_; refine SubE.c rfl rfl ?_; refine SubE.c rfl rfl ?_; refine SubE.c rfl rfl ?_; refine SubE.c rfl rfl ?_; refine SubE.c rfl rfl ?_; exact SubE.n)
            · ((refine Sb.c Tk.h ?_; refine Sb.c Tk.h ?_; refine Sb.c Tk.h ?_; refine Sb.c Tk.h ?_; refine Sb.c Tk.h ?_); (exact Sb.r))
          · (refine G.exit ?_; refine kthen_x ?_; refine kthen_x ?_; refine kblock_x ?_; refine kblock_n ?_; refine kblock_n ?_; refine kthen_n ?_; refine G.region ?_; refine GO.addi rfl rfl rfl (by omega) ?_; refine GO.move rfl rfl ?_; refine GO.nil ?_; refine kthen_n ?_)
            refine ⟨k + 1, rv, gs, ⟨by omega, hgs, hgn, fun j p hj hjp => ?_⟩, by omega, ?_, ?_⟩
            · by_cases e : j = k
              · subst e
                rw [hpk] at hjp
                injection hjp with hjp
                subst hjp
                exact ⟨fun _ m hm => hall m (by omega), (fun s e => by cases e)⟩
              · exact (hb j p (by omega) hjp).mono hsub
            · (refine SubE.c rfl rfl ?_; refine SubE.c rfl rfl ?_; refine SubE.c rfl rfl ?_; refine SubE.c rfl rfl ?_; exact SubE.n)
            · ((refine Sb.c Tk.h ?_; refine Sb.c Tk.h ?_; refine Sb.c Tk.h ?_; refine Sb.c Tk.h ?_); (refine Sb.s ?_; exact Sb.r))
      | [s], hss, hpk, hpm =>
        obtain ⟨bb, ob, rfl, _, _, rs⟩ := hss.at (k := 0) (s := s) rfl
        (refine G.condF rfl rfl ?_; refine G.seq ?_; refine G.region ?_; refine GO.eqT rfl rfl rfl rfl ?_; refine GO.assign rfl rfl ?_; refine GO.nil ?_; refine kthen_n ?_; refine G.condT rfl rfl ?_; refine G.seq ?_; refine G.region ?_; refine GO.move rfl rfl ?_; refine GO.nilCheck rfl rfl ?_; refine GO.fieldAddr rfl rfl ?_; refine GO.load1 rfl rfl rfl (Tk.t Tk.h) rfl ?_; refine GO.lenS rfl rfl ?_; refine GO.move rfl rfl ?_; refine GO.nil ?_; refine kthen_n ?_; refine G.block ?_)
        refine G.loop3 (fun (i : Nat) (_ : Value) (_ : List F3) => [(0, ptrT bt), (3, ptrT b3), (11, .slice (some ⟨b0, o0, none⟩) C.prods.length cp), (12, i64 (C.prods.length : Nat)), (13, i64 (k : Nat)), (44, .slice aw w.length cw), (45, i64 (w.length : Nat)), (46, i64 (i : Nat))])
          (fun _ rv gs => tabH bt C.nts (.slice (some ⟨b0, o0, none⟩) C.prods.length cp) (.slice aw w.length cw) bm rv :: pt bm (mapO (numF 0 gs)) :: own 62 3 gs.length rv (f3sV gs) :: q :: pt b3 (row [i64 A, .slice (some ⟨bb, ob, none⟩) 1 cb] 52) :: F)
          (fun i _ gs => i ≤ w.length ∧ Sound C w gs ∧ gs.Nodup ∧ (∀ x ∈ fs, x ∈ gs) ∧ ∀ j, j < i → w[j]? = some s.2 → factV A j (j + 1) ∈ gs) (fun i _ _ => w.length - i) 0 rv fs ⟨Nat.zero_le _, hs, hnd, fun _ h => h, fun j h => absurd h (Nat.not_lt_zero _)⟩ ?_ ?_ ?_
        · (refine SubE.c rfl rfl ?_; refine SubE.c rfl rfl ?_; refine SubE.c rfl rfl ?_; refine SubE.c rfl rfl ?_; refine SubE.c rfl rfl ?_; refine SubE.c rfl rfl ?_; refine SubE.c rfl rfl ?_; refine SubE.c rfl rfl ?_; exact SubE.n)
        · ((refine Sb.c (Tk.t Tk.h) ?_; refine Sb.c (Tk.t Tk.h) ?_; refine Sb.c (Tk.t Tk.h) ?_; refine Sb.c (Tk.t Tk.h) ?_; refine Sb.c Tk.h ?_); (exact Sb.r))
        · rintro i rv gs ⟨hi, hgs, hgn, hsub, hall⟩
          have hsm := tab_small hok hl hgs hgn
          (refine G.seq ?_; refine G.region ?_; refine GO.lti rfl rfl rfl ?_; refine GO.nil ?_; refine kthen_n ?_; refine G.seq ?_)
          refine G.condD rfl (fun hlt2 => ?_) (fun hge2 => ?_)
          · have hiw : i < w.length := by omega
            obtain ⟨x, hx⟩ : ∃ x, w[i]? = some x := ⟨_, List.getElem?_eq_getElem hiw⟩
            obtain ⟨bw, ow, rfl, _, rw1⟩ := hw.at hx
            (refine G.skip ?_; refine kthen_n ?_; refine G.seq ?_; refine G.block ?_; refine G.seq ?_; refine G.region ?_; refine GO.move rfl rfl ?_; refine GO.idxS rfl rfl rfl ⟨rfl, by omega⟩ ?_; refine GO.loadQ rfl rfl rfl (Tk.t (Tk.t (Tk.t Tk.h))) (by assumption) ?_; refine GO.assign rfl rfl ?_; refine GO.assign rfl rfl ?_; refine GO.nil ?_; refine kthen_n ?_; refine G.seq ?_; refine G.region ?_; refine GO.move rfl rfl ?_; refine GO.fieldAddr rfl rfl ?_; refine GO.load1 rfl rfl rfl (Tk.t (Tk.t (Tk.t (Tk.t Tk.h)))) rfl ?_)
            refine GO.idxS (j := 0) rfl rfl rfl ⟨rfl, by decide⟩ ?_
            (refine GO.fieldAddr rfl rfl ?_; refine GO.loadQ rfl rfl rfl (Tk.t (Tk.t (Tk.t Tk.h))) (by assumption) ?_; refine GO.eqi rfl rfl rfl ?_; refine GO.nil ?_; refine kthen_n ?_)
            refine G.condD rfl (fun heq => ?_) (fun hne => ?_)
            · subst heq
              have hd : Der C w A i (i + 1) := .one hpm hx
              have hadd := fun (pv wv : Value) => add_spec bt C.nts pv wv bm rv gs (factV A i (i + 1)) (by omega)
              rw [show f3V (factV A i (i + 1)) = .agg #[i64 A, i64 (i : Nat), .int .i64 ((i : Int) + 1)] from rfl] at hadd
              (refine G.region ?_; refine GO.move rfl rfl ?_; refine GO.fieldAddr rfl rfl ?_; refine GO.load1 rfl rfl rfl (Tk.t (Tk.t (Tk.t (Tk.t Tk.h)))) rfl ?_; refine GO.move rfl rfl ?_; refine GO.move rfl rfl ?_; refine GO.addi rfl rfl rfl (by omega) ?_; refine GO.build3 rfl rfl rfl rfl rfl ?_)
              refine GO.call2 rfl rfl rfl (hadd (.slice (some ⟨b0, o0, none⟩) C.prods.length cp) (.slice (some ⟨bw, ow, none⟩) w.length cw)) (Tks.c Tk.h (Tks.c Tk.h (Tks.c Tk.h Tks.n))) ?_
              rintro _ _ ⟨rv', rfl⟩
              (refine GO.nil ?_; refine kblock_n ?_; refine kthen_n ?_; refine G.region ?_; refine GO.addi rfl rfl rfl (by omega) ?_; refine GO.move rfl rfl ?_; refine GO.nil ?_; refine kthen_n ?_)
              refine ⟨i + 1, rv', addF gs (factV A i (i + 1)), ⟨by omega, addF_sound hgs hd, addF_nodup hgn _, fun x hx => memO (hsub x hx), fun j hj hjx => ?_⟩, by omega, ?_, ?_⟩
              · by_cases e : j = i
                · subst e; exact memA
                · exact memO (hall j (by omega) hjx)
              · (refine SubE.c rfl rfl ?_; refine SubE.c rfl rfl ?_; refine SubE.c rfl rfl ?_; refine SubE.c rfl rfl ?_; refine SubE.c rfl rfl ?_; refine SubE.c rfl rfl ?_; refine SubE.c rfl rfl ?_; refine SubE.c rfl rfl ?_; exact SubE.n)
              · ((refine Sb.c Tk.h ?_; refine Sb.c Tk.h ?_; refine Sb.c Tk.h ?_; refine Sb.c Tk.h ?_; refine Sb.c Tk.h ?_); (exact Sb.r))
            · (refine G.skip ?_; refine kblock_n ?_; refine kthen_n ?_; refine G.region ?_; refine GO.addi rfl rfl rfl (by omega) ?_; refine GO.move rfl rfl ?_; refine GO.nil ?_; refine kthen_n ?_)
              refine ⟨i + 1, rv, gs, ⟨by omega, hgs, hgn, hsub, fun j hj hjx => ?_⟩, by omega, ?_, ?_⟩
              · by_cases e : j = i
                · subst e
                  rw [hx] at hjx
                  injection hjx with hjx
                  exact absurd hjx hne
                · exact hall j (by omega) hjx
              · (refine SubE.c rfl rfl ?_; refine SubE.c rfl rfl ?_; refine SubE.c rfl rfl ?_; refine SubE.c rfl rfl ?_; refine SubE.c rfl rfl ?_; refine SubE.c rfl rfl ?_; refine SubE.c rfl rfl ?_; refine SubE.c rfl rfl ?_; exact SubE.n)
              · ((refine Sb.c Tk.h ?_; refine Sb.c Tk.h ?_; refine Sb.c Tk.h ?_; refine Sb.c Tk.h ?_; refine Sb.c Tk.h ?_); (exact Sb.r))
          · (refine G.exit ?_; refine kthen_x ?_; refine kthen_x ?_; refine kblock_x ?_; refine kblock_n ?_; refine kblock_n ?_; refine kthen_n ?_; refine G.region ?_; refine GO.addi rfl rfl rfl (by omega) ?_; refine GO.move rfl rfl ?_; refine GO.nil ?_; refine kthen_n ?_)
            refine ⟨k + 1, rv, gs, ⟨by omega, hgs, hgn, fun j p hj hjp => ?_⟩, by omega, ?_, ?_⟩
            · by_cases e : j = k
              · subst e
                rw [hpk] at hjp
                injection hjp with hjp
                subst hjp
                refine ⟨(fun e => by cases e), fun s' e m hm => ?_⟩
                injection e with e _
                subst e
                exact hall m (by have := (List.getElem?_eq_some_iff.1 hm).1; omega) hm
              · exact (hb j p (by omega) hjp).mono hsub
            · (refine SubE.c rfl rfl ?_; refine SubE.c rfl rfl ?_; refine SubE.c rfl rfl ?_; refine SubE.c rfl rfl ?_; exact SubE.n)
            · ((refine Sb.c Tk.h ?_; refine Sb.c Tk.h ?_; refine Sb.c Tk.h ?_; refine Sb.c Tk.h ?_); (refine Sb.s ?_; exact Sb.r))
      | s :: t :: more, hss, hpk, hpm =>
        have d0 : decide (((s :: t :: more).length : Int) = 0) = false := decide_eq_false (by simp; omega)
        have d1 : decide (((s :: t :: more).length : Int) = 1) = false := decide_eq_false (by simp; omega)
        (refine G.condF rfl rfl ?_; refine G.seq ?_; refine G.region ?_; refine GO.eqi rfl rfl rfl ?_; refine GO.assign rfl rfl ?_; refine GO.nil ?_; refine kthen_n ?_; refine G.condF rfl rfl ?_; refine G.skip ?_; refine kblock_n ?_; refine kblock_n ?_; refine kthen_n ?_; refine G.region ?_; refine GO.addi rfl rfl rfl (by omega) ?_; refine GO.move rfl rfl ?_; refine GO.nil ?_; refine kthen_n ?_)
        refine ⟨k + 1, rv, fs, ⟨by omega, hs, hnd, fun j p hj hjp => ?_⟩, by omega, ?_, ?_⟩
        · by_cases e : j = k
          · subst e
            rw [hpk] at hjp
            injection hjp with hjp
            subst hjp
            exact ⟨(fun e => by cases e), (fun s' e => by cases e)⟩
          · exact hb j p (by omega) hjp
        · (refine SubE.c rfl rfl ?_; refine SubE.c rfl rfl ?_; refine SubE.c rfl rfl ?_; refine SubE.c rfl rfl ?_; exact SubE.n)
        · ((refine Sb.c (Tk.t Tk.h) ?_; refine Sb.c (Tk.t Tk.h) ?_; refine Sb.c (Tk.t Tk.h) ?_; refine Sb.c (Tk.t Tk.h) ?_); (refine Sb.s ?_; exact Sb.r))
    · have : k = C.prods.length := by omega
      subst this
      (refine G.exit ?_; refine kthen_x ?_; refine kthen_x ?_; refine kblock_x ?_)
      refine KF2.n0 (Q := tabL bt C.nts (.slice ap C.prods.length cp) (.slice aw w.length cw) bm rv fs ++ [q]) rfl ⟨rv, fs, hs, hnd, fun p hpm => ?_, rfl⟩ (ImpS.sb ?_)
      · obtain ⟨j, hj⟩ := List.getElem?_of_mem hpm
        exact hb j p (List.getElem?_eq_some_iff.1 hj).1 hj
      · ((refine Sb.c Tk.h ?_; refine Sb.c Tk.h ?_; refine Sb.c Tk.h ?_; refine Sb.c Tk.h ?_); (exact Sb.r))
end Go.Proofs.Ytjokibfldngkeaa
namespace Go.Proofs.Ytjokibfldngkeaa
open Go
theorem Sound.der {C : CnfD} {w : List Int} {fs : List F3} (h : Sound C w fs) {A : Int} {i j : Nat} (k : factV A i j ∈ fs) : Der C w A i j := by
  obtain ⟨B, m, n, e, hd⟩ := h _ k
  obtain ⟨rfl, rfl, rfl⟩ := factV_inj e
  exact hd
theorem sub_pre {fs gs : List F3} (h : ∃ t, gs = fs ++ t) {x : F3} (k : x ∈ fs) : x ∈ gs := by
  obtain ⟨t, rfl⟩ := h
  exact List.mem_append_left _ k
theorem pre_trans {fs gs hs : List F3} (h : ∃ t, gs = fs ++ t) (k : ∃ t, hs = gs ++ t) : ∃ t, hs = fs ++ t := by
  obtain ⟨t, rfl⟩ := h
  obtain ⟨u, rfl⟩ := k
  exact ⟨t ++ u, by rw [List.append_assoc]⟩
theorem addF_pre2 {fs gs : List F3} (h : ∃ t, gs = fs ++ t) (f : F3) : ∃ t, addF gs f = fs ++ t := pre_trans h (addF_pre gs f)
theorem G.midE {P : Program} {c : Cx} {K : Kont} {L : Env} {H : List HP} {σ : Type} {x y : Code} (S : σ → Env) (M : σ → List HP) (I : σ → Prop) (hx : G P c x (kthen (fun L' H' => ∃ s, I s ∧ SubE (S s) L' ∧ ImpS H' (M s)) K) L H) (hy : ∀ s, I s → G P c y K (S s) (M s)) : G P c x (kthen (fun L H => G P c y K L H) K) L H :=
  G.mono hx (fun e L' H' h => by
    cases e with
    | normal => obtain ⟨s, hi, hL, hH⟩ := h; exact G.subI hL hH (hy s hi)
    | _ => exact h)
theorem G.midBE {P : Program} {c : Cx} {K : Kont} {L : Env} {H : List HP} {σ : Type} {x y : Code} {id : Nat} (S : σ → Env) (M : σ → List HP) (I : σ → Prop) (hx : G P c x (kblock id (kthen (fun L' H' => ∃ s, I s ∧ SubE (S s) L' ∧ ImpS H' (M s)) K)) L H) (hy : ∀ s, I s → G P c y K (S s) (M s)) : G P c x (kblock id (kthen (fun L H => G P c y K L H) K)) L H :=
  G.mono hx (fun e L' H' h => by
    cases e with
    | normal => obtain ⟨s, hi, hL, hH⟩ := h; exact G.subI hL hH (hy s hi)
    | exit i =>
      simp only [kblock] at h ⊢
      cases hb : Nat.beq i id with
      | true => simp only [hb, cond_true] at h ⊢; obtain ⟨s, hi, hL, hH⟩ := h; exact G.subI hL hH (hy s hi)
      | false => simp only [hb, cond_false] at h ⊢; exact h
    | _ => exact h)
attribute [local irreducible] G GO GR GT Fn FnV pt init exs pur sat own ImpS f3sV numF mapO addF wordV symsV
set_option maxHeartbeats 32000000 in
theorem join_fact (q : HP) (C : CnfD) (w : List Int) (pv wv : Value) (hp : PrsR q pv C.prods) (hw : WordR q wv w) (hok : okC C = true) (hz : Fits C) (hl : ¬ 64 < w.length) (bt bm : Nat) (rv : Value) (fs : List F3) (hs : Sound C w fs) (hnd : fs.Nodup)
    (A : Int) (fr to : Nat) (hd : Der C w A fr to) :
    Fn Try.prog 42 #[ptrT bt, .agg #[i64 A, i64 (fr : Nat), i64 (to : Nat)]] (tabL bt C.nts pv wv bm rv fs ++ [q]) (fun r Q => ∃ rv' gs, Sound C w gs ∧ gs.Nodup ∧ (∃ t, gs = fs ++ t) ∧ (∀ p ∈ C.prods, JoinP p A fr to fs gs) ∧ Q = tabL bt C.nts pv wv bm rv' gs ++ [q]) := by
  have hpn : ¬ 140737488355328 < C.prods.length := by have := hz.1; omega
  have hdl := hd.le
  obtain ⟨ap, cp, rfl⟩ := hp.form
  obtain ⟨aw, cw, rfl⟩ := hw.form
  refine Fn.mk2 Try.func42 rfl rfl fun w0 F => ?_
  (refine G.seq ?_; refine G.region ?_; refine GO.box rfl rfl rfl fun b3 => ?_; refine GO.nil ?_; refine kthen_n ?_; refine G.seq ?_; refine G.region ?_; refine GO.move rfl rfl ?_; refine GO.nilCheck rfl rfl ?_; refine GO.fieldAddr rfl rfl ?_; refine GO.fieldAddr rfl rfl ?_; refine GO.load1 rfl rfl rfl (Tk.t Tk.h) rfl ?_; refine GO.lenS rfl rfl ?_; refine GO.move rfl rfl ?_; refine GO.nil ?_; refine kthen_n ?_; refine G.block ?_)
  refine G.loop3 (fun (k : Nat) (_ : Value) (_ : List F3) => [(0, ptrT bt), (3, ptrT b3), (12, .slice ap C.prods.length cp), (13, i64 (C.prods.length : Nat)), (14, i64 (k : Nat))])
    (fun _ rv gs => tabH bt C.nts (.slice ap C.prods.length cp) (.slice aw w.length cw) bm rv :: pt bm (mapO (numF 0 gs)) :: own 62 3 gs.length rv (f3sV gs) :: q :: pt b3 (row [i64 A, i64 (fr : Nat), i64 (to : Nat)] 62) :: F)
    (fun k _ gs => k ≤ C.prods.length ∧ Sound C w gs ∧ gs.Nodup ∧ (∃ t, gs = fs ++ t) ∧ ∀ j p, j < k → C.prods[j]? = some p → JoinP p A fr to fs gs) (fun k _ _ => C.prods.length - k) 0 rv fs ⟨Nat.zero_le _, hs, hnd, ⟨[], by simp⟩, fun j p h => absurd h (Nat.not_lt_zero _)⟩ ?_ ?_ ?_
  · (refine SubE.c rfl rfl ?_; refine SubE.c rfl rfl ?_; refine SubE.c rfl rfl ?_; refine SubE.c rfl rfl ?_; refine SubE.c rfl rfl ?_; exact SubE.n)
  · ((refine Sb.c (Tk.t Tk.h) ?_; refine Sb.c (Tk.t Tk.h) ?_; refine Sb.c (Tk.t Tk.h) ?_; refine Sb.c (Tk.t Tk.h) ?_; refine Sb.c Tk.h ?_); (exact Sb.r))
  · rintro k rv gs ⟨hk, hgs, hgn, hpre, hb⟩
    (refine G.seq ?_; refine G.region ?_; refine GO.lti rfl rfl rfl ?_; refine GO.nil ?_; refine kthen_n ?_; refine G.seq ?_)
    refine G.condD rfl (fun hlt => ?_) (fun hge => ?_)
    · have hkl : k < C.prods.length := by omega
      obtain ⟨p, hpk⟩ : ∃ p, C.prods[k]? = some p := ⟨_, List.getElem?_eq_getElem hkl⟩
      obtain ⟨b0, o0, bv, rfl, _, r1, r2, hss⟩ := hp.at hpk
      have hpm := List.mem_of_getElem? hpk
      obtain ⟨B, body⟩ := p
      dsimp only at r1 r2 hss
      obtain ⟨ab, cb, rfl⟩ := hss.form
      (refine G.skip ?_; refine kthen_n ?_; refine G.seq ?_; refine G.block ?_; refine G.seq ?_; refine G.region ?_; refine GO.idxS rfl rfl rfl ⟨rfl, by omega⟩ ?_; refine GO.load2 rfl rfl rfl (Tk.t (Tk.t (Tk.t Tk.h))) (by assumption) (by assumption) ?_; refine GO.alloc rfl fun b5 => ?_; refine GO.storeW rfl rfl Tk.h ⟨rfl, rfl⟩ (by simp [Value.oneCell']) ?_; refine GO.nil ?_; refine kthen_n ?_; refine G.seq ?_; refine G.seq ?_; refine G.region ?_; refine GO.fieldAddr rfl rfl ?_; refine GO.load1 rfl rfl rfl Tk.h rfl ?_; refine GO.lenS rfl rfl ?_; refine GO.nei rfl rfl rfl ?_; refine GO.nil ?_; refine kthen_n ?_)
      refine G.condD rfl (fun hne => ?_) (fun heq => ?_)
      · (refine G.exit ?_; refine kthen_x ?_; refine kblock_x ?_; refine kthen_n ?_; refine G.region ?_; refine GO.addi rfl rfl rfl (by omega) ?_; refine GO.move rfl rfl ?_; refine GO.nil ?_; refine kthen_n ?_)
        refine ⟨k + 1, rv, gs, ⟨by omega, hgs, hgn, hpre, fun j p hj hjp => ?_⟩, by omega, ?_, ?_⟩
        · by_cases e : j = k
          · subst e
            rw [hpk] at hjp
            injection hjp with hjp
            subst hjp
            intro s t e
            dsimp only at e
            subst e
            exact absurd rfl hne
          · exact hb j p (by omega) hjp
        · (refine SubE.c rfl rfl ?_; refine SubE.c rfl rfl ?_; refine SubE.c rfl rfl ?_; refine SubE.c rfl rfl ?_; refine SubE.c rfl rfl ?_; exact SubE.n)
        · ((refine Sb.c (Tk.t Tk.h) ?_; refine Sb.c (Tk.t Tk.h) ?_; refine Sb.c (Tk.t Tk.h) ?_; refine Sb.c (Tk.t Tk.h) ?_; refine Sb.c (Tk.t Tk.h) ?_); (refine Sb.s ?_; exact Sb.r))
      · obtain ⟨s, t, rfl⟩ : ∃ s t, body = [s, t] := by
          match body, heq with
          | [s, t], _ => exact ⟨s, t, rfl⟩
          | [], h => simp at h
          | [s], h => simp at h
          | s :: t :: u :: more, h => simp at h; omega
        obtain ⟨bb, ob, rfl, _, _, rs⟩ := hss.at (k := 0) (s := s) rfl
        obtain ⟨bb', ob', e, _, _, rt⟩ := hss.at (k := 1) (s := t) rfl
        injection e with e
        injection e with e1 e2
        subst e1 e2
        (refine G.skip ?_; refine kthen_n ?_; refine G.seq ?_; refine G.seq ?_)
        refine G.draw 8 (by kernel_rfl) ?_
        ((apply GQ.step; focus (intro Z; refine GO.fieldAddr rfl rfl ?_; exact KQ.z)); (apply GQ.step; focus (intro Z; refine GO.load1 rfl rfl rfl Tk.h rfl ?_; exact KQ.z)))
        apply GQ.step; focus (intro Z; refine GO.idxS (j := 0) rfl rfl rfl ⟨rfl, by simp⟩ ?_; exact KQ.z)
        ((apply GQ.step; focus (intro Z; refine GO.fieldAddr rfl rfl ?_; exact KQ.z)); (apply GQ.step; focus (intro Z; refine GO.loadQ rfl rfl rfl (Tk.t (Tk.t (Tk.t (Tk.t Tk.h)))) (by assumption) ?_; exact KQ.z)); (apply GQ.step; focus (intro Z; refine GO.fieldAddr rfl rfl ?_; exact KQ.z)); (apply GQ.step; focus (intro Z; refine GO.load1 rfl rfl rfl (Tk.t (Tk.t (Tk.t (Tk.t (Tk.t Tk.h))))) rfl ?_; exact KQ.z)); (apply GQ.step; focus (intro Z; refine GO.eqi rfl rfl rfl ?_; exact KQ.z)); refine GQ.nil ?_)
        (refine GO.nil ?_; refine kthen_n ?_)
        refine G.midE (fun _ : Value × List F3 => [(0, ptrT bt), (3, ptrT b3), (5, ptrT b5), (12, .slice (some ⟨b0, o0, none⟩) C.prods.length cp), (13, i64 (C.prods.length : Nat)), (14, i64 (k : Nat))]) (fun p => tabH bt C.nts (.slice (some ⟨b0, o0, none⟩) C.prods.length cp) (.slice aw w.length cw) bm p.1 :: pt bm (mapO (numF 0 p.2)) :: own 62 3 p.2.length p.1 (f3sV p.2) :: q :: pt b3 (row [i64 A, i64 (fr : Nat), i64 (to : Nat)] 62) :: pt b5 (row [i64 B, .slice (some ⟨bb, ob, none⟩) 2 cb] 52) :: F) (fun p => Sound C w p.2 ∧ p.2.Nodup ∧ (∃ t, p.2 = gs ++ t) ∧ (s.2 = A → ∀ m, factV t.2 to m ∈ fs → factV B fr m ∈ p.2)) ?_ ?_
        · refine G.condD rfl (fun heq => ?_) (fun hne => ?_)
          · (refine G.seq ?_; refine G.region ?_; refine GO.fieldAddr rfl rfl ?_; refine GO.load1 rfl rfl rfl (Tk.t (Tk.t (Tk.t (Tk.t (Tk.t Tk.h))))) rfl ?_; refine GO.assign rfl rfl ?_; refine GO.nil ?_; refine kthen_n ?_; refine G.block ?_)
            refine G.loop3 (fun (m : Nat) (_ : Value) (_ : List F3) => [(0, ptrT bt), (3, ptrT b3), (5, ptrT b5), (12, .slice (some ⟨b0, o0, none⟩) C.prods.length cp), (13, i64 (C.prods.length : Nat)), (14, i64 (k : Nat)), (6, i64 (m : Nat))]) (fun _ rv gs => tabH bt C.nts (.slice (some ⟨b0, o0, none⟩) C.prods.length cp) (.slice aw w.length cw) bm rv :: pt bm (mapO (numF 0 gs)) :: own 62 3 gs.length rv (f3sV gs) :: q :: pt b3 (row [i64 A, i64 (fr : Nat), i64 (to : Nat)] 62) :: pt b5 (row [i64 B, .slice (some ⟨bb, ob, none⟩) 2 cb] 52) :: F)
              (fun m _ hs => to ≤ m ∧ m ≤ w.length + 1 ∧ Sound C w hs ∧ hs.Nodup ∧ (∃ t, hs = gs ++ t) ∧ ∀ n, to ≤ n → n < m → factV t.2 to n ∈ fs → factV B fr n ∈ hs) (fun m _ _ => w.length + 1 - m) to rv gs ⟨Nat.le_refl _, by omega, hgs, hgn, ⟨[], by simp⟩, fun n h1 h2 => absurd h2 (by omega)⟩ ?_ ?_ ?_
            · (refine SubE.c rfl rfl ?_; refine SubE.c rfl rfl ?_; refine SubE.c rfl rfl ?_; refine SubE.c rfl rfl ?_; refine SubE.c rfl rfl ?_; refine SubE.c rfl rfl ?_; refine SubE.c rfl rfl ?_; exact SubE.n)
            · ((refine Sb.c (Tk.t Tk.h) ?_; refine Sb.c (Tk.t Tk.h) ?_; refine Sb.c (Tk.t Tk.h) ?_; refine Sb.c (Tk.t Tk.h) ?_; refine Sb.c (Tk.t Tk.h) ?_; refine Sb.c Tk.h ?_); (exact Sb.r))
            · rintro m rv2 hs2 ⟨hm1, hm2, h2s, h2n, h2p, hall⟩
              have hsm := tab_small hok hl h2s h2n
              (refine G.seq ?_; refine G.seq ?_; refine G.region ?_; refine GO.move rfl rfl ?_; refine GO.move rfl rfl ?_; refine GO.nilCheck rfl rfl ?_; refine GO.fieldAddr rfl rfl ?_; refine GO.load1 rfl rfl rfl Tk.h rfl ?_; refine GO.lenS rfl rfl ?_; refine GO.lei rfl rfl rfl ?_; refine GO.nil ?_; refine kthen_n ?_)
              refine G.condD rfl (fun hlt2 => ?_) (fun hge2 => ?_)
              · (refine G.skip ?_; refine kthen_n ?_; refine G.seq ?_; refine G.block ?_; refine G.seq ?_)
                refine G.draw 11 (by kernel_rfl) ?_
                ((apply GQ.step; focus (intro Z; refine GO.move rfl rfl ?_; exact KQ.z)); (apply GQ.step; focus (intro Z; refine GO.fieldAddr rfl rfl ?_; exact KQ.z)); (apply GQ.step; focus (intro Z; refine GO.load1 rfl rfl rfl (Tk.t (Tk.t (Tk.t (Tk.t (Tk.t Tk.h))))) rfl ?_; exact KQ.z)))
                apply GQ.step; focus (intro Z; refine GO.idxS (j := 1) rfl rfl rfl ⟨rfl, by simp⟩ ?_; exact KQ.z)
                ((apply GQ.step; focus (intro Z; refine GO.fieldAddr rfl rfl ?_; exact KQ.z)); (apply GQ.step; focus (intro Z; refine GO.loadQ rfl rfl rfl (Tk.t (Tk.t (Tk.t Tk.h))) (by assumption) ?_; exact KQ.z)); (apply GQ.step; focus (intro Z; refine GO.fieldAddr rfl rfl ?_; exact KQ.z)); (apply GQ.step; focus (intro Z; refine GO.load1 rfl rfl rfl (Tk.t (Tk.t (Tk.t (Tk.t Tk.h)))) rfl ?_; exact KQ.z)); (apply GQ.step; focus (intro Z; refine GO.move rfl rfl ?_; exact KQ.z)); (apply GQ.step; focus (intro Z; refine GO.build3 rfl rfl rfl rfl rfl ?_; exact KQ.z)))
                apply GQ.step; focus (intro Z; refine GO.call2 rfl rfl rfl (has_spec bt C.nts (.slice (some ⟨b0, o0, none⟩) C.prods.length cp) (.slice aw w.length cw) bm rv2 hs2 (factV t.2 to m)) (Tks.c Tk.h (Tks.c Tk.h (Tks.c Tk.h Tks.n))) ?_; rintro _ _ ⟨rfl, rfl⟩; refine GO.nil (KQ.s ?_); ((refine Sb.c Tk.h ?_; refine Sb.c Tk.h ?_; refine Sb.c Tk.h ?_; refine Sb.c Tk.h ?_; refine Sb.c Tk.h ?_; refine Sb.c Tk.h ?_); (exact Sb.r)))
                (refine GQ.nil ?_)
                (refine GO.nil ?_; refine kthen_n ?_)
                refine G.condD rfl (fun hin => ?_) (fun hout => ?_)
                · have hd2 : Der C w B fr m := .two hpm (by rw [heq]; exact hd) (h2s.der hin)
                  (refine G.region ?_; refine GO.move rfl rfl ?_; refine GO.fieldAddr rfl rfl ?_; refine GO.load1 rfl rfl rfl (Tk.t (Tk.t (Tk.t (Tk.t (Tk.t Tk.h))))) rfl ?_; refine GO.fieldAddr rfl rfl ?_; refine GO.load1 rfl rfl rfl (Tk.t (Tk.t (Tk.t (Tk.t Tk.h)))) rfl ?_; refine GO.move rfl rfl ?_; refine GO.build3 rfl rfl rfl rfl rfl ?_)
                  refine GO.call2 rfl rfl rfl (add_spec bt C.nts (.slice (some ⟨b0, o0, none⟩) C.prods.length cp) (.slice aw w.length cw) bm rv2 hs2 (factV B fr m) (by omega)) (Tks.c Tk.h (Tks.c Tk.h (Tks.c Tk.h Tks.n))) ?_
                  rintro _ _ ⟨rv3, rfl⟩
                  (refine GO.nil ?_; refine kblock_n ?_; refine kthen_n ?_; refine G.region ?_; refine GO.move rfl rfl ?_; refine GO.addi rfl rfl rfl (by omega) ?_; refine GO.assign rfl rfl ?_; refine GO.nil ?_; refine kthen_n ?_)
                  refine ⟨m + 1, rv3, addF hs2 (factV B fr m), ⟨by omega, by omega, addF_sound h2s hd2, addF_nodup h2n _, addF_pre2 h2p _, fun n h1 h2 h3 => ?_⟩, by omega, ?_, ?_⟩
                  · by_cases e : n = m
                    · subst e; exact memA
                    · exact memO (hall n h1 (by omega) h3)
                  · (refine SubE.c rfl rfl ?_; refine SubE.c rfl rfl ?_; refine SubE.c rfl rfl ?_; refine SubE.c rfl rfl ?_; refine SubE.c rfl rfl ?_; refine SubE.c rfl rfl ?_; refine SubE.c rfl rfl ?_; exact SubE.n)
                  · ((refine Sb.c Tk.h ?_; refine Sb.c Tk.h ?_; refine Sb.c Tk.h ?_; refine Sb.c Tk.h ?_; refine Sb.c Tk.h ?_; refine Sb.c Tk.h ?_); (exact Sb.r))
                · (refine G.skip ?_; refine kblock_n ?_; refine kthen_n ?_; refine G.region ?_; refine GO.move rfl rfl ?_; refine GO.addi rfl rfl rfl (by omega) ?_; refine GO.assign rfl rfl ?_; refine GO.nil ?_; refine kthen_n ?_)
                  refine ⟨m + 1, rv2, hs2, ⟨by omega, by omega, h2s, h2n, h2p, fun n h1 h2 h3 => ?_⟩, by omega, ?_, ?_⟩
                  · by_cases e : n = m
                    · subst e
                      exact absurd (sub_pre h2p (sub_pre hpre h3)) hout
                    · exact hall n h1 (by omega) h3
                  · (refine SubE.c rfl rfl ?_; refine SubE.c rfl rfl ?_; refine SubE.c rfl rfl ?_; refine SubE.c rfl rfl ?_; refine SubE.c rfl rfl ?_; refine SubE.c rfl rfl ?_; refine SubE.c rfl rfl ?_; exact SubE.n)
                  · ((refine Sb.c Tk.h ?_; refine Sb.c Tk.h ?_; refine Sb.c Tk.h ?_; refine Sb.c Tk.h ?_; refine Sb.c Tk.h ?_; refine Sb.c Tk.h ?_); (exact Sb.r))
              · (refine G.exit ?_; refine kthen_x ?_; refine kthen_x ?_; refine kblock_x ?_; refine kthen_n ?_)
                refine ⟨(rv2, hs2), ⟨h2s, h2n, h2p, fun _ n hn => ?_⟩, ?_, ImpS.sb ?_⟩
                · have := (hs.der hn).le
                  exact hall n this.1 (by omega) hn
                · (refine SubE.c rfl rfl ?_; refine SubE.c rfl rfl ?_; refine SubE.c rfl rfl ?_; refine SubE.c rfl rfl ?_; refine SubE.c rfl rfl ?_; refine SubE.c rfl rfl ?_; exact SubE.n)
                · ((refine Sb.c Tk.h ?_; refine Sb.c Tk.h ?_; refine Sb.c Tk.h ?_; refine Sb.c Tk.h ?_; refine Sb.c Tk.h ?_; refine Sb.c Tk.h ?_); (exact Sb.r))
          · (refine G.skip ?_; refine kthen_n ?_)
            refine ⟨(rv, gs), ⟨hgs, hgn, ⟨[], by simp⟩, fun h => absurd h hne⟩, ?_, ImpS.sb ?_⟩
            · (refine SubE.c rfl rfl ?_; refine SubE.c rfl rfl ?_; refine SubE.c rfl rfl ?_; refine SubE.c rfl rfl ?_; refine SubE.c rfl rfl ?_; refine SubE.c rfl rfl ?_; exact SubE.n)
            · ((refine Sb.c (Tk.t Tk.h) ?_; refine Sb.c (Tk.t Tk.h) ?_; refine Sb.c (Tk.t Tk.h) ?_; refine Sb.c (Tk.t Tk.h) ?_; refine Sb.c (Tk.t Tk.h) ?_; refine Sb.c Tk.h ?_); (exact Sb.r))
        rintro ⟨rv1, gs1⟩ ⟨h1s, h1n, h1p, hone⟩
        dsimp only at h1s h1n h1p hone ⊢
        (refine G.seq ?_)
        refine G.draw 8 (by kernel_rfl) ?_
        ((apply GQ.step; focus (intro Z; refine GO.fieldAddr rfl rfl ?_; exact KQ.z)); (apply GQ.step; focus (intro Z; refine GO.load1 rfl rfl rfl (Tk.t (Tk.t (Tk.t (Tk.t (Tk.t Tk.h))))) rfl ?_; exact KQ.z)))
        apply GQ.step; focus (intro Z; refine GO.idxS (j := 1) rfl rfl rfl ⟨rfl, by simp⟩ ?_; exact KQ.z)
        ((apply GQ.step; focus (intro Z; refine GO.fieldAddr rfl rfl ?_; exact KQ.z)); (apply GQ.step; focus (intro Z; refine GO.loadQ rfl rfl rfl (Tk.t (Tk.t (Tk.t Tk.h))) (by assumption) ?_; exact KQ.z)); (apply GQ.step; focus (intro Z; refine GO.fieldAddr rfl rfl ?_; exact KQ.z)); (apply GQ.step; focus (intro Z; refine GO.load1 rfl rfl rfl (Tk.t (Tk.t (Tk.t (Tk.t Tk.h)))) rfl ?_; exact KQ.z)); (apply GQ.step; focus (intro Z; refine GO.eqi rfl rfl rfl ?_; exact KQ.z)); refine GQ.nil ?_)
        (refine GO.nil ?_; refine kthen_n ?_)
        refine G.midBE (fun _ : Value × List F3 => [(0, ptrT bt), (3, ptrT b3), (5, ptrT b5), (12, .slice (some ⟨b0, o0, none⟩) C.prods.length cp), (13, i64 (C.prods.length : Nat)), (14, i64 (k : Nat))]) (fun p => tabH bt C.nts (.slice (some ⟨b0, o0, none⟩) C.prods.length cp) (.slice aw w.length cw) bm p.1 :: pt bm (mapO (numF 0 p.2)) :: own 62 3 p.2.length p.1 (f3sV p.2) :: q :: pt b3 (row [i64 A, i64 (fr : Nat), i64 (to : Nat)] 62) :: pt b5 (row [i64 B, .slice (some ⟨bb, ob, none⟩) 2 cb] 52) :: F) (fun p => Sound C w p.2 ∧ p.2.Nodup ∧ (∃ t, p.2 = gs1 ++ t) ∧ (t.2 = A → ∀ m, factV s.2 m fr ∈ fs → factV B m to ∈ p.2)) ?_ ?_
        · refine G.condD rfl (fun heq => ?_) (fun hne => ?_)
          · (refine G.seq ?_; refine G.region ?_; refine GO.fieldAddr rfl rfl ?_; refine GO.load1 rfl rfl rfl (Tk.t (Tk.t (Tk.t (Tk.t Tk.h)))) rfl ?_; refine GO.addi rfl rfl rfl (by omega) ?_; refine GO.move rfl rfl ?_; refine GO.nil ?_; refine kthen_n ?_; refine G.block ?_)
            refine G.loop3 (fun (m : Nat) (_ : Value) (_ : List F3) => [(0, ptrT bt), (3, ptrT b3), (5, ptrT b5), (12, .slice (some ⟨b0, o0, none⟩) C.prods.length cp), (13, i64 (C.prods.length : Nat)), (14, i64 (k : Nat)), (70, .int .i64 ((fr : Int) + 1)), (71, i64 (m : Nat))]) (fun _ rv gs => tabH bt C.nts (.slice (some ⟨b0, o0, none⟩) C.prods.length cp) (.slice aw w.length cw) bm rv :: pt bm (mapO (numF 0 gs)) :: own 62 3 gs.length rv (f3sV gs) :: q :: pt b3 (row [i64 A, i64 (fr : Nat), i64 (to : Nat)] 62) :: pt b5 (row [i64 B, .slice (some ⟨bb, ob, none⟩) 2 cb] 52) :: F)
              (fun m _ hs => m ≤ fr + 1 ∧ Sound C w hs ∧ hs.Nodup ∧ (∃ t, hs = gs1 ++ t) ∧ ∀ n, n < m → factV s.2 n fr ∈ fs → factV B n to ∈ hs) (fun m _ _ => fr + 1 - m) 0 rv1 gs1 ⟨Nat.zero_le _, h1s, h1n, ⟨[], by simp⟩, fun n h2 => absurd h2 (Nat.not_lt_zero _)⟩ ?_ ?_ ?_
            · (refine SubE.c rfl rfl ?_; refine SubE.c rfl rfl ?_; refine SubE.c rfl rfl ?_; refine SubE.c rfl rfl ?_; refine SubE.c rfl rfl ?_; refine SubE.c rfl rfl ?_; refine SubE.c rfl rfl ?_; refine SubE.c rfl rfl ?_; exact SubE.n)
            · ((refine Sb.c Tk.h ?_; refine Sb.c Tk.h ?_; refine Sb.c Tk.h ?_; refine Sb.c Tk.h ?_; refine Sb.c Tk.h ?_; refine Sb.c Tk.h ?_); (exact Sb.r))
            · rintro m rv2 hs2 ⟨hm2, h2s, h2n, h2p, hall⟩
              have hsm := tab_small hok hl h2s h2n
              (refine G.seq ?_; refine G.region ?_; refine GO.lti rfl rfl rfl ?_; refine GO.nil ?_; refine kthen_n ?_; refine G.seq ?_)
              refine G.condD rfl (fun hlt2 => ?_) (fun hge2 => ?_)
              · (refine G.skip ?_; refine kthen_n ?_; refine G.seq ?_; refine G.block ?_; refine G.seq ?_; refine G.region ?_; refine GO.move rfl rfl ?_; refine GO.assign rfl rfl ?_; refine GO.nil ?_; refine kthen_n ?_; refine G.seq ?_)
                refine G.draw 11 (by kernel_rfl) ?_
                ((apply GQ.step; focus (intro Z; refine GO.move rfl rfl ?_; exact KQ.z)); (apply GQ.step; focus (intro Z; refine GO.fieldAddr rfl rfl ?_; exact KQ.z)); (apply GQ.step; focus (intro Z; refine GO.load1 rfl rfl rfl (Tk.t (Tk.t (Tk.t (Tk.t (Tk.t Tk.h))))) rfl ?_; exact KQ.z)))
                apply GQ.step; focus (intro Z; refine GO.idxS (j := 0) rfl rfl rfl ⟨rfl, by simp⟩ ?_; exact KQ.z)
                ((apply GQ.step; focus (intro Z; refine GO.fieldAddr rfl rfl ?_; exact KQ.z)); (apply GQ.step; focus (intro Z; refine GO.loadQ rfl rfl rfl (Tk.t (Tk.t (Tk.t Tk.h))) (by assumption) ?_; exact KQ.z)); (apply GQ.step; focus (intro Z; refine GO.move rfl rfl ?_; exact KQ.z)); (apply GQ.step; focus (intro Z; refine GO.fieldAddr rfl rfl ?_; exact KQ.z)); (apply GQ.step; focus (intro Z; refine GO.load1 rfl rfl rfl (Tk.t (Tk.t (Tk.t (Tk.t Tk.h)))) rfl ?_; exact KQ.z)); (apply GQ.step; focus (intro Z; refine GO.build3 rfl rfl rfl rfl rfl ?_; exact KQ.z)))
                apply GQ.step; focus (intro Z; refine GO.call2 rfl rfl rfl (has_spec bt C.nts (.slice (some ⟨b0, o0, none⟩) C.prods.length cp) (.slice aw w.length cw) bm rv2 hs2 (factV s.2 m fr)) (Tks.c Tk.h (Tks.c Tk.h (Tks.c Tk.h Tks.n))) ?_; rintro _ _ ⟨rfl, rfl⟩; refine GO.nil (KQ.s ?_); ((refine Sb.c Tk.h ?_; refine Sb.c Tk.h ?_; refine Sb.c Tk.h ?_; refine Sb.c Tk.h ?_; refine Sb.c Tk.h ?_; refine Sb.c Tk.h ?_); (exact Sb.r)))
                (refine GQ.nil ?_)
                (refine GO.nil ?_; refine kthen_n ?_)
                refine G.condD rfl (fun hin => ?_) (fun hout => ?_)
                · have hd2 : Der C w B m to := .two hpm (h2s.der hin) (by rw [heq]; exact hd)
                  (refine G.region ?_; refine GO.move rfl rfl ?_; refine GO.fieldAddr rfl rfl ?_; refine GO.load1 rfl rfl rfl (Tk.t (Tk.t (Tk.t (Tk.t (Tk.t Tk.h))))) rfl ?_; refine GO.move rfl rfl ?_; refine GO.fieldAddr rfl rfl ?_; refine GO.load1 rfl rfl rfl (Tk.t (Tk.t (Tk.t (Tk.t Tk.h)))) rfl ?_; refine GO.build3 rfl rfl rfl rfl rfl ?_)
                  refine GO.call2 rfl rfl rfl (add_spec bt C.nts (.slice (some ⟨b0, o0, none⟩) C.prods.length cp) (.slice aw w.length cw) bm rv2 hs2 (factV B m to) (by omega)) (Tks.c Tk.h (Tks.c Tk.h (Tks.c Tk.h Tks.n))) ?_
                  rintro _ _ ⟨rv3, rfl⟩
                  (refine GO.nil ?_; refine kblock_n ?_; refine kthen_n ?_; refine G.region ?_; refine GO.addi rfl rfl rfl (by omega) ?_; refine GO.move rfl rfl ?_; refine GO.nil ?_; refine kthen_n ?_)
                  refine ⟨m + 1, rv3, addF hs2 (factV B m to), ⟨by omega, addF_sound h2s hd2, addF_nodup h2n _, addF_pre2 h2p _, fun n h2 h3 => ?_⟩, by omega, ?_, ?_⟩
                  · by_cases e : n = m
                    · subst e; exact memA
                    · exact memO (hall n (by omega) h3)
                  · (refine SubE.c rfl rfl ?_; refine SubE.c rfl rfl ?_; refine SubE.c rfl rfl ?_; refine SubE.c rfl rfl ?_; refine SubE.c rfl rfl ?_; refine SubE.c rfl rfl ?_; refine SubE.c rfl rfl ?_; refine SubE.c rfl rfl ?_; exact SubE.n)
                  · ((refine Sb.c Tk.h ?_; refine Sb.c Tk.h ?_; refine Sb.c Tk.h ?_; refine Sb.c Tk.h ?_; refine Sb.c Tk.h ?_; refine Sb.c Tk.h ?_); (exact Sb.r))
                · (refine G.skip ?_; refine kblock_n ?_; refine kthen_n ?_; refine G.region ?_; refine GO.addi rfl rfl rfl (by omega) ?_; refine GO.move rfl rfl ?_; refine GO.nil ?_; refine kthen_n ?_)
                  refine ⟨m + 1, rv2, hs2, ⟨by omega, h2s, h2n, h2p, fun n h2 h3 => ?_⟩, by omega, ?_, ?_⟩
                  · by_cases e : n = m
                    · subst e
                      exact absurd (sub_pre h2p (sub_pre h1p (sub_pre hpre h3))) hout
                    · exact hall n (by omega) h3
                  · (refine SubE.c rfl rfl ?_; refine SubE.c rfl rfl ?_; refine SubE.c rfl rfl ?_; refine SubE.c rfl rfl ?_; refine SubE.c rfl rfl ?_; refine SubE.c rfl rfl ?_; refine SubE.c rfl rfl ?_; refine SubE.c rfl rfl ?_; exact SubE.n)
                  · ((refine Sb.c Tk.h ?_; refine Sb.c Tk.h ?_; refine Sb.c Tk.h ?_; refine Sb.c Tk.h ?_; refine Sb.c Tk.h ?_; refine Sb.c Tk.h ?_); (exact Sb.r))
              · (refine G.exit ?_; refine kthen_x ?_; refine kthen_x ?_; refine kblock_x ?_; refine kblock_n ?_; refine kthen_n ?_)
                refine ⟨(rv2, hs2), ⟨h2s, h2n, h2p, fun _ n hn => ?_⟩, ?_, ImpS.sb ?_⟩
                · have := (hs.der hn).le
                  exact hall n (by omega) hn
                · (refine SubE.c rfl rfl ?_; refine SubE.c rfl rfl ?_; refine SubE.c rfl rfl ?_; refine SubE.c rfl rfl ?_; refine SubE.c rfl rfl ?_; refine SubE.c rfl rfl ?_; exact SubE.n)
                · ((refine Sb.c Tk.h ?_; refine Sb.c Tk.h ?_; refine Sb.c Tk.h ?_; refine Sb.c Tk.h ?_; refine Sb.c Tk.h ?_; refine Sb.c Tk.h ?_); (exact Sb.r))
          · (refine G.skip ?_; refine kblock_n ?_; refine kthen_n ?_)
            refine ⟨(rv1, gs1), ⟨h1s, h1n, ⟨[], by simp⟩, fun h => absurd h hne⟩, ?_, ImpS.sb ?_⟩
            · (refine SubE.c rfl rfl ?_; refine SubE.c rfl rfl ?_; refine SubE.c rfl rfl ?_; refine SubE.c rfl rfl ?_; refine SubE.c rfl rfl ?_; refine SubE.c rfl rfl ?_; exact SubE.n)
            · ((refine Sb.c Tk.h ?_; refine Sb.c Tk.h ?_; refine Sb.c Tk.h ?_; refine Sb.c Tk.h ?_; refine Sb.c Tk.h ?_; refine Sb.c Tk.h ?_); (exact Sb.r))
        rintro ⟨rv2, gs2⟩ ⟨h2s, h2n, h2p, htwo⟩
        dsimp only at h2s h2n h2p htwo ⊢
        (refine G.region ?_; refine GO.addi rfl rfl rfl (by omega) ?_; refine GO.move rfl rfl ?_; refine GO.nil ?_; refine kthen_n ?_)
        refine ⟨k + 1, rv2, gs2, ⟨by omega, h2s, h2n, pre_trans (pre_trans hpre h1p) h2p, fun j p hj hjp => ?_⟩, by omega, ?_, ?_⟩
        · by_cases e : j = k
          · subst e
            rw [hpk] at hjp
            injection hjp with hjp
            subst hjp
            intro s' t' e
            dsimp only at e
            injection e with e1 e
            injection e with e2 _
            subst e1 e2
            exact ⟨fun h m hm => sub_pre h2p (hone h m hm), fun h m hm => htwo h m hm⟩
          · exact (hb j p (by omega) hjp).mono fun x hx => sub_pre h2p (sub_pre h1p hx)
        · (refine SubE.c rfl rfl ?_; refine SubE.c rfl rfl ?_; refine SubE.c rfl rfl ?_; refine SubE.c rfl rfl ?_; refine SubE.c rfl rfl ?_; exact SubE.n)
        · ((refine Sb.c Tk.h ?_; refine Sb.c Tk.h ?_; refine Sb.c Tk.h ?_; refine Sb.c Tk.h ?_; refine Sb.c Tk.h ?_); (refine Sb.s ?_; exact Sb.r))
    · have : k = C.prods.length := by omega
      subst this
      (refine G.exit ?_; refine kthen_x ?_; refine kthen_x ?_; refine kblock_x ?_)
      refine KF2.n0 (Q := tabL bt C.nts (.slice ap C.prods.length cp) (.slice aw w.length cw) bm rv gs ++ [q]) rfl ⟨rv, gs, hgs, hgn, hpre, fun p hpm => ?_, rfl⟩ (ImpS.sb ?_)
      · obtain ⟨j, hj⟩ := List.getElem?_of_mem hpm
        exact hb j p (List.getElem?_eq_some_iff.1 hj).1 hj
      · ((refine Sb.c Tk.h ?_; refine Sb.c Tk.h ?_; refine Sb.c Tk.h ?_; refine Sb.c Tk.h ?_); (refine Sb.s ?_; exact Sb.r))
end Go.Proofs.Ytjokibfldngkeaa
namespace Go.Proofs.Ytjokibfldngkeaa
open Go
theorem f3sV_get : ∀ {fs : List F3} {k : Nat} {f : F3}, fs[k]? = some f → (f3sV fs)[k * 3]? = some (i64 f.1) ∧ (f3sV fs)[k * 3 + 1]? = some (i64 f.2.1) ∧ (f3sV fs)[k * 3 + 2]? = some (i64 f.2.2)
  | [], _, _, h => by simp at h
  | g :: fs, 0, f, h => by simp at h; subst h; simp [f3sV]
  | g :: fs, k + 1, f, h => by
    have := f3sV_get (fs := fs) (k := k) (by simpa using h)
    have e : f3sV (g :: fs) = i64 g.1 :: i64 g.2.1 :: i64 g.2.2 :: f3sV fs := rfl
    rw [e, show (k + 1) * 3 = k * 3 + 3 by omega]
    simpa using this
theorem built_tab (n : Int) (ap aw : Option Addr) (lp cp lw cw bm : Nat) : Try.prog.built 88 [(0, .agg #[i64 n, .slice ap lp cp]), (1, .slice aw lw cw), (2, .map (some bm))] = some [i64 n, .slice ap lp cp, .slice aw lw cw, .map (some bm), .slice none 0 0].toArray := by kernel_rfl
/-- Of the facts ahead of a place, those that belong to each other are joined. -/
def Clk (C : CnfD) (k : Nat) (fs : List F3) : Prop := ∀ p ∈ C.prods, ∀ s t, p.2 = [s, t] → ∀ i m j a b, a < k → b < k → fs[a]? = some (factV s.2 i m) → fs[b]? = some (factV t.2 m j) → factV p.1 i j ∈ fs
theorem Clk.succ {C : CnfD} {k : Nat} {fs gs : List F3} {A : Int} {fr to : Nat} (h : Clk C k fs) (hk : fs[k]? = some (factV A fr to)) (hp : ∃ t, gs = fs ++ t) (hj : ∀ p ∈ C.prods, JoinP p A fr to fs gs) : Clk C (k + 1) gs := by
  intro p hpm s t e i m j a b ha hb h1 h2
  have hkl := (List.getElem?_eq_some_iff.1 hk).1
  obtain ⟨u, rfl⟩ := hp
  rw [List.getElem?_append_left (by omega)] at h1 h2
  by_cases ea : a = k
  · subst ea
    rw [hk] at h1
    injection h1 with h1
    obtain ⟨rfl, rfl, rfl⟩ := factV_inj h1
    exact (hj p hpm s t e).1 rfl _ (List.mem_of_getElem? h2)
  · by_cases eb : b = k
    · subst eb
      rw [hk] at h2
      injection h2 with h2
      obtain ⟨rfl, rfl, rfl⟩ := factV_inj h2
      exact (hj p hpm s t e).2 rfl _ (List.mem_of_getElem? h1)
    · exact List.mem_append_left _ (h p hpm s t e i m j a b (by omega) (by omega) h1 h2)
theorem table_der {C : CnfD} {w : List Int} {fs : List F3} (hs : Sound C w fs) (hb : ∀ p ∈ C.prods, BaseP w p fs) (hc : Clk C fs.length fs) (A : Int) (i j : Nat) : factV A i j ∈ fs ↔ Der C w A i j :=
  ⟨fun h => hs.der h, fun h => closed_der hb (fun p hp s t e i k j h1 h2 => by
    obtain ⟨a, ha⟩ := List.getElem?_of_mem h1
    obtain ⟨b, hb⟩ := List.getElem?_of_mem h2
    exact hc p hp s t e i k j a b (List.getElem?_eq_some_iff.1 ha).1 (List.getElem?_eq_some_iff.1 hb).1 ha hb) h⟩
theorem begin0 (q : HP) (C : CnfD) (w : List Int) (pv wv : Value) (hp : PrsR q pv C.prods) (hw : WordR q wv w) (hok : okC C = true) (hz : Fits C) (hl : ¬ 64 < w.length) (bt bm : Nat) :
    Fn Try.prog 41 #[ptrT bt] [tabH bt C.nts pv wv bm (.slice none 0 0), pt bm (mapO []), own 62 3 0 (.slice none 0 0) [], q] (fun r Q => ∃ rv' fs', Sound C w fs' ∧ fs'.Nodup ∧ (∀ p ∈ C.prods, BaseP w p fs') ∧ Q = tabL bt C.nts pv wv bm rv' fs' ++ [q]) :=
  begin_spec q C w pv wv hp hw hok hz hl bt bm (.slice none 0 0) [] (fun f h => by cases h) List.nodup_nil
attribute [local irreducible] G GO GR GT Fn FnV pt init exs pur sat own ImpS f3sV numF mapO addF wordV symsV
set_option maxHeartbeats 8000000 in
theorem tabled_sound (q : HP) (C : CnfD) (w : List Int) (pv wv : Value) (hp : PrsR q pv C.prods) (hw : WordR q wv w) (hok : okC C = true) (hz : Fits C) (hl : ¬ 64 < w.length) :
    Fn Try.prog 26 #[.agg #[i64 C.nts, pv], wv] [q] (fun r Q => ∃ bt bm rv fs, r = ptrT bt ∧ (∀ A i j, factV A i j ∈ fs ↔ Der C w A i j) ∧ Sound C w fs ∧ Q = tabL bt C.nts pv wv bm rv fs ++ [q]) := by
  have hpn : ¬ 140737488355328 < C.prods.length := by have := hz.1; omega
  have hbeg := begin0 q C w pv wv hp hw hok hz hl
  have hjoin := fun (bt bm : Nat) (rv : Value) (fs : List F3) => join_fact q C w pv wv hp hw hok hz hl bt bm rv fs
  obtain ⟨ap, cp, rfl⟩ := hp.form
  obtain ⟨aw, cw, rfl⟩ := hw.form
  refine Fn.mk2 Try.func26 rfl rfl fun w0 F => ?_
  (refine G.seq ?_; refine G.region ?_; refine GO.box rfl rfl rfl fun b2 => ?_; refine GO.assign rfl rfl ?_; refine GO.nil ?_; refine kthen_n ?_; refine G.seq ?_; refine G.region ?_; refine GO.loadW rfl rfl rfl Tk.h rfl ?_; refine GO.move rfl rfl ?_)
  refine GO.makeMap rfl fun bm => ?_
  refine GO.buildPart3 (built_tab C.nts ap aw C.prods.length cp w.length cw bm) rfl rfl rfl rfl ?_
  (refine GO.box rfl rfl rfl fun b11 => ?_; refine GO.assign rfl rfl ?_; refine GO.nil ?_; refine kthen_n ?_; refine G.seq ?_; refine G.region ?_; refine GO.move rfl rfl ?_)
  refine GO.ownNil (T := 62) (sz := 3) ?_
  refine GO.call1 rfl rfl (hbeg b11 bm) (Tks.c (Tk.t Tk.h) (Tks.c (Tk.t Tk.h) (Tks.c Tk.h (Tks.c (Tk.t Tk.h) Tks.n)))) ?_
  rintro _ _ ⟨rv, fs, hs, hn, hb, rfl⟩
  (refine GO.nil ?_; refine kthen_n ?_; refine G.seq ?_; refine G.seq ?_; refine G.region ?_; refine GO.assign rfl rfl ?_; refine GO.nil ?_; refine kthen_n ?_; refine G.block ?_)
  refine G.loop3 (fun (k : Nat) (_ : Value) (_ : List F3) => [(5, ptrT b11), (6, i64 (k : Nat))]) (fun _ rv gs => tabH b11 C.nts (.slice ap C.prods.length cp) (.slice aw w.length cw) bm rv :: pt bm (mapO (numF 0 gs)) :: own 62 3 gs.length rv (f3sV gs) :: q :: F)
    (fun k _ gs => k ≤ gs.length ∧ Sound C w gs ∧ gs.Nodup ∧ (∀ p ∈ C.prods, BaseP w p gs) ∧ Clk C k gs) (fun k _ _ => 5000000 - k) 0 rv fs ⟨Nat.zero_le _, hs, hn, hb, fun p _ s t _ i m j a b h => absurd h (Nat.not_lt_zero _)⟩ ?_ ?_ ?_
  · (refine SubE.c rfl rfl ?_; refine SubE.c rfl rfl ?_; exact SubE.n)
  · ((refine Sb.c Tk.h ?_; refine Sb.c Tk.h ?_; refine Sb.c Tk.h ?_; refine Sb.c Tk.h ?_); (refine Sb.s ?_; exact Sb.r))
  · rintro k rv fs ⟨hk, hs, hn, hb, hc⟩
    have hsm := tab_small hok hl hs hn
    (refine G.seq ?_; refine G.seq ?_; refine G.region ?_; refine GO.move rfl rfl ?_; refine GO.move rfl rfl ?_; refine GO.nilCheck rfl rfl ?_; refine GO.fieldAddr rfl rfl ?_; refine GO.load1 rfl rfl rfl Tk.h rfl ?_; refine GO.lenOwn rfl rfl (Tk.t (Tk.t Tk.h)) ?_; refine GO.lti rfl rfl rfl ?_; refine GO.nil ?_; refine kthen_n ?_)
    refine G.condD rfl (fun hlt => ?_) (fun hge => ?_)
    · have hkl : k < fs.length := by omega
      obtain ⟨f, hf⟩ : ∃ f, fs[k]? = some f := ⟨_, List.getElem?_eq_getElem hkl⟩
      obtain ⟨A, fr, to, rfl, hd⟩ := hs f (List.mem_of_getElem? hf)
      obtain ⟨g1, g2, g3⟩ := f3sV_get hf
      refine G.ownForm (by omega) (Tk.t (Tk.t Tk.h)) fun b cap e12 _ _ _ => ?_
      subst e12
      have hrd : ∀ j u, [i64 A, i64 (fr : Nat), i64 (to : Nat)][j]? = some u → Rd (own 62 3 fs.length (.slice (some ⟨b, 0, none⟩) fs.length cap) (f3sV fs)) ⟨b, 0 + k * 3 + j, none⟩ u := fun j u hj => by
        refine Rd.own ?_
        rw [Nat.zero_add]
        match j, hj with
        | 0, hj => simp at hj; subst hj; exact g1
        | 1, hj => simp at hj; subst hj; exact g2
        | 2, hj => simp at hj; subst hj; exact g3
      (refine G.skip ?_; refine kthen_n ?_; refine G.seq ?_; refine G.block ?_; refine G.region ?_; refine GO.move rfl rfl ?_; refine GO.move rfl rfl ?_; refine GO.nilCheck rfl rfl ?_; refine GO.fieldAddr rfl rfl ?_; refine GO.load1 rfl rfl rfl Tk.h rfl ?_; refine GO.move rfl rfl ?_; refine GO.idxS rfl rfl rfl ⟨rfl, by omega⟩ ?_)
      refine GO.loadM (vs := [i64 A, i64 (fr : Nat), i64 (to : Nat)]) rfl rfl rfl (Tk.t (Tk.t Tk.h)) rfl hrd ?_
      skip
      refine GO.call2 rfl rfl rfl (hjoin b11 bm (.slice (some ⟨b, 0, none⟩) fs.length cap) fs hs hn A fr to hd) (Tks.c Tk.h (Tks.c Tk.h (Tks.c Tk.h (Tks.c Tk.h Tks.n)))) ?_
      rintro _ _ ⟨rv', gs, h1, h2, h3, h4, rfl⟩
      (refine GO.nil ?_; refine kblock_n ?_; refine kthen_n ?_; refine G.region ?_; refine GO.move rfl rfl ?_; refine GO.addi rfl rfl rfl (by omega) ?_; refine GO.assign rfl rfl ?_; refine GO.nil ?_; refine kthen_n ?_)
      refine ⟨k + 1, rv', gs, ⟨?_, h1, h2, fun p hp => (hb p hp).mono fun x hx => sub_pre h3 hx, hc.succ hf h3 h4⟩, by omega, ?_, ?_⟩
      · obtain ⟨u, rfl⟩ := h3
        rw [List.length_append]; omega
      · (refine SubE.c rfl rfl ?_; refine SubE.c rfl rfl ?_; exact SubE.n)
      · ((refine Sb.c Tk.h ?_; refine Sb.c Tk.h ?_; refine Sb.c Tk.h ?_; refine Sb.c Tk.h ?_); (exact Sb.r))
    · have : k = fs.length := by omega
      subst this
      (refine G.exit ?_; refine kthen_x ?_; refine kthen_x ?_; refine kblock_x ?_; refine kthen_n ?_; refine G.seq ?_; refine G.region ?_; refine GO.move rfl rfl ?_; refine GO.assign rfl rfl ?_; refine GO.nil ?_; refine kthen_n ?_; refine G.ret ?_)
      refine KF2.r1 rfl (RV.t rfl) ⟨b11, bm, rv, fs, rfl, table_der hs hb hc, hs, rfl⟩ (ImpS.sb ?_)
      ((refine Sb.c Tk.h ?_; refine Sb.c Tk.h ?_; refine Sb.c Tk.h ?_; refine Sb.c Tk.h ?_); (exact Sb.r))
theorem tabled_spec (q : HP) (C : CnfD) (w : List Int) (pv wv : Value) (hp : PrsR q pv C.prods) (hw : WordR q wv w) (hok : okC C = true) (hz : Fits C) (hl : ¬ 64 < w.length) :
    Fn Try.prog 26 #[.agg #[i64 C.nts, pv], wv] [q] (fun r Q => ∃ bt bm rv fs, r = ptrT bt ∧ (∀ A i j, factV A i j ∈ fs ↔ Der C w A i j) ∧ Q = tabL bt C.nts pv wv bm rv fs ++ [q]) :=
  (tabled_sound q C w pv wv hp hw hok hz hl).mono fun _ _ ⟨bt, bm, rv, fs, h1, h2, _, h3⟩ => ⟨bt, bm, rv, fs, h1, h2, h3⟩
end Go.Proofs.Ytjokibfldngkeaa
namespace Go.Proofs.Ytjokibfldngkeaa
open Go
attribute [local irreducible] G GO GR GT Fn FnV pt init exs pur sat own ImpS
def symV (s : SymD) : Value := .agg [.bool s.1, i64 s.2].toArray
set_option maxHeartbeats 2000000 in
theorem indexSym_spec (q : HP) (v f : Value) (ss : List SymD) (pred : SymD → Bool) (M : List HP) (hv : SymsR q v ss) (hf : ∀ s ∈ ss, FnV Try.prog f [symV s] (q :: M) (fun r Q => r = .bool (pred s) ∧ Q = q :: M)) (hn : ss.length ≤ 9223372036854775807) :
    Fn Try.prog 58 #[v, f] (q :: M) (fun r Q => ((∃ k : Nat, r = i64 k ∧ ss.any pred = true) ∨ (r = i64 (-1) ∧ ss.any pred = false)) ∧ Q = q :: M) := by
  obtain ⟨a, cap, rfl⟩ := hv.form
  refine Fn.mk Try.func58 rfl rfl fun w0 F => ?_
  (refine G.seq ?_; refine G.region ?_; refine GO.assign rfl rfl ?_; refine GO.nil ?_; refine kthen_n ?_; refine G.seq ?_; refine G.seq ?_; refine G.region ?_; refine GO.move rfl rfl ?_; refine GO.lenS rfl rfl ?_; refine GO.move rfl rfl ?_; refine GO.nil ?_; refine kthen_n ?_; refine G.block ?_)
  refine G.loop (fun k : Nat => [(0, .slice a ss.length cap), (1, f), (7, i64 ss.length), (8, i64 k)]) (fun _ => q :: (M ++ F)) (fun k => k ≤ ss.length ∧ (ss.take k).any pred = false) (fun k => ss.length - k) 0 ⟨by omega, rfl⟩ ?_ ?_ ?_
  · (refine SubE.c rfl rfl ?_; refine SubE.c rfl rfl ?_; refine SubE.c rfl rfl ?_; refine SubE.c rfl rfl ?_; exact SubE.n)
  · exact Sb.r
  rintro k ⟨hk, hany⟩
  (refine G.seq ?_; refine G.region ?_; refine GO.lti rfl rfl rfl ?_; refine GO.nil ?_; refine kthen_n ?_; refine G.seq ?_)
  refine G.condD rfl (fun hlt => ?_) (fun hge => ?_)
  · have hlt' : k < ss.length := by omega
    obtain ⟨s, hs⟩ : ∃ s : SymD, ss[k]? = some s := ⟨ss[k], by simp [hlt']⟩
    obtain ⟨b, o, rfl, _, r1, r2⟩ := hv.at hs
    (refine G.skip ?_; refine kthen_n ?_; refine G.seq ?_; refine G.block ?_; refine G.seq ?_; refine G.region ?_; refine GO.move rfl rfl ?_; refine GO.assign rfl rfl ?_; refine GO.nil ?_; refine kthen_n ?_; refine G.seq ?_; refine G.region ?_; refine GO.move rfl rfl ?_; refine GO.move rfl rfl ?_; refine GO.move rfl rfl ?_; refine GO.idxS rfl rfl rfl ⟨rfl, by omega⟩ ?_)
    refine GO.load2 (q := q) rfl rfl rfl Tk.h r1 r2 ?_
    refine GO.callV1 rfl rfl rfl (hf s (List.mem_of_getElem? hs)) (show Tks (q :: M) (q :: (M ++ F)) F from List.Perm.refl _) ?_
    rintro _ _ ⟨rfl, rfl⟩
    (refine GO.nil ?_; refine kthen_n ?_)
    refine G.cond rfl (fun hb => ?_) (fun hb => ?_)
    · (refine G.seq ?_; refine G.region ?_; refine GO.move rfl rfl ?_; refine GO.assign rfl rfl ?_; refine GO.nil ?_; refine kthen_n ?_; refine G.ret ?_; refine kblock_r ?_; refine kthen_r ?_; refine kthen_r ?_; refine kblock_r ?_; refine kthen_r ?_)
      refine KF.r1 rfl (RV.t rfl) ⟨.inl ⟨k, rfl, ?_⟩, rfl⟩ ?_
      · rw [List.any_eq_true]; exact ⟨s, List.mem_of_getElem? hs, hb⟩
      · exact Sb.r
    · (refine G.skip ?_; refine kblock_n ?_; refine kthen_n ?_; refine G.region ?_; refine GO.addi rfl rfl rfl (by omega) ?_; refine GO.move rfl rfl ?_; refine GO.nil ?_; refine kthen_n ?_)
      refine ⟨k + 1, ⟨by omega, ?_⟩, by omega, ?_, ?_⟩
      · rw [List.take_add_one, hs, List.any_append, hany]; simp [hb]
      · (refine SubE.c rfl rfl ?_; refine SubE.c rfl rfl ?_; refine SubE.c rfl rfl ?_; refine SubE.c rfl rfl ?_; exact SubE.n)
      · exact Sb.r
  · have : k = ss.length := by omega
    subst this
    rw [List.take_length] at hany
    (refine G.exit ?_; refine G.seq ?_; refine G.region ?_; refine GO.assign rfl rfl ?_; refine GO.nil ?_; refine kthen_n ?_; refine G.ret ?_)
    refine KF.r1 rfl (RV.t rfl) ⟨.inr ⟨rfl, hany⟩, rfl⟩ ?_
    exact Sb.r
theorem containsSym_spec (q : HP) (v f : Value) (ss : List SymD) (pred : SymD → Bool) (M : List HP) (hv : SymsR q v ss) (hf : ∀ s ∈ ss, FnV Try.prog f [symV s] (q :: M) (fun r Q => r = .bool (pred s) ∧ Q = q :: M)) (hn : ss.length ≤ 9223372036854775807) :
    Fn Try.prog 50 #[v, f] (q :: M) (fun r Q => r = .bool (ss.any pred) ∧ Q = q :: M) := by
  refine Fn.mk Try.func50 rfl rfl fun w0 F => ?_
  (refine G.seq ?_; refine G.region ?_; refine GO.assign rfl rfl ?_; refine GO.nil ?_; refine kthen_n ?_; refine G.seq ?_; refine G.region ?_; refine GO.move rfl rfl ?_; refine GO.move rfl rfl ?_)
  refine GO.call2 rfl rfl rfl (indexSym_spec q v f ss pred M hv hf hn) (show Tks (q :: M) (q :: M ++ F) F from List.Perm.refl _) ?_
  rintro _ _ ⟨h, rfl⟩
  rcases h with ⟨k, rfl, h⟩ | ⟨rfl, h⟩
  · (refine GO.gei rfl rfl rfl ?_; refine GO.assign rfl rfl ?_; refine GO.nil ?_; refine kthen_n ?_; refine G.ret ?_)
    refine KF.r1 rfl (RV.t rfl) ⟨?_, rfl⟩ Sb.r
    rw [h]; simp
  · (refine GO.gei rfl rfl rfl ?_; refine GO.assign rfl rfl ?_; refine GO.nil ?_; refine kthen_n ?_; refine G.ret ?_)
    refine KF.r1 rfl (RV.t rfl) ⟨?_, rfl⟩ Sb.r
    rw [h]; rfl
theorem nt_spec (n m : Int) (b1 : Nat) (u : Value) : Fn Try.prog 49 #[i64 m, .pointer (some ⟨b1, 0, none⟩)] [pt b1 (row [i64 n, u] 24)] (fun r Q => r = .bool (decide (0 ≤ m) && decide (m < n)) ∧ Q = [pt b1 (row [i64 n, u] 24)]) := by
  refine Fn.mk Try.func49 rfl rfl fun w0 F => ?_
  (refine G.seq ?_; refine G.region ?_; refine GO.assign rfl rfl ?_; refine GO.nil ?_; refine kthen_n ?_; refine G.seq ?_; refine G.region ?_; refine GO.move rfl rfl ?_; refine GO.gei rfl rfl rfl ?_; refine GO.move rfl rfl ?_)
  refine GO.splitD 6 rfl (fun h => ?_) (fun h => ?_)
  · (refine GO.gT rfl rfl rfl ?_; refine GO.move rfl rfl ?_; refine GO.gT rfl rfl rfl ?_; refine GO.fieldAddr rfl rfl ?_; refine GO.gT rfl rfl rfl ?_; refine GO.load1 rfl rfl rfl Tk.h rfl ?_; refine GO.gT rfl rfl rfl ?_; refine GO.lti rfl rfl rfl ?_; refine GO.pickT rfl rfl rfl ?_; refine GO.assign rfl rfl ?_; refine GO.nil ?_; refine kthen_n ?_; refine G.ret ?_)
    refine KF.r1 rfl (RV.t rfl) ⟨by simp [h], rfl⟩ ?_
    ((refine Sb.c Tk.h ?_); (exact Sb.r))
  · (refine GO.gF rfl rfl rfl rfl ?_; refine GO.gF rfl rfl rfl rfl ?_; refine GO.gF rfl rfl rfl rfl ?_; refine GO.gF rfl rfl rfl rfl ?_; refine GO.pickF rfl rfl rfl ?_; refine GO.assign rfl rfl ?_; refine GO.nil ?_; refine kthen_n ?_; refine G.ret ?_)
    refine KF.r1 rfl (RV.t rfl) ⟨by simp [h], rfl⟩ ?_
    ((refine Sb.c Tk.h ?_); (exact Sb.r))
/-- The two variables that the engine's Check shares with its closures. -/
abbrev ntM (n : Int) (u : Value) (b1 b3 : Nat) : List HP := [pt b3 (row [.func (.func 49) #[] #[.pointer (some ⟨b1, 0, none⟩)]] 95), pt b1 (row [i64 n, u] 24)]
set_option maxHeartbeats 2000000 in
theorem bad_spec (n : Int) (s : SymD) (b1 b3 : Nat) (u : Value) : Fn Try.prog 51 #[symV s, .pointer (some ⟨b3, 0, none⟩)] (ntM n u b1 b3) (fun r Q => r = .bool (!symOK n s) ∧ Q = ntM n u b1 b3) := by
  obtain ⟨lb, m⟩ := s
  refine Fn.mk Try.func51 rfl rfl fun w0 F => ?_
  (refine G.seq ?_; refine G.region ?_)
  refine GO.box rfl rfl rfl fun b2 => ?_
  (refine GO.assign rfl rfl ?_; refine GO.nil ?_; refine kthen_n ?_; refine G.seq ?_; refine G.region ?_; refine GO.fieldAddr rfl rfl ?_; refine GO.load1 rfl rfl rfl Tk.h rfl ?_; refine GO.move rfl rfl ?_)
  cases lb with
  | true =>
    (refine GO.gT rfl rfl rfl ?_; refine GO.fieldAddr rfl rfl ?_; refine GO.gT rfl rfl rfl ?_; refine GO.load1 rfl rfl rfl Tk.h rfl ?_; refine GO.gT rfl rfl rfl ?_; refine GO.lti rfl rfl rfl ?_; refine GO.gT rfl rfl rfl ?_; refine GO.move rfl rfl ?_)
    refine GO.splitD 10 rfl (fun h => ?_) (fun h => ?_)
    · (refine GO.gF rfl rfl rfl rfl ?_; refine GO.gF rfl rfl rfl rfl ?_; refine GO.gF rfl rfl rfl rfl ?_; refine GO.gT rfl rfl rfl ?_; refine GO.pickT rfl rfl rfl ?_; refine GO.pickT rfl rfl rfl ?_; refine GO.move rfl rfl ?_; refine GO.gF rfl rfl rfl rfl ?_; refine GO.gF rfl rfl rfl rfl ?_; refine GO.gF rfl rfl rfl rfl ?_; refine GO.gF rfl rfl rfl rfl ?_; refine GO.gU rfl rfl rfl ?_; refine GO.gU rfl rfl rfl ?_; refine GO.gU rfl rfl rfl ?_; refine GO.gU rfl rfl rfl ?_; refine GO.gU rfl rfl rfl ?_; refine GO.gF rfl rfl rfl rfl ?_; refine GO.pickT rfl rfl rfl ?_; refine GO.assign rfl rfl ?_; refine GO.nil ?_; refine kthen_n ?_; refine G.ret ?_)
      refine KF.r1 rfl (RV.t rfl) ⟨by unfold symOK; simp [h], rfl⟩ ?_
      ((refine Sb.c (Tk.t Tk.h) ?_; refine Sb.c (Tk.t Tk.h) ?_); (refine Sb.s ?_; exact Sb.r))
    · (refine GO.gT rfl rfl rfl ?_; refine GO.fieldAddr rfl rfl ?_; refine GO.gT rfl rfl rfl ?_; refine GO.load1 rfl rfl rfl Tk.h rfl ?_; refine GO.gT rfl rfl rfl ?_; refine GO.gei rfl rfl rfl ?_; refine GO.gT rfl rfl rfl ?_; refine GO.pickF rfl rfl rfl ?_; refine GO.pickT rfl rfl rfl ?_; refine GO.move rfl rfl ?_)
      refine GO.splitD 16 rfl (fun h2 => ?_) (fun h2 => ?_)
      · (refine GO.gF rfl rfl rfl rfl ?_; refine GO.gF rfl rfl rfl rfl ?_; refine GO.gF rfl rfl rfl rfl ?_; refine GO.gF rfl rfl rfl rfl ?_; refine GO.gU rfl rfl rfl ?_; refine GO.gU rfl rfl rfl ?_; refine GO.gU rfl rfl rfl ?_; refine GO.gU rfl rfl rfl ?_; refine GO.gU rfl rfl rfl ?_; refine GO.gF rfl rfl rfl rfl ?_; refine GO.pickT rfl rfl rfl ?_; refine GO.assign rfl rfl ?_; refine GO.nil ?_; refine kthen_n ?_; refine G.ret ?_)
        refine KF.r1 rfl (RV.t rfl) ⟨by unfold symOK; simp [h2], rfl⟩ ?_
        ((refine Sb.c (Tk.t Tk.h) ?_; refine Sb.c (Tk.t Tk.h) ?_); (refine Sb.s ?_; exact Sb.r))
      · (refine GO.gT rfl rfl rfl ?_; refine GO.fieldAddr rfl rfl ?_; refine GO.gT rfl rfl rfl ?_; refine GO.load1 rfl rfl rfl Tk.h rfl ?_; refine GO.gT rfl rfl rfl ?_; refine GO.not rfl rfl ?_; refine GO.gT rfl rfl rfl ?_; refine GO.move rfl rfl ?_; refine GO.gF rfl rfl rfl rfl ?_; refine GO.gF rfl rfl rfl rfl ?_; refine GO.gF rfl rfl rfl rfl ?_; refine GO.gF rfl rfl rfl rfl ?_; refine GO.gF rfl rfl rfl rfl ?_; refine GO.gT rfl rfl rfl ?_; refine GO.pickF rfl rfl rfl ?_; refine GO.pickF rfl rfl rfl ?_; refine GO.assign rfl rfl ?_; refine GO.nil ?_; refine kthen_n ?_; refine G.ret ?_)
        refine KF.r1 rfl (RV.t rfl) ⟨by unfold symOK; simp [h, h2], rfl⟩ ?_
        ((refine Sb.c (Tk.t Tk.h) ?_; refine Sb.c (Tk.t Tk.h) ?_); (refine Sb.s ?_; exact Sb.r))
  | false =>
    (refine GO.gF rfl rfl rfl rfl ?_; refine GO.gF rfl rfl rfl rfl ?_; refine GO.gF rfl rfl rfl rfl ?_; refine GO.gF rfl rfl rfl rfl ?_; refine GO.gU rfl rfl rfl ?_; refine GO.gU rfl rfl rfl ?_; refine GO.gU rfl rfl rfl ?_; refine GO.gF rfl rfl rfl rfl ?_; refine GO.pickF rfl rfl rfl ?_; refine GO.move rfl rfl ?_; refine GO.gT rfl rfl rfl ?_; refine GO.fieldAddr rfl rfl ?_; refine GO.gT rfl rfl rfl ?_; refine GO.load1 rfl rfl rfl Tk.h rfl ?_; refine GO.gT rfl rfl rfl ?_; refine GO.not rfl rfl ?_; refine GO.gT rfl rfl rfl ?_; refine GO.move rfl rfl ?_; refine GO.gT rfl rfl rfl ?_; refine GO.load1 rfl rfl rfl (Tk.t Tk.h) rfl ?_; refine GO.gT rfl rfl rfl ?_; refine GO.fieldAddr rfl rfl ?_; refine GO.gT rfl rfl rfl ?_; refine GO.load1 rfl rfl rfl Tk.h rfl ?_; refine GO.gT rfl rfl rfl ?_)
    refine (GO.callV1 rfl rfl rfl (FnV.of (caps := [.pointer (some ⟨b1, 0, none⟩)]) (nt_spec n m b1 u)) (Tks.c (Tk.t (Tk.t Tk.h)) Tks.n) ?_)
    rintro _ _ ⟨rfl, rfl⟩
    (refine GO.gT rfl rfl rfl ?_; refine GO.not rfl rfl ?_; refine GO.gT rfl rfl rfl ?_; refine GO.pickT rfl rfl rfl ?_; refine GO.pickF rfl rfl rfl ?_; refine GO.assign rfl rfl ?_; refine GO.nil ?_; refine kthen_n ?_; refine G.ret ?_)
    refine KF.r1 rfl (RV.t rfl) ⟨?_, rfl⟩ ?_
    · unfold symOK
      simp
      by_cases h1 : m < 0 <;> by_cases h2 : n ≤ m <;> simp [h1, h2] <;> omega
    · ((refine Sb.c (Tk.t (Tk.t Tk.h)) ?_; refine Sb.c Tk.h ?_); (refine Sb.s ?_; exact Sb.r))
end Go.Proofs.Ytjokibfldngkeaa
namespace Go.Proofs.Ytjokibfldngkeaa
open Go
theorem Fn.framed {P : Program} {f : FuncId} {args : Array Value} {Pre : List HP} {Rv : Value → Prop} (h : Fn P f args Pre (fun v Q => Rv v ∧ Q = Pre)) (X : List HP) : Fn P f args (X ++ Pre) (fun v Q => Rv v ∧ Q = X ++ Pre) := by
  intro F w s
  have s1 : sat (Pre ++ (X ++ F)) w := by
    refine sat_perm ?_ s
    rw [List.append_assoc]
    exact List.perm_append_comm_assoc X Pre F
  refine (h (X ++ F) w s1).mono ?_
  rintro e w' ⟨v, Q, a, b, ⟨x, rfl⟩, d⟩
  refine ⟨v, X ++ Q, a, b, ⟨x, rfl⟩, ?_⟩
  refine sat_perm ?_ d
  rw [List.append_assoc]
  exact List.perm_append_comm_assoc Q X F
attribute [local irreducible] G GO GR GT Fn FnV pt init exs pur sat own ImpS
theorem okC_take {C : CnfD} {k : Nat} {p : ProdD} (h : C.prods[k]? = some p) : (C.prods.take (k + 1)).all (prodOK C.nts) = ((C.prods.take k).all (prodOK C.nts) && prodOK C.nts p) := by
  rw [List.take_add_one, h, List.all_append]; simp
theorem prodOK_split (n : Int) (p : ProdD) : prodOK n p = ((decide (0 ≤ p.1) && decide (p.1 < n)) && p.2.all (symOK n)) := by
  unfold prodOK
  by_cases h1 : p.1 < 0 <;> by_cases h2 : n ≤ p.1 <;> simp [h1, h2] <;> omega
theorem any_bad (n : Int) (ss : List SymD) : (!ss.any fun s => !symOK n s) = ss.all (symOK n) := by
  induction ss with
  | nil => rfl
  | cons s ss ih => simp only [List.any_cons, List.all_cons, ← ih]; cases symOK n s <;> simp
set_option maxHeartbeats 4000000 in
set_option maxRecDepth 20000 in
theorem check_spec (q : HP) (v : Value) (C : CnfD) (hv : CnfR q v C) (hz : Fits C) : Fn Try.prog 35 #[v] [q] (fun r Q => r = i64 (if okC C then 0 else 220) ∧ Q = [q]) := by
  obtain ⟨pv, rfl, hp⟩ := hv
  obtain ⟨a0, cap0, rfl⟩ := hp.form
  have hz1 := hz.1
  refine Fn.mk Try.func35 rfl rfl fun w0 F => ?_
  (refine G.seq ?_; refine G.region ?_)
  refine GO.box rfl rfl rfl fun b1 => ?_
  (refine GO.assign rfl rfl ?_; refine GO.nil ?_; refine kthen_n ?_; refine G.seq ?_; refine G.region ?_)
  refine GO.makeFunc1 rfl rfl ?_
  refine GO.alloc rfl fun b3 => ?_
  refine GO.store1 rfl rfl rfl Tk.h (by decide) ?_
  (refine GO.nil ?_; refine kthen_n ?_; refine G.seq ?_; refine G.region ?_; refine GO.fieldAddr rfl rfl ?_; refine GO.load1 rfl rfl rfl (Tk.t Tk.h) rfl ?_; refine GO.gei rfl rfl rfl ?_; refine GO.move rfl rfl ?_)
  refine GO.cut1 4 (.bool (decide (1 ≤ C.nts) && decide (C.nts ≤ 1024))) ?_ ?_
  · refine GO.splitD 11 rfl (fun h => ?_) (fun h => ?_)
    · (refine GO.gT rfl rfl rfl ?_; refine GO.fieldAddr rfl rfl ?_; refine GO.gT rfl rfl rfl ?_; refine GO.load1 rfl rfl rfl (Tk.t Tk.h) rfl ?_; refine GO.gT rfl rfl rfl ?_; refine GO.lei rfl rfl rfl ?_; refine GO.pickT rfl rfl rfl ?_; refine GO.assign rfl rfl ?_; refine GO.nil ?_; refine kthen_n ?_)
      refine ⟨?_, ImpS.sb ?_⟩
      · ((refine SubE.c rfl ?_ ?_; focus (simp; omega)); (refine SubE.c rfl ?_ ?_; focus (simp; omega)); refine SubE.c rfl rfl ?_; refine SubE.c rfl rfl ?_; refine SubE.c rfl rfl ?_; refine SubE.c rfl rfl ?_; refine SubE.c rfl rfl ?_; refine SubE.c rfl rfl ?_; refine SubE.c rfl rfl ?_; refine SubE.c rfl rfl ?_; exact SubE.n)
      · ((refine Sb.c Tk.h ?_; refine Sb.c Tk.h ?_; refine Sb.c Tk.h ?_); (exact Sb.r))
    · (refine GO.gF rfl rfl rfl rfl ?_; refine GO.gF rfl rfl rfl rfl ?_; refine GO.gF rfl rfl rfl rfl ?_; refine GO.pickF rfl rfl rfl ?_; refine GO.assign rfl rfl ?_; refine GO.nil ?_; refine kthen_n ?_)
      refine ⟨?_, ImpS.sb ?_⟩
      · ((refine SubE.c rfl ?_ ?_; focus (simp; omega)); (refine SubE.c rfl ?_ ?_; focus (simp; omega)); refine SubE.c rfl rfl ?_; refine SubE.c rfl rfl ?_; refine SubE.c rfl rfl ?_; refine SubE.c rfl rfl ?_; refine SubE.c rfl rfl ?_; refine SubE.c rfl rfl ?_; refine SubE.c rfl rfl ?_; refine SubE.c rfl rfl ?_; exact SubE.n)
      · ((refine Sb.c Tk.h ?_; refine Sb.c Tk.h ?_; refine Sb.c Tk.h ?_); (exact Sb.r))
  have hb0 : (decide (1 ≤ C.nts) && decide (C.nts ≤ 1024)) = !(decide (C.nts < 1) || decide (1024 < C.nts)) := by
    by_cases h1 : C.nts < 1 <;> by_cases h2 : 1024 < C.nts <;> simp [h1, h2] <;> omega
  rw [hb0]
  generalize hbase : (!(decide (C.nts < 1) || decide (1024 < C.nts))) = base
  (refine G.seq ?_; refine G.seq ?_; refine G.region ?_; refine GO.fieldAddr rfl rfl ?_; refine GO.load1 rfl rfl rfl (Tk.t Tk.h) rfl ?_; refine GO.lenS rfl rfl ?_; refine GO.move rfl rfl ?_; refine GO.nil ?_; refine kthen_n ?_; refine G.block ?_)
  refine G.loop2 (fun (k : Nat) (ok : Bool) => [(1, .pointer (some ⟨b1, 0, none⟩)), (3, .pointer (some ⟨b3, 0, none⟩)), (4, .bool ok), (17, .slice a0 C.prods.length cap0), (18, i64 C.prods.length), (19, i64 k)])
    (fun _ _ => q :: (ntM C.nts (.slice a0 C.prods.length cap0) b1 b3 ++ F)) (fun k ok => k ≤ C.prods.length ∧ ok = (base && (C.prods.take k).all (prodOK C.nts))) (fun k _ => C.prods.length - k) 0 base ⟨by omega, by simp⟩ ?_ ?_ ?_
  · (refine SubE.c rfl rfl ?_; refine SubE.c rfl rfl ?_; refine SubE.c rfl rfl ?_; refine SubE.c rfl rfl ?_; refine SubE.c rfl rfl ?_; refine SubE.c rfl rfl ?_; exact SubE.n)
  · ((refine Sb.c (Tk.t (Tk.t Tk.h)) ?_; refine Sb.c Tk.h ?_; refine Sb.c Tk.h ?_); (exact Sb.r))
  rintro k ok ⟨hk, hok⟩
  (refine G.seq ?_; refine G.region ?_; refine GO.lti rfl rfl rfl ?_; refine GO.nil ?_; refine kthen_n ?_; refine G.seq ?_)
  refine G.condD rfl (fun hlt => ?_) (fun hge => ?_)
  · have hlt' : k < C.prods.length := by omega
    obtain ⟨p, hpk⟩ : ∃ p, C.prods[k]? = some p := ⟨C.prods[k], by simp [hlt']⟩
    obtain ⟨b, o, bv, rfl, _, r1, r2, hs⟩ := hp.at hpk
    obtain ⟨ab, capb, rfl⟩ := hs.form
    have hpl := hz.2 p (List.mem_of_getElem? hpk)
    (refine G.skip ?_; refine kthen_n ?_; refine G.seq ?_; refine G.block ?_; refine G.seq ?_; refine G.region ?_; refine GO.idxS rfl rfl rfl ⟨rfl, by omega⟩ ?_)
    refine GO.load2 (q := q) rfl rfl rfl (by (exact Tk.h)) r1 r2 ?_
    refine GO.alloc rfl fun b6 => ?_
    refine GO.storeW rfl rfl Tk.h ⟨rfl, rfl⟩ (by simp [Value.oneCell']) ?_
    (refine GO.nil ?_; refine kthen_n ?_; refine G.region ?_; refine GO.move rfl rfl ?_; refine GO.move rfl rfl ?_)
    refine GO.cutN 4 (.bool (ok && prodOK C.nts p)) ?_ (fun L' H' h1 h2 => G.subI h1 h2 ?_)
    · cases ok with
      | false =>
        (refine GO.gF rfl rfl rfl rfl ?_; refine GO.gF rfl rfl rfl rfl ?_; refine GO.gF rfl rfl rfl rfl ?_; refine GO.gF rfl rfl rfl rfl ?_; refine GO.pickF rfl rfl rfl ?_; refine GO.move rfl rfl ?_; refine GO.gF rfl rfl rfl rfl ?_; refine GO.gF rfl rfl rfl rfl ?_; refine GO.gF rfl rfl rfl rfl ?_; refine GO.gF rfl rfl rfl rfl ?_; refine GO.gF rfl rfl rfl rfl ?_; refine GO.pickF rfl rfl rfl ?_; refine GO.assign rfl rfl ?_; refine GO.nil ?_; refine kthen_n ?_)
        refine ⟨?_, ImpS.sb ?_⟩
        · (refine SubE.c rfl rfl ?_; refine SubE.c rfl rfl ?_; refine SubE.c rfl rfl ?_; refine SubE.c rfl rfl ?_; refine SubE.c rfl rfl ?_; refine SubE.c rfl rfl ?_; refine SubE.c rfl rfl ?_; refine SubE.c rfl rfl ?_; refine SubE.c rfl rfl ?_; refine SubE.c rfl rfl ?_; refine SubE.c rfl rfl ?_; refine SubE.c rfl rfl ?_; exact SubE.n)
        · ((refine Sb.c Tk.h ?_; refine Sb.c Tk.h ?_; refine Sb.c Tk.h ?_; refine Sb.c Tk.h ?_); (exact Sb.r))
      | true =>
        (refine GO.gT rfl rfl rfl ?_; refine GO.load1 rfl rfl rfl (Tk.t (Tk.t Tk.h)) rfl ?_; refine GO.gT rfl rfl rfl ?_; refine GO.fieldAddr rfl rfl ?_; refine GO.gT rfl rfl rfl ?_; refine GO.load1 rfl rfl rfl Tk.h rfl ?_; refine GO.gT rfl rfl rfl ?_)
        refine GO.callV1 rfl rfl rfl (FnV.of (caps := [.pointer (some ⟨b1, 0, none⟩)]) (nt_spec C.nts p.1 b1 _)) (Tks.c (Tk.t (Tk.t (Tk.t Tk.h))) Tks.n) ?_
        rintro _ _ ⟨rfl, rfl⟩
        (refine GO.pickT rfl rfl rfl ?_; refine GO.move rfl rfl ?_)
        refine GO.split 30 rfl (fun h => ?_) (fun h => ?_)
        · (refine GO.gT rfl rfl rfl ?_; refine GO.fieldAddr rfl rfl ?_; refine GO.gT rfl rfl rfl ?_; refine GO.load1 rfl rfl rfl (Tk.t Tk.h) rfl ?_; refine GO.gT rfl rfl rfl ?_)
          refine GO.makeFunc1 rfl rfl ?_
          (refine GO.gT rfl rfl rfl ?_)
          refine GO.call2 rfl rfl rfl (containsSym_spec q _ _ p.2 (fun s => !symOK C.nts s) (ntM C.nts (.slice (some ⟨b, o, none⟩) C.prods.length cap0) b1 b3) hs (fun s _ => FnV.of (caps := [.pointer (some ⟨b3, 0, none⟩)]) (Fn.framed (Rv := fun r => r = .bool (!symOK C.nts s)) (bad_spec C.nts s b1 b3 _) [q])) (by omega)) (Tks.c (Tk.t (Tk.t Tk.h)) (Tks.c (Tk.t (Tk.t Tk.h)) (Tks.c Tk.h Tks.n))) ?_
          rintro _ _ ⟨rfl, rfl⟩
          have hpt : prodOK C.nts p = !(p.2.any fun s => !symOK C.nts s) := by rw [prodOK_split, h, any_bad]; rfl
          rw [hpt]
          (refine GO.gT rfl rfl rfl ?_; refine GO.not rfl rfl ?_; refine GO.pickT rfl rfl rfl ?_; refine GO.assign rfl rfl ?_; refine GO.nil ?_; refine kthen_n ?_)
          refine ⟨?_, ImpS.sb ?_⟩
          · (refine SubE.c rfl rfl ?_; refine SubE.c rfl rfl ?_; refine SubE.c rfl rfl ?_; refine SubE.c rfl rfl ?_; refine SubE.c rfl rfl ?_; refine SubE.c rfl rfl ?_; refine SubE.c rfl rfl ?_; refine SubE.c rfl rfl ?_; refine SubE.c rfl rfl ?_; refine SubE.c rfl rfl ?_; refine SubE.c rfl rfl ?_; refine SubE.c rfl rfl ?_; exact SubE.n)
          · ((refine Sb.c (Tk.t (Tk.t (Tk.t Tk.h))) ?_; refine Sb.c Tk.h ?_; refine Sb.c Tk.h ?_; refine Sb.c Tk.h ?_); (exact Sb.r))
        · have hpf : prodOK C.nts p = false := by rw [prodOK_split, h]; rfl
          rw [hpf]
          (refine GO.gF rfl rfl rfl rfl ?_; refine GO.gF rfl rfl rfl rfl ?_; refine GO.gF rfl rfl rfl rfl ?_; refine GO.gF rfl rfl rfl rfl ?_; refine GO.gF rfl rfl rfl rfl ?_; refine GO.pickF rfl rfl rfl ?_; refine GO.assign rfl rfl ?_; refine GO.nil ?_; refine kthen_n ?_)
          refine ⟨?_, ImpS.sb ?_⟩
          · (refine SubE.c rfl rfl ?_; refine SubE.c rfl rfl ?_; refine SubE.c rfl rfl ?_; refine SubE.c rfl rfl ?_; refine SubE.c rfl rfl ?_; refine SubE.c rfl rfl ?_; refine SubE.c rfl rfl ?_; refine SubE.c rfl rfl ?_; refine SubE.c rfl rfl ?_; refine SubE.c rfl rfl ?_; refine SubE.c rfl rfl ?_; refine SubE.c rfl rfl ?_; exact SubE.n)
          · ((refine Sb.c (Tk.t Tk.h) ?_; refine Sb.c (Tk.t Tk.h) ?_; refine Sb.c (Tk.t Tk.h) ?_; refine Sb.c Tk.h ?_); (exact Sb.r))
    (refine G.region ?_; refine GO.addi rfl rfl rfl (by omega) ?_; refine GO.move rfl rfl ?_; refine GO.nil ?_; refine kthen_n ?_)
    refine ⟨k + 1, ok && prodOK C.nts p, ⟨by omega, by rw [hok, okC_take hpk, Bool.and_assoc]⟩, by omega, ?_, ?_⟩
    · (refine SubE.c rfl rfl ?_; refine SubE.c rfl rfl ?_; refine SubE.c rfl rfl ?_; refine SubE.c rfl rfl ?_; refine SubE.c rfl rfl ?_; refine SubE.c rfl rfl ?_; exact SubE.n)
    · ((refine Sb.c (Tk.t Tk.h) ?_; refine Sb.c (Tk.t Tk.h) ?_; refine Sb.c (Tk.t Tk.h) ?_); (refine Sb.s ?_; exact Sb.r))
  · have : k = C.prods.length := by omega
    subst this
    rw [List.take_length, ← hbase] at hok
    have hok' : ok = okC C := hok
    (refine G.exit ?_; refine G.seq ?_; refine G.seq ?_; refine G.region ?_; refine GO.move rfl rfl ?_; refine GO.not rfl rfl ?_; refine GO.nil ?_; refine kthen_n ?_)
    refine G.cond rfl (fun hb => ?_) (fun hb => ?_)
    · have hf : okC C = false := by rw [← hok']; simpa using hb
      (refine G.seq ?_; refine G.region ?_; refine GO.assign rfl rfl ?_; refine GO.nil ?_; refine kthen_n ?_; refine G.ret ?_; refine kthen_r ?_)
      refine KF.r1 rfl (RV.t rfl) ⟨by rw [hf]; rfl, rfl⟩ ?_
      ((refine Sb.c Tk.h ?_); (refine Sb.s ?_; refine Sb.s ?_; exact Sb.r))
    · have hf : okC C = true := by rw [← hok']; simpa using hb
      (refine G.skip ?_; refine kthen_n ?_; refine G.seq ?_; refine G.region ?_; refine GO.assign rfl rfl ?_; refine GO.nil ?_; refine kthen_n ?_; refine G.ret ?_)
      refine KF.r1 rfl (RV.t rfl) ⟨by rw [hf]; rfl, rfl⟩ ?_
      ((refine Sb.c Tk.h ?_); (refine Sb.s ?_; refine Sb.s ?_; exact Sb.r))
end Go.Proofs.Ytjokibfldngkeaa
namespace Go.Proofs.Ytjokibfldngkeaa
open Go
/-- A body's kind. -/
def formB : List SymD → Int
  | [] => 1
  | [s] => if s.1 then 2 else 0
  | [s, t] => if s.1 then 0 else if t.1 then 0 else 3
  | _ => 0
def weakB (ss : List SymD) : Bool := !decide (formB ss = 0)
def weakC (C : CnfD) : Bool := okC C && C.prods.all fun p => weakB p.2
def askE (C : CnfD) (nt : Int) (n : Nat) : Int := if okC C then if weakC C then if nt < 0 then 2 else if C.nts ≤ nt then 2 else if 64 < n then 3 else 0 else 250 else 220
theorem weakB_len {ss : List SymD} (h : weakB ss = true) : ss.length ≤ 2 := by
  match ss, h with
  | [], _ => simp
  | [s], _ => simp
  | [s, t], _ => simp
  | s :: t :: u :: more, h => cases h
theorem askE_zero {C : CnfD} {nt : Int} {n : Nat} (h : askE C nt n = 0) : okC C = true ∧ weakC C = true ∧ 0 ≤ nt ∧ nt < C.nts ∧ ¬ 64 < n := by
  unfold askE at h
  split at h
  · split at h
    · split at h
      · cases h
      · split at h
        · cases h
        · split at h
          · cases h
          · exact ⟨by assumption, by assumption, by omega, by omega, by assumption⟩
    · cases h
  · cases h
attribute [local irreducible] G GO GR GT Fn FnV pt init exs pur sat own ImpS f3sV numF mapO addF wordV symsV
set_option maxHeartbeats 4000000 in
theorem of_spec (q : HP) (v : Value) (ss : List SymD) (hv : SymsR q v ss) (hn : ¬ 140737488355328 < ss.length) : Fn Try.prog 55 #[v] [q] (fun r Q => r = i64 (formB ss) ∧ Q = [q]) := by
  obtain ⟨a, cap, rfl⟩ := hv.form
  refine Fn.mk2 Try.func55 rfl rfl fun w0 F => ?_
  match ss, hv, hn with
  | [], hv, hn =>
    (refine G.seq ?_; refine G.region ?_; refine GO.assign rfl rfl ?_; refine GO.nil ?_; refine kthen_n ?_; refine G.seq ?_; refine G.seq ?_; refine G.region ?_; refine GO.move rfl rfl ?_; refine GO.lenS rfl rfl ?_; refine GO.nil ?_; refine kthen_n ?_; refine G.block ?_; refine G.seq ?_; refine G.region ?_; refine GO.eqT rfl rfl rfl rfl ?_; refine GO.assign rfl rfl ?_; refine GO.nil ?_; refine kthen_n ?_; refine G.condT rfl rfl ?_; refine G.seq ?_; refine G.region ?_; refine GO.assign rfl rfl ?_; refine GO.nil ?_; refine kthen_n ?_; refine G.ret ?_; refine kblock_r ?_; refine kthen_r ?_)
    refine KF2.r1 rfl (RV.t rfl) ⟨rfl, rfl⟩ (ImpS.sb ?_)
    ((refine Sb.c Tk.h ?_); (exact Sb.r))
  | [s], hv, hn =>
    obtain ⟨b, o, rfl, _, r1, _⟩ := hv.at (k := 0) (s := s) rfl
    obtain ⟨s1, s2⟩ := s
    (refine G.seq ?_; refine G.region ?_; refine GO.assign rfl rfl ?_; refine GO.nil ?_; refine kthen_n ?_; refine G.seq ?_; refine G.seq ?_; refine G.region ?_; refine GO.move rfl rfl ?_; refine GO.lenS rfl rfl ?_; refine GO.nil ?_; refine kthen_n ?_; refine G.block ?_; refine G.seq ?_; refine G.region ?_; refine GO.eqi rfl rfl rfl ?_; refine GO.assign rfl rfl ?_; refine GO.nil ?_; refine kthen_n ?_; refine G.condF rfl rfl ?_; refine G.seq ?_; refine G.region ?_; refine GO.eqT rfl rfl rfl rfl ?_; refine GO.assign rfl rfl ?_; refine GO.nil ?_; refine kthen_n ?_; refine G.condT rfl rfl ?_; refine G.seq ?_; refine G.region ?_; refine GO.move rfl rfl ?_)
    refine GO.idxS (j := 0) rfl rfl rfl ⟨rfl, by simp⟩ ?_
    cases s1 with
    | true =>
      (refine GO.fieldAddr rfl rfl ?_; refine GO.loadQ rfl rfl rfl Tk.h (by assumption) ?_; refine GO.nil ?_; refine kthen_n ?_; refine G.condT rfl rfl ?_; refine G.seq ?_; refine G.region ?_; refine GO.assign rfl rfl ?_; refine GO.nil ?_; refine kthen_n ?_; refine G.ret ?_; refine kblock_r ?_; refine kthen_r ?_)
      refine KF2.r1 rfl (RV.t rfl) ⟨rfl, rfl⟩ (ImpS.sb ?_)
      ((refine Sb.c Tk.h ?_); (exact Sb.r))
    | false =>
      (refine GO.fieldAddr rfl rfl ?_; refine GO.loadQ rfl rfl rfl Tk.h (by assumption) ?_; refine GO.nil ?_; refine kthen_n ?_; refine G.condF rfl rfl ?_; refine G.skip ?_; refine kblock_n ?_; refine kthen_n ?_; refine G.seq ?_; refine G.region ?_; refine GO.assign rfl rfl ?_; refine GO.nil ?_; refine kthen_n ?_; refine G.ret ?_)
      refine KF2.r1 rfl (RV.t rfl) ⟨rfl, rfl⟩ (ImpS.sb ?_)
      ((refine Sb.c Tk.h ?_); (exact Sb.r))
  | [s, t], hv, hn =>
    obtain ⟨b, o, rfl, _, r1, _⟩ := hv.at (k := 0) (s := s) rfl
    obtain ⟨b', o', e, _, r2, _⟩ := hv.at (k := 1) (s := t) rfl
    injection e with e
    injection e with e1 e2
    subst e1 e2
    obtain ⟨s1, s2⟩ := s
    obtain ⟨t1, t2⟩ := t
    (refine G.seq ?_; refine G.region ?_; refine GO.assign rfl rfl ?_; refine GO.nil ?_; refine kthen_n ?_; refine G.seq ?_; refine G.seq ?_; refine G.region ?_; refine GO.move rfl rfl ?_; refine GO.lenS rfl rfl ?_; refine GO.nil ?_; refine kthen_n ?_; refine G.block ?_; refine G.seq ?_; refine G.region ?_; refine GO.eqi rfl rfl rfl ?_; refine GO.assign rfl rfl ?_; refine GO.nil ?_; refine kthen_n ?_; refine G.condF rfl rfl ?_; refine G.seq ?_; refine G.region ?_; refine GO.eqi rfl rfl rfl ?_; refine GO.assign rfl rfl ?_; refine GO.nil ?_; refine kthen_n ?_; refine G.condF rfl rfl ?_; refine G.seq ?_; refine G.region ?_; refine GO.eqT rfl rfl rfl rfl ?_; refine GO.assign rfl rfl ?_; refine GO.nil ?_; refine kthen_n ?_; refine G.condT rfl rfl ?_; refine G.seq ?_; refine G.region ?_; refine GO.move rfl rfl ?_)
    refine GO.idxS (j := 0) rfl rfl rfl ⟨rfl, by simp⟩ ?_
    cases s1 with
    | true =>
      (refine GO.fieldAddr rfl rfl ?_; refine GO.loadQ rfl rfl rfl Tk.h (by assumption) ?_; refine GO.not rfl rfl ?_; refine GO.move rfl rfl ?_; refine GO.gF rfl rfl rfl rfl ?_; refine GO.gF rfl rfl rfl rfl ?_; refine GO.gF rfl rfl rfl rfl ?_; refine GO.gF rfl rfl rfl rfl ?_; refine GO.gF rfl rfl rfl rfl ?_; refine GO.pickF rfl rfl rfl ?_; refine GO.nil ?_; refine kthen_n ?_; refine G.condF rfl rfl ?_; refine G.skip ?_; refine kblock_n ?_; refine kthen_n ?_; refine G.seq ?_; refine G.region ?_; refine GO.assign rfl rfl ?_; refine GO.nil ?_; refine kthen_n ?_; refine G.ret ?_)
      refine KF2.r1 rfl (RV.t rfl) ⟨rfl, rfl⟩ (ImpS.sb ?_)
      ((refine Sb.c Tk.h ?_); (exact Sb.r))
    | false =>
      (refine GO.fieldAddr rfl rfl ?_; refine GO.loadQ rfl rfl rfl Tk.h (by assumption) ?_; refine GO.not rfl rfl ?_; refine GO.move rfl rfl ?_; refine GO.gT rfl rfl rfl ?_; refine GO.move rfl rfl ?_; refine GO.gT rfl rfl rfl ?_)
      refine GO.idxS (j := 1) rfl rfl rfl ⟨rfl, by simp⟩ ?_
      cases t1 with
      | true =>
        (refine GO.gT rfl rfl rfl ?_; refine GO.fieldAddr rfl rfl ?_; refine GO.gT rfl rfl rfl ?_; refine GO.loadQ rfl rfl rfl Tk.h (by assumption) ?_; refine GO.gT rfl rfl rfl ?_; refine GO.not rfl rfl ?_; refine GO.pickT rfl rfl rfl ?_; refine GO.nil ?_; refine kthen_n ?_; refine G.condF rfl rfl ?_; refine G.skip ?_; refine kblock_n ?_; refine kthen_n ?_; refine G.seq ?_; refine G.region ?_; refine GO.assign rfl rfl ?_; refine GO.nil ?_; refine kthen_n ?_; refine G.ret ?_)
        refine KF2.r1 rfl (RV.t rfl) ⟨rfl, rfl⟩ (ImpS.sb ?_)
        ((refine Sb.c Tk.h ?_); (exact Sb.r))
      | false =>
        (refine GO.gT rfl rfl rfl ?_; refine GO.fieldAddr rfl rfl ?_; refine GO.gT rfl rfl rfl ?_; refine GO.loadQ rfl rfl rfl Tk.h (by assumption) ?_; refine GO.gT rfl rfl rfl ?_; refine GO.not rfl rfl ?_; refine GO.pickT rfl rfl rfl ?_; refine GO.nil ?_; refine kthen_n ?_; refine G.condT rfl rfl ?_; refine G.seq ?_; refine G.region ?_; refine GO.assign rfl rfl ?_; refine GO.nil ?_; refine kthen_n ?_; refine G.ret ?_; refine kblock_r ?_; refine kthen_r ?_)
        refine KF2.r1 rfl (RV.t rfl) ⟨rfl, rfl⟩ (ImpS.sb ?_)
        ((refine Sb.c Tk.h ?_); (exact Sb.r))
  | s :: t :: u :: more, hv, hn =>
    have d0 : decide (((s :: t :: u :: more).length : Int) = 0) = false := decide_eq_false (by simp; omega)
    have d1 : decide (((s :: t :: u :: more).length : Int) = 1) = false := decide_eq_false (by simp; omega)
    have d2 : decide (((s :: t :: u :: more).length : Int) = 2) = false := decide_eq_false (by simp; omega)
    (refine G.seq ?_; refine G.region ?_; refine GO.assign rfl rfl ?_; refine GO.nil ?_; refine kthen_n ?_; refine G.seq ?_; refine G.seq ?_; refine G.region ?_; refine GO.move rfl rfl ?_; refine GO.lenS rfl rfl ?_; refine GO.nil ?_; refine kthen_n ?_; refine G.block ?_; refine G.seq ?_; refine G.region ?_; refine GO.eqi rfl rfl rfl ?_; refine GO.assign rfl rfl ?_; refine GO.nil ?_; refine kthen_n ?_; refine G.condF rfl rfl ?_; refine G.seq ?_; refine G.region ?_; refine GO.eqi rfl rfl rfl ?_; refine GO.assign rfl rfl ?_; refine GO.nil ?_; refine kthen_n ?_; refine G.condF rfl rfl ?_; refine G.seq ?_; refine G.region ?_; refine GO.eqi rfl rfl rfl ?_; refine GO.assign rfl rfl ?_; refine GO.nil ?_; refine kthen_n ?_; refine G.condF rfl rfl ?_; refine G.skip ?_; refine kblock_n ?_; refine kthen_n ?_; refine G.seq ?_; refine G.region ?_; refine GO.assign rfl rfl ?_; refine GO.nil ?_; refine kthen_n ?_; refine G.ret ?_)
    refine KF2.r1 rfl (RV.t rfl) ⟨rfl, rfl⟩ (ImpS.sb ?_)
    ((refine Sb.c Tk.h ?_); (exact Sb.r))
theorem is1_spec (q : HP) (A : Int) (bv : Value) (ss : List SymD) (hv : SymsR q bv ss) (hn : ¬ 140737488355328 < ss.length) : Fn Try.prog 54 #[.agg #[i64 A, bv]] [q] (fun r Q => r = .bool (!weakB ss) ∧ Q = [q]) := by
  have ho := of_spec q bv ss hv hn
  obtain ⟨a, cap, rfl⟩ := hv.form
  refine Fn.mk2 Try.func54 rfl rfl fun w0 F => ?_
  (refine G.seq ?_; refine G.region ?_; refine GO.box rfl rfl rfl fun b1 => ?_; refine GO.assign rfl rfl ?_; refine GO.nil ?_; refine kthen_n ?_; refine G.seq ?_; refine G.region ?_; refine GO.fieldAddr rfl rfl ?_; refine GO.load1 rfl rfl rfl Tk.h rfl ?_)
  refine GO.call1 rfl rfl (ho) (Tks.c (Tk.t Tk.h) Tks.n) ?_
  rintro _ _ ⟨rfl, rfl⟩
  (refine GO.eqi rfl rfl rfl ?_; refine GO.assign rfl rfl ?_; refine GO.nil ?_; refine kthen_n ?_; refine G.ret ?_)
  refine KF2.r1 rfl (RV.t rfl) ⟨?_, rfl⟩ (ImpS.sb ?_)
  · unfold weakB; rw [Bool.not_not]
  · ((refine Sb.c Tk.h ?_); (refine Sb.s ?_; exact Sb.r))
set_option maxHeartbeats 4000000 in
theorem indexProd_spec (q : HP) (v f : Value) (ps : List ProdD) (pred : ProdD → Bool) (hv : PrsR q v ps) (hf : ∀ p ∈ ps, ∀ bv, SymsR q bv p.2 → FnV Try.prog f [.agg #[i64 p.1, bv]] [q] (fun r Q => r = .bool (pred p) ∧ Q = [q])) (hn : ¬ 140737488355328 < ps.length) :
    Fn Try.prog 61 #[v, f] [q] (fun r Q => ((∃ k : Nat, r = i64 k ∧ ps.any pred = true) ∨ (r = i64 (-1) ∧ ps.any pred = false)) ∧ Q = [q]) := by
  obtain ⟨a, cap, rfl⟩ := hv.form
  refine Fn.mk2 Try.func61 rfl rfl fun w0 F => ?_
  (refine G.seq ?_; refine G.region ?_; refine GO.assign rfl rfl ?_; refine GO.nil ?_; refine kthen_n ?_; refine G.seq ?_; refine G.seq ?_; refine G.region ?_; refine GO.move rfl rfl ?_; refine GO.lenS rfl rfl ?_; refine GO.move rfl rfl ?_; refine GO.nil ?_; refine kthen_n ?_; refine G.block ?_)
  refine G.loop (fun k : Nat => [(0, .slice a ps.length cap), (1, f), (7, i64 ps.length), (8, i64 k)]) (fun _ => q :: F) (fun k => k ≤ ps.length ∧ (ps.take k).any pred = false) (fun k => ps.length - k) 0 ⟨by omega, rfl⟩ ?_ ?_ ?_
  · (refine SubE.c rfl rfl ?_; refine SubE.c rfl rfl ?_; refine SubE.c rfl rfl ?_; refine SubE.c rfl rfl ?_; exact SubE.n)
  · ((refine Sb.c Tk.h ?_); (exact Sb.r))
  rintro k ⟨hk, hany⟩
  (refine G.seq ?_; refine G.region ?_; refine GO.lti rfl rfl rfl ?_; refine GO.nil ?_; refine kthen_n ?_; refine G.seq ?_)
  refine G.condD rfl (fun hlt => ?_) (fun hge => ?_)
  · have hlt' : k < ps.length := by omega
    obtain ⟨p, hs⟩ : ∃ p : ProdD, ps[k]? = some p := ⟨ps[k], by simp [hlt']⟩
    obtain ⟨b, o, bv, rfl, _, r1, r2, hss⟩ := hv.at hs
    (refine G.skip ?_; refine kthen_n ?_; refine G.seq ?_; refine G.block ?_; refine G.seq ?_; refine G.region ?_; refine GO.move rfl rfl ?_; refine GO.assign rfl rfl ?_; refine GO.nil ?_; refine kthen_n ?_; refine G.seq ?_; refine G.region ?_; refine GO.move rfl rfl ?_; refine GO.move rfl rfl ?_; refine GO.move rfl rfl ?_; refine GO.idxS rfl rfl rfl ⟨rfl, by omega⟩ ?_; refine GO.load2 rfl rfl rfl Tk.h (by assumption) (by assumption) ?_)
    refine GO.callV1 rfl rfl rfl (hf p (List.mem_of_getElem? hs) bv hss) (show Tks [q] (q :: F) F from List.Perm.refl _) ?_
    rintro _ _ ⟨rfl, rfl⟩
    (refine GO.nil ?_; refine kthen_n ?_)
    refine G.cond rfl (fun hb => ?_) (fun hb => ?_)
    · (refine G.seq ?_; refine G.region ?_; refine GO.move rfl rfl ?_; refine GO.assign rfl rfl ?_; refine GO.nil ?_; refine kthen_n ?_; refine G.ret ?_; refine kblock_r ?_; refine kthen_r ?_; refine kthen_r ?_; refine kblock_r ?_; refine kthen_r ?_)
      refine KF2.r1 rfl (RV.t rfl) ⟨.inl ⟨k, rfl, ?_⟩, rfl⟩ (ImpS.sb ?_)
      · rw [List.any_eq_true]; exact ⟨p, List.mem_of_getElem? hs, hb⟩
      · ((refine Sb.c Tk.h ?_); (exact Sb.r))
    · (refine G.skip ?_; refine kblock_n ?_; refine kthen_n ?_; refine G.region ?_; refine GO.addi rfl rfl rfl (by omega) ?_; refine GO.move rfl rfl ?_; refine GO.nil ?_; refine kthen_n ?_)
      refine ⟨k + 1, ⟨by omega, ?_⟩, by omega, ?_, ?_⟩
      · rw [List.take_add_one, hs, List.any_append, hany]; simp [hb]
      · (refine SubE.c rfl rfl ?_; refine SubE.c rfl rfl ?_; refine SubE.c rfl rfl ?_; refine SubE.c rfl rfl ?_; exact SubE.n)
      · ((refine Sb.c Tk.h ?_); (exact Sb.r))
  · have : k = ps.length := by omega
    subst this
    rw [List.take_length] at hany
    (refine G.exit ?_; refine kthen_x ?_; refine kthen_x ?_; refine kblock_x ?_; refine kthen_n ?_; refine G.seq ?_; refine G.region ?_; refine GO.assign rfl rfl ?_; refine GO.nil ?_; refine kthen_n ?_; refine G.ret ?_)
    refine KF2.r1 rfl (RV.t rfl) ⟨.inr ⟨rfl, hany⟩, rfl⟩ (ImpS.sb ?_)
    ((refine Sb.c Tk.h ?_); (exact Sb.r))
theorem containsProd_spec (q : HP) (v f : Value) (ps : List ProdD) (pred : ProdD → Bool) (hv : PrsR q v ps) (hf : ∀ p ∈ ps, ∀ bv, SymsR q bv p.2 → FnV Try.prog f [.agg #[i64 p.1, bv]] [q] (fun r Q => r = .bool (pred p) ∧ Q = [q])) (hn : ¬ 140737488355328 < ps.length) :
    Fn Try.prog 53 #[v, f] [q] (fun r Q => r = .bool (ps.any pred) ∧ Q = [q]) := by
  refine Fn.mk2 Try.func53 rfl rfl fun w0 F => ?_
  (refine G.seq ?_; refine G.region ?_; refine GO.assign rfl rfl ?_; refine GO.nil ?_; refine kthen_n ?_; refine G.seq ?_; refine G.region ?_; refine GO.move rfl rfl ?_; refine GO.move rfl rfl ?_)
  refine GO.call2 rfl rfl rfl (indexProd_spec q v f ps pred hv hf hn) (Tks.c Tk.h Tks.n) ?_
  rintro _ _ ⟨h, rfl⟩
  rcases h with ⟨k, rfl, h⟩ | ⟨rfl, h⟩
  · (refine GO.gei rfl rfl rfl ?_; refine GO.assign rfl rfl ?_; refine GO.nil ?_; refine kthen_n ?_; refine G.ret ?_)
    refine KF2.r1 rfl (RV.t rfl) ⟨?_, rfl⟩ (ImpS.sb ?_)
    · rw [h]; simp
    · ((refine Sb.c Tk.h ?_); (exact Sb.r))
  · (refine GO.gei rfl rfl rfl ?_; refine GO.assign rfl rfl ?_; refine GO.nil ?_; refine kthen_n ?_; refine G.ret ?_)
    refine KF2.r1 rfl (RV.t rfl) ⟨?_, rfl⟩ (ImpS.sb ?_)
    · rw [h]; rfl
    · ((refine Sb.c Tk.h ?_); (exact Sb.r))
theorem is_spec (q : HP) (v : Value) (C : CnfD) (hv : CnfR q v C) (hz : Fits C) : Fn Try.prog 40 #[v] [q] (fun r Q => r = .bool (weakC C) ∧ Q = [q]) := by
  have hc := check_spec q v C hv hz
  have hcon := fun (pv : Value) (hp : PrsR q pv C.prods) => containsProd_spec q pv (.func (.func 54) #[] #[]) C.prods (fun p => !weakB p.2) hp (fun p hpm bv hs => FnV.of (caps := []) (is1_spec q p.1 bv p.2 hs (by have := hz.2 p hpm; omega))) (by have := hz.1; omega)
  obtain ⟨pv, rfl, hp⟩ := hv
  obtain ⟨ap, cp, rfl⟩ := hp.form
  have hcon := hcon _ hp
  have hany : (!C.prods.any fun p => !weakB p.2) = C.prods.all fun p => weakB p.2 := by
    generalize C.prods = l
    induction l with
    | nil => rfl
    | cons p l ih => simp only [List.any_cons, List.all_cons, ← ih]; cases weakB p.2 <;> simp
  unfold weakC
  cases hok : okC C with
  | false =>
    rw [hok] at hc
    refine Fn.mk2 Try.func40 rfl rfl fun w0 F => ?_
    (refine G.seq ?_; refine G.region ?_; refine GO.box rfl rfl rfl fun b1 => ?_; refine GO.assign rfl rfl ?_; refine GO.nil ?_; refine kthen_n ?_; refine G.seq ?_; refine G.region ?_; refine GO.loadW rfl rfl rfl Tk.h rfl ?_)
    refine GO.call1 rfl rfl (hc) (Tks.c (Tk.t Tk.h) Tks.n) ?_
    rintro _ _ ⟨rfl, rfl⟩
    rw [if_neg (by simp)]
    (refine GO.eqi rfl rfl rfl ?_; refine GO.move rfl rfl ?_; refine GO.gF rfl rfl rfl rfl ?_; refine GO.gF rfl rfl rfl rfl ?_; refine GO.gF rfl rfl rfl rfl ?_; refine GO.gF rfl rfl rfl rfl ?_; refine GO.pickF rfl rfl rfl ?_; refine GO.assign rfl rfl ?_; refine GO.nil ?_; refine kthen_n ?_; refine G.ret ?_)
    refine KF2.r1 rfl (RV.t rfl) ⟨rfl, rfl⟩ (ImpS.sb ?_)
    ((refine Sb.c Tk.h ?_); (refine Sb.s ?_; exact Sb.r))
  | true =>
    rw [hok] at hc
    refine Fn.mk2 Try.func40 rfl rfl fun w0 F => ?_
    (refine G.seq ?_; refine G.region ?_; refine GO.box rfl rfl rfl fun b1 => ?_; refine GO.assign rfl rfl ?_; refine GO.nil ?_; refine kthen_n ?_; refine G.seq ?_; refine G.region ?_; refine GO.loadW rfl rfl rfl Tk.h rfl ?_)
    refine GO.call1 rfl rfl (hc) (Tks.c (Tk.t Tk.h) Tks.n) ?_
    rintro _ _ ⟨rfl, rfl⟩
    rw [if_pos rfl]
    (refine GO.eqT rfl rfl rfl rfl ?_; refine GO.move rfl rfl ?_; refine GO.gT rfl rfl rfl ?_; refine GO.fieldAddr rfl rfl ?_; refine GO.gT rfl rfl rfl ?_; refine GO.load1 rfl rfl rfl (Tk.t Tk.h) rfl ?_; refine GO.gT rfl rfl rfl ?_)
    refine GO.call2 rfl rfl rfl (hcon) (Tks.c Tk.h Tks.n) ?_
    rintro _ _ ⟨rfl, rfl⟩
    (refine GO.gT rfl rfl rfl ?_; refine GO.not rfl rfl ?_; refine GO.pickT rfl rfl rfl ?_; refine GO.assign rfl rfl ?_; refine GO.nil ?_; refine kthen_n ?_; refine G.ret ?_)
    refine KF2.r1 rfl (RV.t rfl) ⟨?_, rfl⟩ (ImpS.sb ?_)
    · rw [hany]; rfl
    · ((refine Sb.c Tk.h ?_); (refine Sb.s ?_; exact Sb.r))
set_option maxRecDepth 4000 in
theorem asked_spec (q : HP) (v : Value) (C : CnfD) (hv : CnfR q v C) (hz : Fits C) (nt : Int) (w : List Int) (wv : Value) (hw : WordR q wv w) : Fn Try.prog 25 #[v, i64 nt, wv] [q] (fun r Q => r = i64 (askE C nt w.length) ∧ Q = [q]) := by
  have hc := check_spec q v C hv hz
  have hi := is_spec q v C hv hz
  obtain ⟨pv, rfl, hp⟩ := hv
  obtain ⟨ap, cp, rfl⟩ := hp.form
  obtain ⟨aw, cw, rfl⟩ := hw.form
  unfold askE
  cases hok : okC C with
  | false =>
    rw [hok] at hc
    refine Fn.mk2 Try.func25 rfl rfl fun w0 F => ?_
    (refine G.seq ?_; refine G.region ?_; refine GO.box rfl rfl rfl fun b3 => ?_; refine GO.assign rfl rfl ?_; refine GO.nil ?_; refine kthen_n ?_; refine G.seq ?_; refine G.block ?_; refine G.seq ?_; refine G.region ?_; refine GO.loadW rfl rfl rfl Tk.h rfl ?_)
    refine GO.call1 rfl rfl (hc) (Tks.c (Tk.t Tk.h) Tks.n) ?_
    rintro _ _ ⟨rfl, rfl⟩
    rw [if_neg (by simp)]
    (refine GO.nei rfl rfl rfl ?_; refine GO.assign rfl rfl ?_; refine GO.nil ?_; refine kthen_n ?_; refine G.condT rfl rfl ?_; refine G.seq ?_; refine G.region ?_; refine GO.assign rfl rfl ?_; refine GO.nil ?_; refine kthen_n ?_; refine G.ret ?_; refine kblock_r ?_; refine kthen_r ?_)
    refine KF2.r1 rfl (RV.t rfl) ⟨rfl, rfl⟩ (ImpS.sb ?_)
    ((refine Sb.c Tk.h ?_); (refine Sb.s ?_; exact Sb.r))
  | true =>
    rw [hok] at hc
    cases hwk : weakC C with
    | false =>
      rw [hwk] at hi
      refine Fn.mk2 Try.func25 rfl rfl fun w0 F => ?_
      (refine G.seq ?_; refine G.region ?_; refine GO.box rfl rfl rfl fun b3 => ?_; refine GO.assign rfl rfl ?_; refine GO.nil ?_; refine kthen_n ?_; refine G.seq ?_; refine G.block ?_; refine G.seq ?_; refine G.region ?_; refine GO.loadW rfl rfl rfl Tk.h rfl ?_)
      refine GO.call1 rfl rfl (hc) (Tks.c (Tk.t Tk.h) Tks.n) ?_
      rintro _ _ ⟨rfl, rfl⟩
      rw [if_pos rfl]
      (refine GO.neF rfl rfl rfl rfl ?_; refine GO.assign rfl rfl ?_; refine GO.nil ?_; refine kthen_n ?_; refine G.condF rfl rfl ?_; refine G.seq ?_; refine G.region ?_; refine GO.loadW rfl rfl rfl (Tk.t Tk.h) rfl ?_)
      refine GO.call1 rfl rfl (hi) (Tks.c Tk.h Tks.n) ?_
      rintro _ _ ⟨rfl, rfl⟩
      (refine GO.not rfl rfl ?_; refine GO.assign rfl rfl ?_; refine GO.nil ?_; refine kthen_n ?_; refine G.condT rfl rfl ?_; refine G.seq ?_; refine G.region ?_; refine GO.assign rfl rfl ?_; refine GO.nil ?_; refine kthen_n ?_; refine G.ret ?_; refine kblock_r ?_; refine kthen_r ?_)
      refine KF2.r1 rfl (RV.t rfl) ⟨rfl, rfl⟩ (ImpS.sb ?_)
      ((refine Sb.c Tk.h ?_); (refine Sb.s ?_; exact Sb.r))
    | true =>
      rw [hwk] at hi
      rw [if_pos rfl, if_pos rfl]
      refine Fn.mk2 Try.func25 rfl rfl fun w0 F => ?_
      (refine G.seq ?_; refine G.region ?_; refine GO.box rfl rfl rfl fun b3 => ?_; refine GO.assign rfl rfl ?_; refine GO.nil ?_; refine kthen_n ?_; refine G.seq ?_; refine G.block ?_; refine G.seq ?_; refine G.region ?_; refine GO.loadW rfl rfl rfl Tk.h rfl ?_)
      refine GO.call1 rfl rfl (hc) (Tks.c (Tk.t Tk.h) Tks.n) ?_
      rintro _ _ ⟨rfl, rfl⟩
      rw [if_pos rfl]
      (refine GO.neF rfl rfl rfl rfl ?_; refine GO.assign rfl rfl ?_; refine GO.nil ?_; refine kthen_n ?_; refine G.condF rfl rfl ?_; refine G.seq ?_; refine G.region ?_; refine GO.loadW rfl rfl rfl (Tk.t Tk.h) rfl ?_)
      refine GO.call1 rfl rfl (hi) (Tks.c Tk.h Tks.n) ?_
      rintro _ _ ⟨rfl, rfl⟩
      by_cases h1 : nt < 0
      · have d1 : decide (nt < 0) = true := decide_eq_true h1
        rw [if_pos h1]
        (refine GO.not rfl rfl ?_; refine GO.assign rfl rfl ?_; refine GO.nil ?_; refine kthen_n ?_; refine G.condF rfl rfl ?_; refine G.seq ?_; refine G.region ?_; refine GO.move rfl rfl ?_; refine GO.lti rfl rfl rfl ?_; refine GO.move rfl rfl ?_; refine GO.gF rfl rfl rfl (by assumption) ?_; refine GO.gF rfl rfl rfl (by assumption) ?_; refine GO.gF rfl rfl rfl (by assumption) ?_; refine GO.gF rfl rfl rfl (by assumption) ?_; refine GO.pickTa rfl rfl (by assumption) rfl ?_; refine GO.assign rfl rfl ?_; refine GO.nil ?_; refine kthen_n ?_; refine G.condT rfl rfl ?_; refine G.seq ?_; refine G.region ?_; refine GO.assign rfl rfl ?_; refine GO.nil ?_; refine kthen_n ?_; refine G.ret ?_; refine kblock_r ?_; refine kthen_r ?_)
        refine KF2.r1 rfl (RV.t rfl) ⟨rfl, rfl⟩ (ImpS.sb ?_)
        ((refine Sb.c Tk.h ?_); (refine Sb.s ?_; exact Sb.r))
      · have d1 : decide (nt < 0) = false := decide_eq_false h1
        rw [if_neg h1]
        by_cases h2 : C.nts ≤ nt
        · have d2 : decide (C.nts ≤ nt) = true := decide_eq_true h2
          rw [if_pos h2]
          (refine GO.not rfl rfl ?_; refine GO.assign rfl rfl ?_; refine GO.nil ?_; refine kthen_n ?_; refine G.condF rfl rfl ?_; refine G.seq ?_; refine G.region ?_; refine GO.move rfl rfl ?_; refine GO.lti rfl rfl rfl ?_; refine GO.move rfl rfl ?_; refine GO.gT rfl rfl (by assumption) ?_; refine GO.move rfl rfl ?_; refine GO.gT rfl rfl (by assumption) ?_; refine GO.fieldAddr rfl rfl ?_; refine GO.gT rfl rfl (by assumption) ?_; refine GO.load1 rfl rfl rfl (Tk.t Tk.h) rfl ?_; refine GO.gT rfl rfl (by assumption) ?_; refine GO.gei rfl rfl rfl ?_; refine GO.pickFa rfl rfl (by assumption) rfl ?_; refine GO.assign rfl rfl ?_; refine GO.nil ?_; refine kthen_n ?_; refine G.condT rfl (by assumption) ?_; refine G.seq ?_; refine G.region ?_; refine GO.assign rfl rfl ?_; refine GO.nil ?_; refine kthen_n ?_; refine G.ret ?_; refine kblock_r ?_; refine kthen_r ?_)
          refine KF2.r1 rfl (RV.t rfl) ⟨rfl, rfl⟩ (ImpS.sb ?_)
          ((refine Sb.c Tk.h ?_); (refine Sb.s ?_; exact Sb.r))
        · have d2 : decide (C.nts ≤ nt) = false := decide_eq_false h2
          rw [if_neg h2]
          by_cases h3 : 64 < w.length
          · have d3 : decide ((64 : Int) < (w.length : Int)) = true := decide_eq_true (by omega)
            rw [if_pos h3]
            (refine GO.not rfl rfl ?_; refine GO.assign rfl rfl ?_; refine GO.nil ?_; refine kthen_n ?_; refine G.condF rfl rfl ?_; refine G.seq ?_; refine G.region ?_; refine GO.move rfl rfl ?_; refine GO.lti rfl rfl rfl ?_; refine GO.move rfl rfl ?_; refine GO.gT rfl rfl (by assumption) ?_; refine GO.move rfl rfl ?_; refine GO.gT rfl rfl (by assumption) ?_; refine GO.fieldAddr rfl rfl ?_; refine GO.gT rfl rfl (by assumption) ?_; refine GO.load1 rfl rfl rfl (Tk.t Tk.h) rfl ?_; refine GO.gT rfl rfl (by assumption) ?_; refine GO.gei rfl rfl rfl ?_; refine GO.pickFa rfl rfl (by assumption) rfl ?_; refine GO.assign rfl rfl ?_; refine GO.nil ?_; refine kthen_n ?_; refine G.condF rfl (by assumption) ?_; refine G.seq ?_; refine G.region ?_; refine GO.move rfl rfl ?_; refine GO.lenS rfl rfl ?_; refine GO.gti rfl rfl rfl ?_; refine GO.assign rfl rfl ?_; refine GO.nil ?_; refine kthen_n ?_; refine G.condT rfl (by assumption) ?_; refine G.seq ?_; refine G.region ?_; refine GO.assign rfl rfl ?_; refine GO.nil ?_; refine kthen_n ?_; refine G.ret ?_; refine kblock_r ?_; refine kthen_r ?_)
            refine KF2.r1 rfl (RV.t rfl) ⟨rfl, rfl⟩ (ImpS.sb ?_)
            ((refine Sb.c Tk.h ?_); (refine Sb.s ?_; exact Sb.r))
          · have d3 : decide ((64 : Int) < (w.length : Int)) = false := decide_eq_false (by omega)
            rw [if_neg h3]
            (refine GO.not rfl rfl ?_; refine GO.assign rfl rfl ?_; refine GO.nil ?_; refine kthen_n ?_; refine G.condF rfl rfl ?_; refine G.seq ?_; refine G.region ?_; refine GO.move rfl rfl ?_; refine GO.lti rfl rfl rfl ?_; refine GO.move rfl rfl ?_; refine GO.gT rfl rfl (by assumption) ?_; refine GO.move rfl rfl ?_; refine GO.gT rfl rfl (by assumption) ?_; refine GO.fieldAddr rfl rfl ?_; refine GO.gT rfl rfl (by assumption) ?_; refine GO.load1 rfl rfl rfl (Tk.t Tk.h) rfl ?_; refine GO.gT rfl rfl (by assumption) ?_; refine GO.gei rfl rfl rfl ?_; refine GO.pickFa rfl rfl (by assumption) rfl ?_; refine GO.assign rfl rfl ?_; refine GO.nil ?_; refine kthen_n ?_; refine G.condF rfl (by assumption) ?_; refine G.seq ?_; refine G.region ?_; refine GO.move rfl rfl ?_; refine GO.lenS rfl rfl ?_; refine GO.gti rfl rfl rfl ?_; refine GO.assign rfl rfl ?_; refine GO.nil ?_; refine kthen_n ?_; refine G.condF rfl (by assumption) ?_; refine G.skip ?_; refine kblock_n ?_; refine kthen_n ?_; refine G.seq ?_; refine G.region ?_; refine GO.assign rfl rfl ?_; refine GO.nil ?_; refine kthen_n ?_; refine G.ret ?_)
            refine KF2.r1 rfl (RV.t rfl) ⟨rfl, rfl⟩ (ImpS.sb ?_)
            ((refine Sb.c Tk.h ?_); (refine Sb.s ?_; exact Sb.r))
end Go.Proofs.Ytjokibfldngkeaa
namespace Go.Proofs.Ytjokibfldngkeaa
open Go
attribute [local irreducible] G GO GR GT Fn FnV pt init exs pur sat own ImpS symsV wordV
set_option maxHeartbeats 4000000 in
theorem rweak_spec (q : HP) (v : Value) (ss : List SymD) (hv : SymsR q v ss) (hn : ¬ 140737488355328 < ss.length) : Fn Try.prog 57 #[v] [q] (fun r Q => r = .bool (weakB ss) ∧ Q = [q]) := by
  obtain ⟨a, cap, rfl⟩ := hv.form
  refine Fn.mk2 Try.func57 rfl rfl fun w0 F => ?_
  match ss, hv, hn with
  | [], hv, hn =>
    (refine G.seq ?_; refine G.region ?_; refine GO.assign rfl rfl ?_; refine GO.nil ?_; refine kthen_n ?_; refine G.seq ?_; refine G.region ?_; refine GO.move rfl rfl ?_; refine GO.lenS rfl rfl ?_; refine GO.assign rfl rfl ?_; refine GO.nil ?_; refine kthen_n ?_; refine G.seq ?_; refine G.region ?_; refine GO.move rfl rfl ?_; refine GO.eqT rfl rfl rfl rfl ?_; refine GO.move rfl rfl ?_; refine GO.gF rfl rfl rfl rfl ?_; refine GO.gF rfl rfl rfl rfl ?_; refine GO.gF rfl rfl rfl rfl ?_; refine GO.gU rfl rfl rfl ?_; refine GO.gU rfl rfl rfl ?_; refine GO.gU rfl rfl rfl ?_; refine GO.gU rfl rfl rfl ?_; refine GO.gF rfl rfl rfl rfl ?_; refine GO.pickT rfl rfl rfl ?_; refine GO.move rfl rfl ?_; refine GO.gF rfl rfl rfl rfl ?_; refine GO.gF rfl rfl rfl rfl ?_; refine GO.gF rfl rfl rfl rfl ?_; refine GO.gU rfl rfl rfl ?_; refine GO.gU rfl rfl rfl ?_; refine GO.gU rfl rfl rfl ?_; refine GO.gU rfl rfl rfl ?_; refine GO.gU rfl rfl rfl ?_; refine GO.gF rfl rfl rfl rfl ?_; refine GO.gF rfl rfl rfl rfl ?_; refine GO.gU rfl rfl rfl ?_; refine GO.gU rfl rfl rfl ?_; refine GO.gU rfl rfl rfl ?_; refine GO.gU rfl rfl rfl ?_; refine GO.gU rfl rfl rfl ?_; refine GO.gF rfl rfl rfl rfl ?_; refine GO.pickT rfl rfl rfl ?_; refine GO.assign rfl rfl ?_; refine GO.nil ?_; refine kthen_n ?_; refine G.ret ?_)
    refine KF2.r1 rfl (RV.t rfl) ⟨rfl, rfl⟩ (ImpS.sb ?_)
    ((refine Sb.c Tk.h ?_); (exact Sb.r))
  | [s], hv, hn =>
    obtain ⟨b, o, rfl, _, r1, _⟩ := hv.at (k := 0) (s := s) rfl
    obtain ⟨s1, s2⟩ := s
    (refine G.seq ?_; refine G.region ?_; refine GO.assign rfl rfl ?_; refine GO.nil ?_; refine kthen_n ?_; refine G.seq ?_; refine G.region ?_; refine GO.move rfl rfl ?_; refine GO.lenS rfl rfl ?_; refine GO.assign rfl rfl ?_; refine GO.nil ?_; refine kthen_n ?_; refine G.seq ?_; refine G.region ?_; refine GO.move rfl rfl ?_; refine GO.eqi rfl rfl rfl ?_; refine GO.move rfl rfl ?_; refine GO.gT rfl rfl rfl ?_; refine GO.move rfl rfl ?_; refine GO.gT rfl rfl rfl ?_; refine GO.eqT rfl rfl rfl rfl ?_; refine GO.gT rfl rfl rfl ?_; refine GO.move rfl rfl ?_; refine GO.gT rfl rfl rfl ?_; refine GO.move rfl rfl ?_; refine GO.gT rfl rfl rfl ?_)
    refine GO.idxS (j := 0) rfl rfl rfl ⟨rfl, by simp⟩ ?_
    cases s1 with
    | true =>
      (refine GO.gT rfl rfl rfl ?_; refine GO.fieldAddr rfl rfl ?_; refine GO.gT rfl rfl rfl ?_; refine GO.loadQ rfl rfl rfl Tk.h (by assumption) ?_; refine GO.gT rfl rfl rfl ?_; refine GO.pickT rfl rfl rfl ?_; refine GO.pickF rfl rfl rfl ?_; refine GO.move rfl rfl ?_; refine GO.gF rfl rfl rfl rfl ?_; refine GO.gF rfl rfl rfl rfl ?_; refine GO.gF rfl rfl rfl rfl ?_; refine GO.gU rfl rfl rfl ?_; refine GO.gU rfl rfl rfl ?_; refine GO.gU rfl rfl rfl ?_; refine GO.gU rfl rfl rfl ?_; refine GO.gU rfl rfl rfl ?_; refine GO.gF rfl rfl rfl rfl ?_; refine GO.gF rfl rfl rfl rfl ?_; refine GO.gU rfl rfl rfl ?_; refine GO.gU rfl rfl rfl ?_; refine GO.gU rfl rfl rfl ?_; refine GO.gU rfl rfl rfl ?_; refine GO.gU rfl rfl rfl ?_; refine GO.gF rfl rfl rfl rfl ?_; refine GO.pickT rfl rfl rfl ?_; refine GO.assign rfl rfl ?_; refine GO.nil ?_; refine kthen_n ?_; refine G.ret ?_)
      refine KF2.r1 rfl (RV.t rfl) ⟨rfl, rfl⟩ (ImpS.sb ?_)
      ((refine Sb.c Tk.h ?_); (exact Sb.r))
    | false =>
      (refine GO.gT rfl rfl rfl ?_; refine GO.fieldAddr rfl rfl ?_; refine GO.gT rfl rfl rfl ?_; refine GO.loadQ rfl rfl rfl Tk.h (by assumption) ?_; refine GO.gT rfl rfl rfl ?_; refine GO.pickT rfl rfl rfl ?_; refine GO.pickF rfl rfl rfl ?_; refine GO.move rfl rfl ?_; refine GO.gT rfl rfl rfl ?_; refine GO.move rfl rfl ?_; refine GO.gT rfl rfl rfl ?_; refine GO.eqi rfl rfl rfl ?_; refine GO.gT rfl rfl rfl ?_; refine GO.move rfl rfl ?_; refine GO.gF rfl rfl rfl rfl ?_; refine GO.gF rfl rfl rfl rfl ?_; refine GO.gF rfl rfl rfl rfl ?_; refine GO.gF rfl rfl rfl rfl ?_; refine GO.gF rfl rfl rfl rfl ?_; refine GO.gT rfl rfl rfl ?_; refine GO.pickF rfl rfl rfl ?_; refine GO.gT rfl rfl rfl ?_; refine GO.move rfl rfl ?_; refine GO.gF rfl rfl rfl rfl ?_; refine GO.gF rfl rfl rfl rfl ?_; refine GO.gF rfl rfl rfl rfl ?_; refine GO.gF rfl rfl rfl rfl ?_; refine GO.gF rfl rfl rfl rfl ?_; refine GO.gT rfl rfl rfl ?_; refine GO.pickF rfl rfl rfl ?_; refine GO.pickF rfl rfl rfl ?_; refine GO.assign rfl rfl ?_; refine GO.nil ?_; refine kthen_n ?_; refine G.ret ?_)
      refine KF2.r1 rfl (RV.t rfl) ⟨rfl, rfl⟩ (ImpS.sb ?_)
      ((refine Sb.c Tk.h ?_); (exact Sb.r))
  | [s, t], hv, hn =>
    obtain ⟨b, o, rfl, _, r1, _⟩ := hv.at (k := 0) (s := s) rfl
    obtain ⟨b', o', e, _, r2, _⟩ := hv.at (k := 1) (s := t) rfl
    injection e with e
    injection e with e1 e2
    subst e1 e2
    obtain ⟨s1, s2⟩ := s
    obtain ⟨t1, t2⟩ := t
    (refine G.seq ?_; refine G.region ?_; refine GO.assign rfl rfl ?_; refine GO.nil ?_; refine kthen_n ?_; refine G.seq ?_; refine G.region ?_; refine GO.move rfl rfl ?_; refine GO.lenS rfl rfl ?_; refine GO.assign rfl rfl ?_; refine GO.nil ?_; refine kthen_n ?_; refine G.seq ?_; refine G.region ?_; refine GO.move rfl rfl ?_; refine GO.eqi rfl rfl rfl ?_; refine GO.move rfl rfl ?_; refine GO.gT rfl rfl rfl ?_; refine GO.move rfl rfl ?_; refine GO.gT rfl rfl rfl ?_; refine GO.eqi rfl rfl rfl ?_; refine GO.gT rfl rfl rfl ?_; refine GO.move rfl rfl ?_; refine GO.gF rfl rfl rfl rfl ?_; refine GO.gF rfl rfl rfl rfl ?_; refine GO.gF rfl rfl rfl rfl ?_; refine GO.gF rfl rfl rfl rfl ?_; refine GO.gT rfl rfl rfl ?_; refine GO.pickF rfl rfl rfl ?_; refine GO.pickF rfl rfl rfl ?_; refine GO.move rfl rfl ?_; refine GO.gT rfl rfl rfl ?_; refine GO.move rfl rfl ?_; refine GO.gT rfl rfl rfl ?_; refine GO.eqT rfl rfl rfl rfl ?_; refine GO.gT rfl rfl rfl ?_; refine GO.move rfl rfl ?_; refine GO.gT rfl rfl rfl ?_; refine GO.move rfl rfl ?_; refine GO.gT rfl rfl rfl ?_)
    refine GO.idxS (j := 0) rfl rfl rfl ⟨rfl, by simp⟩ ?_
    cases s1 with
    | true =>
      (refine GO.gT rfl rfl rfl ?_; refine GO.fieldAddr rfl rfl ?_; refine GO.gT rfl rfl rfl ?_; refine GO.loadQ rfl rfl rfl Tk.h (by assumption) ?_; refine GO.gT rfl rfl rfl ?_; refine GO.not rfl rfl ?_; refine GO.gT rfl rfl rfl ?_; refine GO.pickT rfl rfl rfl ?_; refine GO.gT rfl rfl rfl ?_; refine GO.move rfl rfl ?_; refine GO.gF rfl rfl rfl rfl ?_; refine GO.gF rfl rfl rfl rfl ?_; refine GO.gF rfl rfl rfl rfl ?_; refine GO.gF rfl rfl rfl rfl ?_; refine GO.gF rfl rfl rfl rfl ?_; refine GO.gT rfl rfl rfl ?_; refine GO.pickF rfl rfl rfl ?_; refine GO.pickF rfl rfl rfl ?_; refine GO.assign rfl rfl ?_; refine GO.nil ?_; refine kthen_n ?_; refine G.ret ?_)
      refine KF2.r1 rfl (RV.t rfl) ⟨rfl, rfl⟩ (ImpS.sb ?_)
      ((refine Sb.c Tk.h ?_); (exact Sb.r))
    | false =>
      (refine GO.gT rfl rfl rfl ?_; refine GO.fieldAddr rfl rfl ?_; refine GO.gT rfl rfl rfl ?_; refine GO.loadQ rfl rfl rfl Tk.h (by assumption) ?_; refine GO.gT rfl rfl rfl ?_; refine GO.not rfl rfl ?_; refine GO.gT rfl rfl rfl ?_; refine GO.pickT rfl rfl rfl ?_; refine GO.gT rfl rfl rfl ?_; refine GO.move rfl rfl ?_; refine GO.gT rfl rfl rfl ?_; refine GO.move rfl rfl ?_; refine GO.gT rfl rfl rfl ?_)
      refine GO.idxS (j := 1) rfl rfl rfl ⟨rfl, by simp⟩ ?_
      cases t1 with
      | true =>
        (refine GO.gT rfl rfl rfl ?_; refine GO.fieldAddr rfl rfl ?_; refine GO.gT rfl rfl rfl ?_; refine GO.loadQ rfl rfl rfl Tk.h (by assumption) ?_; refine GO.gT rfl rfl rfl ?_; refine GO.not rfl rfl ?_; refine GO.gT rfl rfl rfl ?_; refine GO.pickT rfl rfl rfl ?_; refine GO.pickF rfl rfl rfl ?_; refine GO.assign rfl rfl ?_; refine GO.nil ?_; refine kthen_n ?_; refine G.ret ?_)
        refine KF2.r1 rfl (RV.t rfl) ⟨rfl, rfl⟩ (ImpS.sb ?_)
        ((refine Sb.c Tk.h ?_); (exact Sb.r))
      | false =>
        (refine GO.gT rfl rfl rfl ?_; refine GO.fieldAddr rfl rfl ?_; refine GO.gT rfl rfl rfl ?_; refine GO.loadQ rfl rfl rfl Tk.h (by assumption) ?_; refine GO.gT rfl rfl rfl ?_; refine GO.not rfl rfl ?_; refine GO.gT rfl rfl rfl ?_; refine GO.pickT rfl rfl rfl ?_; refine GO.pickF rfl rfl rfl ?_; refine GO.assign rfl rfl ?_; refine GO.nil ?_; refine kthen_n ?_; refine G.ret ?_)
        refine KF2.r1 rfl (RV.t rfl) ⟨rfl, rfl⟩ (ImpS.sb ?_)
        ((refine Sb.c Tk.h ?_); (exact Sb.r))
  | s :: t :: u :: more, hv, hn =>
    have d0 : decide (((s :: t :: u :: more).length : Int) = 0) = false := decide_eq_false (by simp; omega)
    have d1 : decide (((s :: t :: u :: more).length : Int) = 1) = false := decide_eq_false (by simp; omega)
    have d2 : decide (((s :: t :: u :: more).length : Int) = 2) = false := decide_eq_false (by simp; omega)
    (refine G.seq ?_; refine G.region ?_; refine GO.assign rfl rfl ?_; refine GO.nil ?_; refine kthen_n ?_; refine G.seq ?_; refine G.region ?_; refine GO.move rfl rfl ?_; refine GO.lenS rfl rfl ?_; refine GO.assign rfl rfl ?_; refine GO.nil ?_; refine kthen_n ?_; refine G.seq ?_; refine G.region ?_; refine GO.move rfl rfl ?_; refine GO.eqi rfl rfl rfl ?_; refine GO.move rfl rfl ?_; refine GO.gT rfl rfl rfl ?_; refine GO.move rfl rfl ?_; refine GO.gT rfl rfl rfl ?_; refine GO.eqi rfl rfl rfl ?_; refine GO.gT rfl rfl rfl ?_; refine GO.move rfl rfl ?_; refine GO.gF rfl rfl rfl rfl ?_; refine GO.gF rfl rfl rfl rfl ?_; refine GO.gF rfl rfl rfl rfl ?_; refine GO.gF rfl rfl rfl rfl ?_; refine GO.gT rfl rfl rfl ?_; refine GO.pickF rfl rfl rfl ?_; refine GO.pickF rfl rfl rfl ?_; refine GO.move rfl rfl ?_; refine GO.gT rfl rfl rfl ?_; refine GO.move rfl rfl ?_; refine GO.gT rfl rfl rfl ?_; refine GO.eqi rfl rfl rfl ?_; refine GO.gT rfl rfl rfl ?_; refine GO.move rfl rfl ?_; refine GO.gF rfl rfl rfl rfl ?_; refine GO.gF rfl rfl rfl rfl ?_; refine GO.gF rfl rfl rfl rfl ?_; refine GO.gF rfl rfl rfl rfl ?_; refine GO.gF rfl rfl rfl rfl ?_; refine GO.gT rfl rfl rfl ?_; refine GO.pickF rfl rfl rfl ?_; refine GO.gT rfl rfl rfl ?_; refine GO.move rfl rfl ?_; refine GO.gF rfl rfl rfl rfl ?_; refine GO.gF rfl rfl rfl rfl ?_; refine GO.gF rfl rfl rfl rfl ?_; refine GO.gF rfl rfl rfl rfl ?_; refine GO.gF rfl rfl rfl rfl ?_; refine GO.gT rfl rfl rfl ?_; refine GO.pickF rfl rfl rfl ?_; refine GO.pickF rfl rfl rfl ?_; refine GO.assign rfl rfl ?_; refine GO.nil ?_; refine kthen_n ?_; refine G.ret ?_)
    refine KF2.r1 rfl (RV.t rfl) ⟨rfl, rfl⟩ (ImpS.sb ?_)
    ((refine Sb.c Tk.h ?_); (exact Sb.r))
theorem ris_spec (q : HP) (v : Value) (C : CnfD) (hv : CnfR q v C) (hz : Fits C) : Fn Try.prog 44 #[v] [q] (fun r Q => r = .bool (weakC C) ∧ Q = [q]) := by
  have hc := rcheck_spec q v C hv hz
  have hpn : ¬ 140737488355328 < C.prods.length := by have := hz.1; omega
  obtain ⟨pv, rfl, hp⟩ := hv
  obtain ⟨ap, cp, rfl⟩ := hp.form
  unfold weakC
  cases hok : okC C with
  | false =>
    rw [hok] at hc
    refine Fn.mk2 Try.func44 rfl rfl fun w0 F => ?_
    (refine G.seq ?_; refine G.region ?_; refine GO.box rfl rfl rfl fun b1 => ?_; refine GO.assign rfl rfl ?_; refine GO.nil ?_; refine kthen_n ?_; refine G.seq ?_; refine G.seq ?_; refine G.region ?_; refine GO.loadW rfl rfl rfl Tk.h rfl ?_)
    refine GO.call1 rfl rfl (hc) (Tks.c (Tk.t Tk.h) Tks.n) ?_
    rintro _ _ ⟨rfl, rfl⟩
    rw [if_neg (by simp)]
    (refine GO.nei rfl rfl rfl ?_; refine GO.nil ?_; refine kthen_n ?_; refine G.condT rfl rfl ?_; refine G.seq ?_; refine G.region ?_; refine GO.assign rfl rfl ?_; refine GO.nil ?_; refine kthen_n ?_; refine G.ret ?_; refine kthen_r ?_)
    refine KF2.r1 rfl (RV.t rfl) ⟨rfl, rfl⟩ (ImpS.sb ?_)
    ((refine Sb.c Tk.h ?_); (refine Sb.s ?_; exact Sb.r))
  | true =>
    rw [hok] at hc
    refine Fn.mk2 Try.func44 rfl rfl fun w0 F => ?_
    (refine G.seq ?_; refine G.region ?_; refine GO.box rfl rfl rfl fun b1 => ?_; refine GO.assign rfl rfl ?_; refine GO.nil ?_; refine kthen_n ?_; refine G.seq ?_; refine G.seq ?_; refine G.region ?_; refine GO.loadW rfl rfl rfl Tk.h rfl ?_)
    refine GO.call1 rfl rfl (hc) (Tks.c (Tk.t Tk.h) Tks.n) ?_
    rintro _ _ ⟨rfl, rfl⟩
    rw [if_pos rfl]
    (refine GO.neF rfl rfl rfl rfl ?_; refine GO.nil ?_; refine kthen_n ?_; refine G.condF rfl rfl ?_; refine G.skip ?_; refine kthen_n ?_; refine G.seq ?_; refine G.seq ?_; refine G.region ?_; refine GO.assign rfl rfl ?_; refine GO.nil ?_; refine kthen_n ?_; refine G.block ?_)
    refine G.loop (fun k : Nat => [(1, ptrT b1), (3, i64 (k : Nat))]) (fun _ => pt b1 (row [i64 C.nts, .slice ap C.prods.length cp] 24) :: q :: F) (fun k => k ≤ C.prods.length ∧ ((C.prods.take k).all fun p => weakB p.2) = true) (fun k => C.prods.length - k) 0 ⟨Nat.zero_le _, rfl⟩ ?_ ?_ ?_
    · (refine SubE.c rfl rfl ?_; refine SubE.c rfl rfl ?_; exact SubE.n)
    · ((refine Sb.c (Tk.t Tk.h) ?_; refine Sb.c Tk.h ?_); (exact Sb.r))
    · rintro k ⟨hk, hall⟩
      (refine G.seq ?_; refine G.seq ?_; refine G.region ?_; refine GO.move rfl rfl ?_; refine GO.fieldAddr rfl rfl ?_; refine GO.load1 rfl rfl rfl Tk.h rfl ?_; refine GO.lenS rfl rfl ?_; refine GO.lti rfl rfl rfl ?_; refine GO.nil ?_; refine kthen_n ?_)
      refine G.condD rfl (fun hlt => ?_) (fun hge => ?_)
      · have hkl : k < C.prods.length := by omega
        obtain ⟨p, hpk⟩ : ∃ p, C.prods[k]? = some p := ⟨_, List.getElem?_eq_getElem hkl⟩
        obtain ⟨b0, o0, bv, rfl, _, r1, r2, hss⟩ := hp.at hpk
        have hfit := hz.2 p (List.mem_of_getElem? hpk)
        have hw := rweak_spec q bv p.2 hss (by omega)
        obtain ⟨ab, cb, rfl⟩ := hss.form
        (refine G.skip ?_; refine kthen_n ?_; refine G.seq ?_; refine G.block ?_; refine G.seq ?_; refine G.region ?_; refine GO.fieldAddr rfl rfl ?_; refine GO.load1 rfl rfl rfl Tk.h rfl ?_; refine GO.move rfl rfl ?_; refine GO.idxS rfl rfl rfl ⟨rfl, by omega⟩ ?_; refine GO.fieldAddr rfl rfl ?_; refine GO.loadQ rfl rfl rfl (Tk.t Tk.h) (by assumption) ?_)
        refine GO.call1 rfl rfl (hw) (Tks.c (Tk.t Tk.h) Tks.n) ?_
        rintro _ _ ⟨rfl, rfl⟩
        cases hb : weakB p.2 with
        | true =>
          (refine GO.not rfl rfl ?_; refine GO.nil ?_; refine kthen_n ?_; refine G.condF rfl rfl ?_; refine G.skip ?_; refine kblock_n ?_; refine kthen_n ?_; refine G.region ?_; refine GO.move rfl rfl ?_; refine GO.addi rfl rfl rfl (by omega) ?_; refine GO.assign rfl rfl ?_; refine GO.nil ?_; refine kthen_n ?_)
          refine ⟨k + 1, ⟨by omega, all_succ hpk hall hb⟩, by omega, ?_, ?_⟩
          · (refine SubE.c rfl rfl ?_; refine SubE.c rfl rfl ?_; exact SubE.n)
          · ((refine Sb.c (Tk.t Tk.h) ?_; refine Sb.c Tk.h ?_); (exact Sb.r))
        | false =>
          (refine GO.not rfl rfl ?_; refine GO.nil ?_; refine kthen_n ?_; refine G.condT rfl rfl ?_; refine G.seq ?_; refine G.region ?_; refine GO.assign rfl rfl ?_; refine GO.nil ?_; refine kthen_n ?_; refine G.ret ?_; refine kblock_r ?_; refine kthen_r ?_; refine kthen_r ?_; refine kblock_r ?_; refine kthen_r ?_)
          refine KF2.r1 rfl (RV.t rfl) ⟨?_, rfl⟩ (ImpS.sb ?_)
          · rw [all_not hpk (f := fun p => weakB p.2) hb]; rfl
          · ((refine Sb.c Tk.h ?_); (refine Sb.s ?_; exact Sb.r))
      · have : k = C.prods.length := by omega
        subst this
        rw [List.take_length] at hall
        (refine G.exit ?_; refine kthen_x ?_; refine kthen_x ?_; refine kblock_x ?_; refine kthen_n ?_; refine G.seq ?_; refine G.region ?_; refine GO.assign rfl rfl ?_; refine GO.nil ?_; refine kthen_n ?_; refine G.ret ?_)
        refine KF2.r1 rfl (RV.t rfl) ⟨?_, rfl⟩ (ImpS.sb ?_)
        · rw [hall]; rfl
        · ((refine Sb.c (Tk.t Tk.h) ?_); (refine Sb.s ?_; exact Sb.r))
set_option maxRecDepth 4000 in
theorem rwrong_spec (q : HP) (v : Value) (C : CnfD) (hv : CnfR q v C) (hz : Fits C) (nt : Int) (n : Nat) : Fn Try.prog 28 #[v, i64 nt, i64 (n : Nat)] [q] (fun r Q => r = i64 (askE C nt n) ∧ Q = [q]) := by
  have hc := rcheck_spec q v C hv hz
  have hi := ris_spec q v C hv hz
  obtain ⟨pv, rfl, hp⟩ := hv
  obtain ⟨ap, cp, rfl⟩ := hp.form
  unfold askE
  cases hok : okC C with
  | false =>
    rw [hok] at hc
    refine Fn.mk2 Try.func28 rfl rfl fun w0 F => ?_
    (refine G.seq ?_; refine G.region ?_; refine GO.box rfl rfl rfl fun b3 => ?_; refine GO.assign rfl rfl ?_; refine GO.nil ?_; refine kthen_n ?_; refine G.seq ?_; refine G.seq ?_; refine G.region ?_; refine GO.loadW rfl rfl rfl Tk.h rfl ?_)
    refine GO.call1 rfl rfl (hc) (Tks.c (Tk.t Tk.h) Tks.n) ?_
    rintro _ _ ⟨rfl, rfl⟩
    rw [if_neg (by simp)]
    (refine GO.nei rfl rfl rfl ?_; refine GO.nil ?_; refine kthen_n ?_; refine G.condT rfl rfl ?_; refine G.seq ?_; refine G.region ?_; refine GO.assign rfl rfl ?_; refine GO.nil ?_; refine kthen_n ?_; refine G.ret ?_; refine kthen_r ?_)
    refine KF2.r1 rfl (RV.t rfl) ⟨rfl, rfl⟩ (ImpS.sb ?_)
    ((refine Sb.c Tk.h ?_); (refine Sb.s ?_; exact Sb.r))
  | true =>
    rw [hok] at hc
    cases hwk : weakC C with
    | false =>
      rw [hwk] at hi
      refine Fn.mk2 Try.func28 rfl rfl fun w0 F => ?_
      (refine G.seq ?_; refine G.region ?_; refine GO.box rfl rfl rfl fun b3 => ?_; refine GO.assign rfl rfl ?_; refine GO.nil ?_; refine kthen_n ?_; refine G.seq ?_; refine G.seq ?_; refine G.region ?_; refine GO.loadW rfl rfl rfl Tk.h rfl ?_)
      refine GO.call1 rfl rfl (hc) (Tks.c (Tk.t Tk.h) Tks.n) ?_
      rintro _ _ ⟨rfl, rfl⟩
      rw [if_pos rfl]
      (refine GO.neF rfl rfl rfl rfl ?_; refine GO.nil ?_; refine kthen_n ?_; refine G.condF rfl rfl ?_; refine G.skip ?_; refine kthen_n ?_; refine G.seq ?_; refine G.seq ?_; refine G.region ?_; refine GO.loadW rfl rfl rfl (Tk.t Tk.h) rfl ?_)
      refine GO.call1 rfl rfl (hi) (Tks.c Tk.h Tks.n) ?_
      rintro _ _ ⟨rfl, rfl⟩
      (refine GO.not rfl rfl ?_; refine GO.nil ?_; refine kthen_n ?_; refine G.condT rfl rfl ?_; refine G.seq ?_; refine G.region ?_; refine GO.assign rfl rfl ?_; refine GO.nil ?_; refine kthen_n ?_; refine G.ret ?_; refine kthen_r ?_)
      refine KF2.r1 rfl (RV.t rfl) ⟨rfl, rfl⟩ (ImpS.sb ?_)
      ((refine Sb.c Tk.h ?_); (refine Sb.s ?_; exact Sb.r))
    | true =>
      rw [hwk] at hi
      rw [if_pos rfl, if_pos rfl]
      refine Fn.mk2 Try.func28 rfl rfl fun w0 F => ?_
      (refine G.seq ?_; refine G.region ?_; refine GO.box rfl rfl rfl fun b3 => ?_; refine GO.assign rfl rfl ?_; refine GO.nil ?_; refine kthen_n ?_; refine G.seq ?_; refine G.seq ?_; refine G.region ?_; refine GO.loadW rfl rfl rfl Tk.h rfl ?_)
      refine GO.call1 rfl rfl (hc) (Tks.c (Tk.t Tk.h) Tks.n) ?_
      rintro _ _ ⟨rfl, rfl⟩
      rw [if_pos rfl]
      (refine GO.neF rfl rfl rfl rfl ?_; refine GO.nil ?_; refine kthen_n ?_; refine G.condF rfl rfl ?_; refine G.skip ?_; refine kthen_n ?_; refine G.seq ?_; refine G.seq ?_; refine G.region ?_; refine GO.loadW rfl rfl rfl (Tk.t Tk.h) rfl ?_)
      refine GO.call1 rfl rfl (hi) (Tks.c Tk.h Tks.n) ?_
      rintro _ _ ⟨rfl, rfl⟩
      by_cases h1 : nt < 0
      · have d1 : decide (nt < 0) = true := decide_eq_true h1
        rw [if_pos h1]
        (refine GO.not rfl rfl ?_; refine GO.nil ?_; refine kthen_n ?_; refine G.condF rfl rfl ?_; refine G.skip ?_; refine kthen_n ?_; refine G.seq ?_; refine G.seq ?_; refine G.region ?_; refine GO.move rfl rfl ?_; refine GO.lti rfl rfl rfl ?_; refine GO.move rfl rfl ?_; refine GO.gF rfl rfl rfl (by assumption) ?_; refine GO.gF rfl rfl rfl (by assumption) ?_; refine GO.gF rfl rfl rfl (by assumption) ?_; refine GO.gF rfl rfl rfl (by assumption) ?_; refine GO.pickTa rfl rfl (by assumption) rfl ?_; refine GO.nil ?_; refine kthen_n ?_; refine G.condT rfl rfl ?_; refine G.seq ?_; refine G.region ?_; refine GO.assign rfl rfl ?_; refine GO.nil ?_; refine kthen_n ?_; refine G.ret ?_; refine kthen_r ?_)
        refine KF2.r1 rfl (RV.t rfl) ⟨rfl, rfl⟩ (ImpS.sb ?_)
        ((refine Sb.c Tk.h ?_); (refine Sb.s ?_; exact Sb.r))
      · have d1 : decide (nt < 0) = false := decide_eq_false h1
        rw [if_neg h1]
        by_cases h2 : C.nts ≤ nt
        · have d2 : decide (C.nts ≤ nt) = true := decide_eq_true h2
          rw [if_pos h2]
          (refine GO.not rfl rfl ?_; refine GO.nil ?_; refine kthen_n ?_; refine G.condF rfl rfl ?_; refine G.skip ?_; refine kthen_n ?_; refine G.seq ?_; refine G.seq ?_; refine G.region ?_; refine GO.move rfl rfl ?_; refine GO.lti rfl rfl rfl ?_; refine GO.move rfl rfl ?_; refine GO.gT rfl rfl (by assumption) ?_; refine GO.move rfl rfl ?_; refine GO.gT rfl rfl (by assumption) ?_; refine GO.fieldAddr rfl rfl ?_; refine GO.gT rfl rfl (by assumption) ?_; refine GO.load1 rfl rfl rfl (Tk.t Tk.h) rfl ?_; refine GO.gT rfl rfl (by assumption) ?_; refine GO.gei rfl rfl rfl ?_; refine GO.pickFa rfl rfl (by assumption) rfl ?_; refine GO.nil ?_; refine kthen_n ?_; refine G.condT rfl (by assumption) ?_; refine G.seq ?_; refine G.region ?_; refine GO.assign rfl rfl ?_; refine GO.nil ?_; refine kthen_n ?_; refine G.ret ?_; refine kthen_r ?_)
          refine KF2.r1 rfl (RV.t rfl) ⟨rfl, rfl⟩ (ImpS.sb ?_)
          ((refine Sb.c Tk.h ?_); (refine Sb.s ?_; exact Sb.r))
        · have d2 : decide (C.nts ≤ nt) = false := decide_eq_false h2
          rw [if_neg h2]
          by_cases h3 : 64 < n
          · have d3 : decide ((64 : Int) < (n : Int)) = true := decide_eq_true (by omega)
            rw [if_pos h3]
            (refine GO.not rfl rfl ?_; refine GO.nil ?_; refine kthen_n ?_; refine G.condF rfl rfl ?_; refine G.skip ?_; refine kthen_n ?_; refine G.seq ?_; refine G.seq ?_; refine G.region ?_; refine GO.move rfl rfl ?_; refine GO.lti rfl rfl rfl ?_; refine GO.move rfl rfl ?_; refine GO.gT rfl rfl (by assumption) ?_; refine GO.move rfl rfl ?_; refine GO.gT rfl rfl (by assumption) ?_; refine GO.fieldAddr rfl rfl ?_; refine GO.gT rfl rfl (by assumption) ?_; refine GO.load1 rfl rfl rfl (Tk.t Tk.h) rfl ?_; refine GO.gT rfl rfl (by assumption) ?_; refine GO.gei rfl rfl rfl ?_; refine GO.pickFa rfl rfl (by assumption) rfl ?_; refine GO.nil ?_; refine kthen_n ?_; refine G.condF rfl (by assumption) ?_; refine G.skip ?_; refine kthen_n ?_; refine G.seq ?_; refine G.seq ?_; refine G.region ?_; refine GO.move rfl rfl ?_; refine GO.gti rfl rfl rfl ?_; refine GO.nil ?_; refine kthen_n ?_; refine G.condT rfl (by assumption) ?_; refine G.seq ?_; refine G.region ?_; refine GO.assign rfl rfl ?_; refine GO.nil ?_; refine kthen_n ?_; refine G.ret ?_; refine kthen_r ?_)
            refine KF2.r1 rfl (RV.t rfl) ⟨rfl, rfl⟩ (ImpS.sb ?_)
            ((refine Sb.c Tk.h ?_); (refine Sb.s ?_; exact Sb.r))
          · have d3 : decide ((64 : Int) < (n : Int)) = false := decide_eq_false (by omega)
            rw [if_neg h3]
            (refine GO.not rfl rfl ?_; refine GO.nil ?_; refine kthen_n ?_; refine G.condF rfl rfl ?_; refine G.skip ?_; refine kthen_n ?_; refine G.seq ?_; refine G.seq ?_; refine G.region ?_; refine GO.move rfl rfl ?_; refine GO.lti rfl rfl rfl ?_; refine GO.move rfl rfl ?_; refine GO.gT rfl rfl (by assumption) ?_; refine GO.move rfl rfl ?_; refine GO.gT rfl rfl (by assumption) ?_; refine GO.fieldAddr rfl rfl ?_; refine GO.gT rfl rfl (by assumption) ?_; refine GO.load1 rfl rfl rfl (Tk.t Tk.h) rfl ?_; refine GO.gT rfl rfl (by assumption) ?_; refine GO.gei rfl rfl rfl ?_; refine GO.pickFa rfl rfl (by assumption) rfl ?_; refine GO.nil ?_; refine kthen_n ?_; refine G.condF rfl (by assumption) ?_; refine G.skip ?_; refine kthen_n ?_; refine G.seq ?_; refine G.seq ?_; refine G.region ?_; refine GO.move rfl rfl ?_; refine GO.gti rfl rfl rfl ?_; refine GO.nil ?_; refine kthen_n ?_; refine G.condF rfl (by assumption) ?_; refine G.skip ?_; refine kthen_n ?_; refine G.seq ?_; refine G.region ?_; refine GO.assign rfl rfl ?_; refine GO.nil ?_; refine kthen_n ?_; refine G.ret ?_)
            refine KF2.r1 rfl (RV.t rfl) ⟨rfl, rfl⟩ (ImpS.sb ?_)
            ((refine Sb.c Tk.h ?_); (refine Sb.s ?_; exact Sb.r))
end Go.Proofs.Ytjokibfldngkeaa
namespace Go.Proofs.Ytjokibfldngkeaa
open Go
theorem lin_lt {a i m n : Nat} (ha : a < m) (hi : i < n) : a * n + i < m * n := by
  have h1 : (a + 1) * n ≤ m * n := Nat.mul_le_mul_right n ha
  rw [Nat.succ_mul] at h1
  omega
theorem lin_inj {a b i j n : Nat} (hi : i < n) (hj : j < n) (h : a * n + i = b * n + j) : a = b ∧ i = j := by
  rcases Nat.lt_trichotomy a b with h1 | h1 | h1
  · have := lin_lt h1 hi; omega
  · subst h1; exact ⟨rfl, by omega⟩
  · have := lin_lt h1 hj; omega
/-- A fact's place. -/
def atN (n a i j : Nat) : Nat := (a * n + i) * n + j
theorem atN_lt {n m a i j : Nat} (ha : a < m) (hi : i < n) (hj : j < n) : atN n a i j < m * n * n := lin_lt (lin_lt ha hi) hj
theorem atN_inj {n a b i k j l : Nat} (hi : i < n) (hk : k < n) (hj : j < n) (hl : l < n) (h : atN n a i j = atN n b k l) : a = b ∧ i = k ∧ j = l := by
  obtain ⟨h1, h2⟩ := lin_inj hj hl h
  obtain ⟨h3, h4⟩ := lin_inj hi hk h1
  exact ⟨h3, h4, h2⟩
/-- How many are not known. -/
def cntF (K : Nat → Bool) : Nat → Nat
  | 0 => 0
  | n + 1 => cntF K n + if K n then 0 else 1
theorem cntF_out (K : Nat → Bool) (x : Nat) (b : Bool) : ∀ n, n ≤ x → cntF (upd K x b) n = cntF K n
  | 0, _ => rfl
  | n + 1, h => by
    unfold cntF
    rw [cntF_out K x b n (by omega), upd_ne K b (by omega)]
theorem cntF_upd (K : Nat → Bool) (x : Nat) (hx : K x = false) : ∀ n, x < n → cntF (upd K x true) n < cntF K n
  | 0, h => absurd h (Nat.not_lt_zero _)
  | n + 1, h => by
    unfold cntF
    by_cases e : x = n
    · subst e
      rw [cntF_out K x true x (Nat.le_refl _), upd_at, hx]
      simp
    · have := cntF_upd K x hx n (by omega)
      rw [upd_ne K true (fun h => e h.symm)]
      omega
/-- What comes of a body, by what is known. -/
def ComeP (K : Nat → Bool) (w : List Int) (ss : List SymD) (i j : Nat) : Prop :=
  (ss = [] ∧ i = j) ∨ (∃ s, ss = [s] ∧ j = i + 1 ∧ w[i]? = some s.2) ∨
  (∃ s t, ss = [s, t] ∧ ∃ k, i ≤ k ∧ k ≤ j ∧ K (atN (w.length + 1) s.2.toNat i k) = true ∧ K (atN (w.length + 1) t.2.toNat k j) = true)
/-- A weak body's numbers. -/
def BodyOK (m : Nat) (ss : List SymD) : Prop := ss.length ≤ 2 ∧ (ss.length = 2 → ∀ s ∈ ss, 0 ≤ s.2 ∧ s.2 < m)
attribute [local irreducible] G GO GR GT Fn FnV pt init exs pur sat own ImpS symsV wordV
set_option maxHeartbeats 4000000 in
theorem at_spec (a i j n : Nat) (h1 : ¬ 1024 < a) (h2 : ¬ 65 < i) (h3 : ¬ 65 < j) (h4 : ¬ 65 < n) : Fn Try.prog 30 #[i64 (a : Nat), i64 (i : Nat), i64 (j : Nat), i64 (n : Nat)] [] (fun r Q => r = i64 (atN n a i j : Nat) ∧ Q = []) := by
  have b1 : a * n ≤ 1024 * 65 := Nat.mul_le_mul (by omega) (by omega)
  have b2 : (a * n + i) * n ≤ 66625 * 65 := Nat.mul_le_mul (by omega) (by omega)
  have i1 : 0 ≤ (a : Int) * (n : Int) ∧ (a : Int) * (n : Int) ≤ 66560 := by
    have e : (a : Int) * (n : Int) = ((a * n : Nat) : Int) := by push_cast; rfl
    rw [e]; omega
  have i2 : 0 ≤ ((a : Int) * (n : Int) + (i : Int)) * (n : Int) ∧ ((a : Int) * (n : Int) + (i : Int)) * (n : Int) ≤ 4330625 := by
    have e : ((a : Int) * (n : Int) + (i : Int)) * (n : Int) = (((a * n + i) * n : Nat) : Int) := by push_cast; rfl
    rw [e]; omega
  have e3 : ((a : Int) * (n : Int) + (i : Int)) * (n : Int) + (j : Int) = ((atN n a i j : Nat) : Int) := by unfold atN; push_cast; rfl
  refine Fn.mk2 Try.func30 rfl rfl fun w0 F => ?_
  (refine G.seq ?_; refine G.region ?_; refine GO.assign rfl rfl ?_; refine GO.nil ?_; refine kthen_n ?_; refine G.seq ?_; refine G.region ?_; refine GO.move rfl rfl ?_; refine GO.move rfl rfl ?_; refine GO.muli rfl rfl rfl (by omega) ?_; refine GO.move rfl rfl ?_; refine GO.addi rfl rfl rfl (by omega) ?_; refine GO.move rfl rfl ?_; refine GO.muli rfl rfl rfl (by omega) ?_; refine GO.move rfl rfl ?_; refine GO.addi rfl rfl rfl (by omega) ?_; refine GO.assign rfl rfl ?_; refine GO.nil ?_; refine kthen_n ?_; refine G.ret ?_)
  rw [e3]
  refine KF2.r1 rfl (RV.t rfl) ⟨rfl, rfl⟩ (ImpS.sb ?_)
  (skip; (exact Sb.r))
abbrev knM (bo N : Nat) (K : Nat → Bool) : HP := pt bo (row (boolsV K N) 4)
set_option maxHeartbeats 16000000 in
theorem come_spec (q : HP) (m : Nat) (hm : ¬ 1024 < m) (w : List Int) (wv bv : Value) (ss : List SymD) (hw : WordR q wv w) (hs : SymsR q bv ss) (hl : ¬ 64 < w.length) (hb : BodyOK m ss) (bo N : Nat) (hN : N = m * (w.length + 1) * (w.length + 1)) (K : Nat → Bool) (i j : Nat) (hi : i ≤ j) (hj : j ≤ w.length) :
    Fn Try.prog 45 #[bv, wv, .slice (some ⟨bo, 0, none⟩) N N, i64 (i : Nat), i64 (j : Nat)] [q, knM bo N K] (fun r Q => ∃ b, r = .bool b ∧ (b = true ↔ ComeP K w ss i j) ∧ Q = [q, knM bo N K]) := by
  obtain ⟨ab, cb, rfl⟩ := hs.form
  obtain ⟨aw, cw, rfl⟩ := hw.form
  refine Fn.mk2 Try.func45 rfl rfl fun w0 F => ?_
  match ss, hs, hb with
  | [], hs, hb =>
    (refine G.seq ?_; refine G.region ?_; refine GO.assign rfl rfl ?_; refine GO.nil ?_; refine kthen_n ?_; refine G.seq ?_; refine G.region ?_; refine GO.move rfl rfl ?_; refine GO.lenS rfl rfl ?_; refine GO.addi rfl rfl rfl (by omega) ?_; refine GO.assign rfl rfl ?_; refine GO.nil ?_; refine kthen_n ?_; refine G.seq ?_; refine G.seq ?_; refine G.region ?_; refine GO.move rfl rfl ?_; refine GO.lenS rfl rfl ?_; refine GO.eqT rfl rfl rfl rfl ?_; refine GO.nil ?_; refine kthen_n ?_; refine G.condT rfl rfl ?_; refine G.seq ?_; refine G.region ?_; refine GO.move rfl rfl ?_; refine GO.move rfl rfl ?_; refine GO.eqi rfl rfl rfl ?_; refine GO.assign rfl rfl ?_; refine GO.nil ?_; refine kthen_n ?_; refine G.ret ?_; refine kthen_r ?_)
    refine KF2.r1 rfl (RV.t rfl) ⟨_, rfl, ?_, rfl⟩ (ImpS.sb ?_)
    · rw [decide_eq_true_iff]
      constructor
      · intro h; exact .inl ⟨rfl, by omega⟩
      · rintro (⟨_, h⟩ | ⟨s, h, _⟩ | ⟨s, t, h, _⟩)
        · omega
        · cases h
        · cases h
    · ((refine Sb.c Tk.h ?_; refine Sb.c Tk.h ?_); (exact Sb.r))
  | [s], hs, hb =>
    obtain ⟨bb, ob, rfl, _, _, rs⟩ := hs.at (k := 0) (s := s) rfl
    by_cases hji : j = i + 1
    · have dj : decide ((j : Int) = (i : Int) + 1) = true := decide_eq_true (by omega)
      obtain ⟨x, hx⟩ : ∃ x, w[i]? = some x := ⟨_, List.getElem?_eq_getElem (by omega)⟩
      obtain ⟨bw, ow, rfl, _, rw1⟩ := hw.at hx
      (refine G.seq ?_; refine G.region ?_; refine GO.assign rfl rfl ?_; refine GO.nil ?_; refine kthen_n ?_; refine G.seq ?_; refine G.region ?_; refine GO.move rfl rfl ?_; refine GO.lenS rfl rfl ?_; refine GO.addi rfl rfl rfl (by omega) ?_; refine GO.assign rfl rfl ?_; refine GO.nil ?_; refine kthen_n ?_; refine G.seq ?_; refine G.seq ?_; refine G.region ?_; refine GO.move rfl rfl ?_; refine GO.lenS rfl rfl ?_; refine GO.eqi rfl rfl rfl ?_; refine GO.nil ?_; refine kthen_n ?_; refine G.condF rfl rfl ?_; refine G.skip ?_; refine kthen_n ?_; refine G.seq ?_; refine G.seq ?_; refine G.region ?_; refine GO.move rfl rfl ?_; refine GO.lenS rfl rfl ?_; refine GO.eqT rfl rfl rfl rfl ?_; refine GO.nil ?_; refine kthen_n ?_; refine G.condT rfl rfl ?_; refine G.seq ?_)
      refine G.draw 16 (by kernel_rfl) ?_
      ((apply GQ.step; focus (intro Z; refine GO.move rfl rfl ?_; exact KQ.z)); (apply GQ.step; focus (intro Z; refine GO.move rfl rfl ?_; exact KQ.z)); (apply GQ.step; focus (intro Z; refine GO.addi rfl rfl rfl (by omega) ?_; exact KQ.z)); (apply GQ.step; focus (intro Z; refine GO.eqi rfl rfl rfl ?_; exact KQ.z)); (apply GQ.step; focus (intro Z; refine GO.move rfl rfl ?_; exact KQ.z)); (apply GQ.step; focus (intro Z; refine GO.gT rfl rfl (by assumption) ?_; refine GO.move rfl rfl ?_; exact KQ.z)); (apply GQ.step; focus (intro Z; refine GO.gT rfl rfl (by assumption) ?_; refine GO.move rfl rfl ?_; exact KQ.z)); (apply GQ.step; focus (intro Z; refine GO.gT rfl rfl (by assumption) ?_; refine GO.idxS rfl rfl rfl ⟨rfl, by omega⟩ ?_; exact KQ.z)); (apply GQ.step; focus (intro Z; refine GO.gT rfl rfl (by assumption) ?_; refine GO.loadQ rfl rfl rfl Tk.h (by assumption) ?_; exact KQ.z)); (apply GQ.step; focus (intro Z; refine GO.gT rfl rfl (by assumption) ?_; refine GO.move rfl rfl ?_; exact KQ.z)))
      apply GQ.step; focus (intro Z; refine GO.gT rfl rfl (by assumption) ?_; refine GO.idxS (j := 0) rfl rfl rfl ⟨rfl, by simp⟩ ?_; exact KQ.z)
      ((apply GQ.step; focus (intro Z; refine GO.gT rfl rfl (by assumption) ?_; refine GO.fieldAddr rfl rfl ?_; exact KQ.z)); (apply GQ.step; focus (intro Z; refine GO.gT rfl rfl (by assumption) ?_; refine GO.loadQ rfl rfl rfl Tk.h (by assumption) ?_; exact KQ.z)); (apply GQ.step; focus (intro Z; refine GO.gT rfl rfl (by assumption) ?_; refine GO.eqi rfl rfl rfl ?_; exact KQ.z)); (apply GQ.step; focus (intro Z; refine GO.pickTa rfl rfl (by assumption) rfl ?_; exact KQ.z)); (apply GQ.step; focus (intro Z; refine GO.assign rfl rfl ?_; exact KQ.z)); refine GQ.nil ?_)
      (refine GO.nil ?_; refine kthen_n ?_; refine G.ret ?_; refine kthen_r ?_)
      refine KF2.r1 rfl (RV.t rfl) ⟨_, rfl, ?_, rfl⟩ (ImpS.sb ?_)
      · rw [decide_eq_true_iff]
        constructor
        · intro h; exact .inr (.inl ⟨s, rfl, hji, by rw [hx, h]⟩)
        · rintro (⟨h, _⟩ | ⟨s', h, _, h2⟩ | ⟨s', t, h, _⟩)
          · cases h
          · injection h with h _
            subst h
            rw [hx] at h2
            injection h2
          · cases h
      · ((refine Sb.c Tk.h ?_; refine Sb.c Tk.h ?_); (exact Sb.r))
    · have dj : decide ((j : Int) = (i : Int) + 1) = false := decide_eq_false (by omega)
      (refine G.seq ?_; refine G.region ?_; refine GO.assign rfl rfl ?_; refine GO.nil ?_; refine kthen_n ?_; refine G.seq ?_; refine G.region ?_; refine GO.move rfl rfl ?_; refine GO.lenS rfl rfl ?_; refine GO.addi rfl rfl rfl (by omega) ?_; refine GO.assign rfl rfl ?_; refine GO.nil ?_; refine kthen_n ?_; refine G.seq ?_; refine G.seq ?_; refine G.region ?_; refine GO.move rfl rfl ?_; refine GO.lenS rfl rfl ?_; refine GO.eqi rfl rfl rfl ?_; refine GO.nil ?_; refine kthen_n ?_; refine G.condF rfl rfl ?_; refine G.skip ?_; refine kthen_n ?_; refine G.seq ?_; refine G.seq ?_; refine G.region ?_; refine GO.move rfl rfl ?_; refine GO.lenS rfl rfl ?_; refine GO.eqT rfl rfl rfl rfl ?_; refine GO.nil ?_; refine kthen_n ?_; refine G.condT rfl rfl ?_; refine G.seq ?_)
      refine G.draw 16 (by kernel_rfl) ?_
      ((apply GQ.step; focus (intro Z; refine GO.move rfl rfl ?_; exact KQ.z)); (apply GQ.step; focus (intro Z; refine GO.move rfl rfl ?_; exact KQ.z)); (apply GQ.step; focus (intro Z; refine GO.addi rfl rfl rfl (by omega) ?_; exact KQ.z)); (apply GQ.step; focus (intro Z; refine GO.eqi rfl rfl rfl ?_; exact KQ.z)); (apply GQ.step; focus (intro Z; refine GO.move rfl rfl ?_; exact KQ.z)); (apply GQ.step; focus (intro Z; refine GO.gF rfl rfl rfl (by assumption) ?_; exact KQ.z)); (apply GQ.step; focus (intro Z; refine GO.gF rfl rfl rfl (by assumption) ?_; exact KQ.z)); (apply GQ.step; focus (intro Z; refine GO.gF rfl rfl rfl (by assumption) ?_; exact KQ.z)); (apply GQ.step; focus (intro Z; refine GO.gF rfl rfl rfl (by assumption) ?_; exact KQ.z)); (apply GQ.step; focus (intro Z; refine GO.gF rfl rfl rfl (by assumption) ?_; exact KQ.z)); (apply GQ.step; focus (intro Z; refine GO.gF rfl rfl rfl (by assumption) ?_; exact KQ.z)); (apply GQ.step; focus (intro Z; refine GO.gF rfl rfl rfl (by assumption) ?_; exact KQ.z)); (apply GQ.step; focus (intro Z; refine GO.gF rfl rfl rfl (by assumption) ?_; exact KQ.z)); (apply GQ.step; focus (intro Z; refine GO.gF rfl rfl rfl (by assumption) ?_; exact KQ.z)); (apply GQ.step; focus (intro Z; refine GO.pickFa rfl rfl (by assumption) rfl ?_; exact KQ.z)); (apply GQ.step; focus (intro Z; refine GO.assign rfl rfl ?_; exact KQ.z)); refine GQ.nil ?_)
      (refine GO.nil ?_; refine kthen_n ?_; refine G.ret ?_; refine kthen_r ?_)
      refine KF2.r1 rfl (RV.t rfl) ⟨false, rfl, ?_, rfl⟩ (ImpS.sb ?_)
      · constructor
        · intro h; cases h
        · rintro (⟨h, _⟩ | ⟨s', _, h, _⟩ | ⟨s', t, h, _⟩)
          · cases h
          · exact absurd h hji
          · cases h
      · ((refine Sb.c Tk.h ?_; refine Sb.c Tk.h ?_); (exact Sb.r))
  | [s, t], hs, hb =>
    obtain ⟨bb, ob, rfl, _, _, rs⟩ := hs.at (k := 0) (s := s) rfl
    obtain ⟨bb', ob', e, _, _, rt⟩ := hs.at (k := 1) (s := t) rfl
    injection e with e
    injection e with e1 e2
    subst e1 e2
    have hs1 := hb.2 rfl s (by simp)
    have ht1 := hb.2 rfl t (by simp)
    obtain ⟨s1, s2⟩ := s
    obtain ⟨t1, t2⟩ := t
    dsimp only at hs1 ht1 rs rt
    obtain ⟨a, rfl⟩ := Int.eq_ofNat_of_zero_le hs1.1
    obtain ⟨c, rfl⟩ := Int.eq_ofNat_of_zero_le ht1.1
    have ham : a < m := by omega
    have hcm : c < m := by omega
    (refine G.seq ?_; refine G.region ?_; refine GO.assign rfl rfl ?_; refine GO.nil ?_; refine kthen_n ?_; refine G.seq ?_; refine G.region ?_; refine GO.move rfl rfl ?_; refine GO.lenS rfl rfl ?_; refine GO.addi rfl rfl rfl (by omega) ?_; refine GO.assign rfl rfl ?_; refine GO.nil ?_; refine kthen_n ?_; refine G.seq ?_; refine G.seq ?_; refine G.region ?_; refine GO.move rfl rfl ?_; refine GO.lenS rfl rfl ?_; refine GO.eqi rfl rfl rfl ?_; refine GO.nil ?_; refine kthen_n ?_; refine G.condF rfl rfl ?_; refine G.skip ?_; refine kthen_n ?_; refine G.seq ?_; refine G.seq ?_; refine G.region ?_; refine GO.move rfl rfl ?_; refine GO.lenS rfl rfl ?_; refine GO.eqi rfl rfl rfl ?_; refine GO.nil ?_; refine kthen_n ?_; refine G.condF rfl rfl ?_; refine G.skip ?_; refine kthen_n ?_; refine G.seq ?_; refine G.seq ?_; refine G.region ?_; refine GO.move rfl rfl ?_; refine GO.assign rfl rfl ?_; refine GO.nil ?_; refine kthen_n ?_; refine G.block ?_)
    refine G.loop (fun k : Nat => [(0, .slice (some ⟨bb, ob, none⟩) 2 cb), (2, .slice (some ⟨bo, 0, none⟩) N N), (3, i64 (i : Nat)), (4, i64 (j : Nat)), (11, .int .i64 ((w.length : Int) + 1)), (12, i64 (k : Nat))]) (fun _ => q :: knM bo N K :: F)
      (fun k => i ≤ k ∧ k ≤ j + 1 ∧ ∀ x, i ≤ x → x < k → ¬ (K (atN (w.length + 1) a i x) = true ∧ K (atN (w.length + 1) c x j) = true)) (fun k => j + 1 - k) i ⟨Nat.le_refl _, by omega, fun x h1 h2 => absurd h2 (by omega)⟩ ?_ ?_ ?_
    · (refine SubE.c rfl rfl ?_; refine SubE.c rfl rfl ?_; refine SubE.c rfl rfl ?_; refine SubE.c rfl rfl ?_; refine SubE.c rfl rfl ?_; refine SubE.c rfl rfl ?_; exact SubE.n)
    · ((refine Sb.c Tk.h ?_; refine Sb.c Tk.h ?_); (exact Sb.r))
    · rintro k ⟨hk1, hk2, hall⟩
      (refine G.seq ?_; refine G.seq ?_; refine G.region ?_; refine GO.move rfl rfl ?_; refine GO.move rfl rfl ?_; refine GO.lei rfl rfl rfl ?_; refine GO.nil ?_; refine kthen_n ?_)
      refine G.condD rfl (fun hlt => ?_) (fun hge => ?_)
      · have hx1 : atN (w.length + 1) a i k < N := by rw [hN]; exact atN_lt ham (by omega) (by omega)
        have hx2 : atN (w.length + 1) c k j < N := by rw [hN]; exact atN_lt hcm (by omega) (by omega)
        have ha1 := at_spec a i k (w.length + 1) (by omega) (by omega) (by omega) (by omega)
        have ha2 := at_spec c k j (w.length + 1) (by omega) (by omega) (by omega) (by omega)
        rw [show i64 ((w.length + 1 : Nat) : Int) = .int .i64 ((w.length : Int) + 1) from rfl] at ha1 ha2
        generalize hX : atN (w.length + 1) a i k = x at hx1 ha1
        generalize hY : atN (w.length + 1) c k j = y at hx2 ha2
        (refine G.skip ?_; refine kthen_n ?_; refine G.seq ?_; refine G.block ?_; refine G.seq ?_; refine G.region ?_; refine GO.move rfl rfl ?_; refine GO.move rfl rfl ?_)
        refine GO.idxS (j := 0) rfl rfl rfl ⟨rfl, by decide⟩ ?_
        (refine GO.fieldAddr rfl rfl ?_; refine GO.loadQ rfl rfl rfl Tk.h (by assumption) ?_; refine GO.move rfl rfl ?_; refine GO.move rfl rfl ?_; refine GO.move rfl rfl ?_)
        refine GO.call4 rfl rfl rfl rfl rfl (ha1) Tks.n ?_
        rintro _ _ ⟨rfl, rfl⟩
        (refine GO.idxS rfl rfl rfl ⟨rfl, by omega⟩ ?_; refine GO.load1 rfl rfl rfl (Tk.t Tk.h) (rowV_get1 (by assumption)) ?_; refine GO.move rfl rfl ?_)
        cases hK1 : K x with
        | false =>
          (refine GO.gF rfl rfl rfl rfl ?_; refine GO.gF rfl rfl rfl rfl ?_; refine GO.gF rfl rfl rfl rfl ?_; refine GO.gF rfl rfl rfl rfl ?_; refine GO.gF rfl rfl rfl rfl ?_; refine GO.gF rfl rfl rfl rfl ?_; refine GO.gF rfl rfl rfl rfl ?_; refine GO.gF rfl rfl rfl rfl ?_; refine GO.gF rfl rfl rfl rfl ?_; refine GO.gF rfl rfl rfl rfl ?_; refine GO.gF rfl rfl rfl rfl ?_; refine GO.pickF rfl rfl rfl ?_; refine GO.nil ?_; refine kthen_n ?_; refine G.condF rfl rfl ?_; refine G.skip ?_; refine kblock_n ?_; refine kthen_n ?_; refine G.region ?_; refine GO.move rfl rfl ?_; refine GO.addi rfl rfl rfl (by omega) ?_; refine GO.assign rfl rfl ?_; refine GO.nil ?_; refine kthen_n ?_)
          refine ⟨k + 1, ⟨by omega, by omega, fun z h1 h2 h3 => ?_⟩, by omega, ?_, ?_⟩
          · by_cases e : z = k
            · subst e; rw [hX, hK1] at h3; cases h3.1
            · exact hall z h1 (by omega) h3
          · (refine SubE.c rfl rfl ?_; refine SubE.c rfl rfl ?_; refine SubE.c rfl rfl ?_; refine SubE.c rfl rfl ?_; refine SubE.c rfl rfl ?_; refine SubE.c rfl rfl ?_; exact SubE.n)
          · ((refine Sb.c Tk.h ?_; refine Sb.c Tk.h ?_); (exact Sb.r))
        | true =>
          (refine GO.gT rfl rfl rfl ?_; refine GO.move rfl rfl ?_; refine GO.gT rfl rfl rfl ?_; refine GO.move rfl rfl ?_; refine GO.gT rfl rfl rfl ?_)
          refine GO.idxS (j := 1) rfl rfl rfl ⟨rfl, by decide⟩ ?_
          (refine GO.gT rfl rfl rfl ?_; refine GO.fieldAddr rfl rfl ?_; refine GO.gT rfl rfl rfl ?_; refine GO.loadQ rfl rfl rfl Tk.h (by assumption) ?_; refine GO.gT rfl rfl rfl ?_; refine GO.move rfl rfl ?_; refine GO.gT rfl rfl rfl ?_; refine GO.move rfl rfl ?_; refine GO.gT rfl rfl rfl ?_; refine GO.move rfl rfl ?_; refine GO.gT rfl rfl rfl ?_)
          refine GO.call4 rfl rfl rfl rfl rfl (ha2) Tks.n ?_
          rintro _ _ ⟨rfl, rfl⟩
          (refine GO.gT rfl rfl rfl ?_; refine GO.idxS rfl rfl rfl ⟨rfl, by omega⟩ ?_; refine GO.gT rfl rfl rfl ?_; refine GO.load1 rfl rfl rfl (Tk.t Tk.h) (rowV_get1 (by assumption)) ?_; refine GO.pickT rfl rfl rfl ?_; refine GO.nil ?_; refine kthen_n ?_)
          cases hK2 : K y with
          | false =>
            (refine G.condF rfl rfl ?_; refine G.skip ?_; refine kblock_n ?_; refine kthen_n ?_; refine G.region ?_; refine GO.move rfl rfl ?_; refine GO.addi rfl rfl rfl (by omega) ?_; refine GO.assign rfl rfl ?_; refine GO.nil ?_; refine kthen_n ?_)
            refine ⟨k + 1, ⟨by omega, by omega, fun z h1 h2 h3 => ?_⟩, by omega, ?_, ?_⟩
            · by_cases e : z = k
              · subst e; rw [hY, hK2] at h3; cases h3.2
              · exact hall z h1 (by omega) h3
            · (refine SubE.c rfl rfl ?_; refine SubE.c rfl rfl ?_; refine SubE.c rfl rfl ?_; refine SubE.c rfl rfl ?_; refine SubE.c rfl rfl ?_; refine SubE.c rfl rfl ?_; exact SubE.n)
            · ((refine Sb.c Tk.h ?_; refine Sb.c Tk.h ?_); (exact Sb.r))
          | true =>
            (refine G.condT rfl rfl ?_; refine G.seq ?_; refine G.region ?_; refine GO.assign rfl rfl ?_; refine GO.nil ?_; refine kthen_n ?_; refine G.ret ?_; refine kblock_r ?_; refine kthen_r ?_; refine kthen_r ?_; refine kblock_r ?_; refine kthen_r ?_)
            refine KF2.r1 rfl (RV.t rfl) ⟨true, rfl, ?_, rfl⟩ (ImpS.sb ?_)
            · constructor
              · intro _
                exact .inr (.inr ⟨_, _, rfl, k, hk1, by omega, by show K (atN (w.length + 1) a i k) = true; rw [hX]; exact hK1, by show K (atN (w.length + 1) c k j) = true; rw [hY]; exact hK2⟩)
              · intro _; rfl
            · ((refine Sb.c Tk.h ?_; refine Sb.c Tk.h ?_); (exact Sb.r))
      · (refine G.exit ?_; refine kthen_x ?_; refine kthen_x ?_; refine kblock_x ?_; refine kthen_n ?_; refine G.seq ?_; refine G.region ?_; refine GO.assign rfl rfl ?_; refine GO.nil ?_; refine kthen_n ?_; refine G.ret ?_)
        refine KF2.r1 rfl (RV.t rfl) ⟨false, rfl, ?_, rfl⟩ (ImpS.sb ?_)
        · constructor
          · intro h; cases h
          · rintro (⟨h, _⟩ | ⟨s', h, _⟩ | ⟨s', t', h, x, h1, h2, h3, h4⟩)
            · cases h
            · cases h
            · injection h with e1 h
              injection h with e2 _
              subst e1 e2
              exact absurd ⟨h3, h4⟩ (hall x h1 (by omega))
        · ((refine Sb.c Tk.h ?_; refine Sb.c Tk.h ?_); (exact Sb.r))
  | s :: t :: u :: more, hs, hb => exact absurd hb.1 (by simp)
end Go.Proofs.Ytjokibfldngkeaa
