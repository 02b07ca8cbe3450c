/-
  Maps whose keys are structs of three numbers. Any program.
-/
import Derived.Test.YtjokibfldngkeaaU
import Derived.MapKept
namespace Go.Proofs.Ytjokibfldngkeaa
open Go
abbrev F3 := Int × Int × Int
def f3V (f : F3) : Value := .agg #[i64 f.1, i64 f.2.1, i64 f.2.2]
/-- What lies in a map, in the order in which it came. -/
def entsAt (n : Nat) : List (F3 × Value) → List MapEntry
  | [] => []
  | (k, v) :: l => { key := f3V k, val := v, born := n } :: entsAt (n + 1) l
def mapO (l : List (F3 × Value)) : Obj := .map (entsAt 0 l).toArray l.length
def findL (k : F3) : List (F3 × Value) → Nat → Option (Nat × Value)
  | [], _ => none
  | (a, v) :: l, i => if k = a then some (i, v) else findL k l (i + 1)
theorem entsAt_push (k : F3) (v : Value) : ∀ (l : List (F3 × Value)) (n : Nat), entsAt n (l ++ [(k, v)]) = entsAt n l ++ [{ key := f3V k, val := v, born := n + l.length }]
  | [], n => rfl
  | (a, u) :: l, n => by
    show _ :: entsAt (n + 1) (l ++ [(k, v)]) = _ :: (entsAt (n + 1) l ++ _)
    rw [entsAt_push k v l (n + 1), List.length_cons, show n + 1 + l.length = n + (l.length + 1) by omega]
/-- A key's type: a struct of three numbers. -/
class K3 (P : Program) (kt : TypeId) : Prop where
  eq : ∀ a b : F3, EqR P 10000 kt (f3V a) (f3V b) (decide (a = b))
  un : ∃ fs, P.underlying kt = some (.struct fs)
  ck : ∀ (e : Bool) (a : F3) (w : World), (Instr.checkKey e 10000 kt (f3V a)).run P w = .ok () w
/-- A type's zero value. -/
class ZV (P : Program) (t : TypeId) (z : outParam Value) : Prop where out : (P.info? t).bind (·.zero) = some z
theorem run_zero_ZV {P : Program} {t : TypeId} {z : Value} [h : ZV P t z] (w : World) : (zeroValue t).run P w = .ok z w := by
  have h1 := h.out
  cases hq : P.info? t with
  | none => simp [hq] at h1
  | some i =>
    simp [hq] at h1
    simp [zeroValue, typeInfo, hq, h1]
section
variable {P : Program} {kt : TypeId} [hk : K3 P kt]
theorem find_run (k : F3) (w : World) : ∀ (l : List (F3 × Value)) (n i : Nat), (Instr.findAsking kt (f3V k) (entsAt n l) i).run P w = .ok (findL k l i) w
  | [], n, i => by simp [entsAt, Instr.findAsking, findL]
  | (a, v) :: l, n, i => by
    have he : (Op.equal kt (f3V k) (f3V a)).run P w = .ok (decide (k = a)) w := by
      have := hk.eq k a w
      simpa [Op.equal, Op.maxDepth] using this
    have ih := find_run k w l (n + 1) (i + 1)
    unfold findL
    simp only [entsAt, Instr.findAsking, Sem.run_bind, he, Result.andThen_ok]
    by_cases h : k = a
    · rw [if_pos h, decide_eq_true h]; simp
    · rw [if_neg h, decide_eq_false h]; simpa using ih
theorem findKey_run (k : F3) (l : List (F3 × Value)) (w : World) : (Instr.findKey kt (f3V k) (entsAt 0 l)).run P w = .ok (findL k l 0) w := by
  obtain ⟨fs, hu⟩ := hk.un
  have hf := find_run (P := P) (kt := kt) k w l 0 0
  unfold Instr.findKey
  rw [Sem.run_bind, run_underlying hu, Result.andThen_ok]
  cases l with
  | nil => simp [entsAt, Instr.findNow, findL]
  | cons x l =>
    obtain ⟨a, v⟩ := x
    have : Instr.findNow (.struct fs) (f3V k) (entsAt 0 ((a, v) :: l)) 0 = none := rfl
    rw [this]
    exact hf
end
/-- What a look-up answers. -/
def lookV (z : Value) (k : F3) (l : List (F3 × Value)) : Value := match findL k l 0 with
  | some (_, v) => .tuple #[v, .bool true]
  | none => .tuple #[z, .bool false]
section rules
variable {P : Program} {c : Cx} {A : Array Oper} {rest : List Oper} {K : Kont} {L : Env} {H F : List HP} {t : TypeId} {p : String} {e : Array Edge}
variable {d b : Nat} {x y u : Operand} {mt kt et : TypeId} {k : F3} {l : List (F3 × Value)} {v z : Value}
theorem GO.makeMap (hN : Nat.blt d c.N = true) (k : ∀ b, GO P c A rest K ((d, .map (some b)) :: L) (pt b (mapO []) :: H)) : GO P c A (⟨some d, .makeMap mt none, t, p, e, none⟩ :: rest) K L H :=
  GO.gen hN rfl (fun v H' => ∃ b, v = .map (some b) ∧ H' = pt b (mapO []) :: H)
    (fun a w Y h s => ⟨.map (some w.heap.size), w.alloc (mapO []), _, by
      simp only [execOp, Instr.makeMap, Option.map_none]
      simp [Result.andThen, mapO, entsAt], Same.alloc w _, ⟨w.heap.size, rfl, rfl⟩, sat_alloc s _⟩) (by rintro _ _ ⟨b, rfl, rfl⟩; exact k b)
theorem GO.lookupK [hm : UL P mt (.map kt et)] [hk : K3 P kt] [hz : ZV P et z] (hN : Nat.blt d c.N = true) (hx : evl L x = some (.map (some b))) (hy : evl L y = some (f3V k)) (tk : Tk (pt b (mapO l)) H F)
    (g : GO P c A rest K ((d, lookV z k l) :: L) H) : GO P c A (⟨some d, .lookup mt x y true, t, p, e, none⟩ :: rest) K L H :=
  GO.val hN rfl (fun a w Y h s => by
    have hb := sat_pt (sat_perm (List.Perm.append_right Y tk) s)
    simp only [execOp, h.eval hx, h.eval hy, Instr.lookup]
    simp only [Sem.run_bind, run_underlying hm.out, Result.andThen_ok, MapKept.run_getObj_map hb, Sem.run_pure]
    simp only [hk.ck, findKey_run, Result.andThen_ok]
    unfold lookV
    cases hf : findL k l 0 with
    | none => simp [hf, run_zero_ZV, Result.andThen]
    | some q => obtain ⟨i, v⟩ := q; simp [hf, Result.andThen]) g
theorem GO.insertK [hm : UL P mt (.map kt et)] [hk : K3 P kt] (hx : evl L x = some (.map (some b))) (hy : evl L y = some (f3V k)) (hu : evl L u = some v) (tk : Tk (pt b (mapO l)) H F) (hn : findL k l 0 = none)
    (g : GO P c A rest K L (pt b (mapO (l ++ [(k, v)])) :: F)) : GO P c A (⟨none, .mapUpdate mt x y u, t, p, e, none⟩ :: rest) K L H :=
  GO.genS rfl (fun a w Y h s => by
    have s' := sat_perm (List.Perm.append_right Y tk) s
    have hb := sat_pt s'
    refine ⟨{ w with heap := w.heap.setIfInBounds b (mapO (l ++ [(k, v)])) }, ?_, ⟨rfl, rfl, rfl, by simp, Nat.le_refl _⟩, sat_upd s' ?_ ?_⟩
    · simp only [execOp, h.eval hx, h.eval hy, h.eval hu, Instr.mapUpdate]
      simp only [Sem.run_bind, run_underlying hm.out, Result.andThen_ok, MapKept.run_getObj_map hb, hk.ck, findKey_run, hn]
      rw [MapKept.run_setObj_map _ hb]
      simp [Result.andThen, mapO, entsAt_push]
    · have hlt := (Array.getElem?_eq_some_iff.1 hb).1
      simp [hlt]
    · intro j hj
      rw [Array.getElem?_setIfInBounds_ne (Ne.symm hj)]) g
end rules
end Go.Proofs.Ytjokibfldngkeaa
