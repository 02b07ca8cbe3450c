/-
  The rules for the single operations, continued: values put together. Any program.
-/
import Derived.Test.YtbconcohpfkncaaGreatF
import Derived.Great.BuildSlice
namespace Go.Proofs.YtbconcohpfkncaaGreat
open Go Go.Great

/-- Parts side by side, each as wide as its place. -/
def putParts : List Value → List Value
  | [] => []
  | v :: vs => v.cells.toList ++ putParts vs
theorem fill_one (off : Nat) (v : Value) (cs : List Value) (h : off + v.cells.size ≤ cs.length) :
    v.cells.zipIdx.foldl (fun cs (x : Value × Nat) => cs.setIfInBounds (off + x.2) x.1) cs.toArray = (cs.take off ++ v.cells.toList ++ cs.drop (off + v.cells.size)).toArray := by
  obtain ⟨g1, g2⟩ := foldl_set off v.cells.toList 0 cs.toArray
  have e : v.cells.zipIdx.foldl (fun cs (x : Value × Nat) => cs.setIfInBounds (off + x.2) x.1) cs.toArray = (v.cells.toList.zipIdx 0).foldl (fun cs (x : Value × Nat) => cs.setIfInBounds (off + x.2) x.1) cs.toArray := by
    rw [← Array.foldl_toList, Array.toList_zipIdx]
  rw [e]
  apply Array.ext'
  apply List.ext_getElem?
  intro k
  rw [Array.getElem?_toList, g2 k]
  simp only [Nat.add_zero, List.size_toArray, Array.length_toList]
  have h1 : (cs.take off ++ v.cells.toList).length = off + v.cells.size := by simp; omega
  by_cases hk1 : k < off
  · rw [if_neg (by omega), List.append_assoc, List.getElem?_append_left (by simp; omega)]
    simp [List.getElem?_take, hk1]
  · by_cases hk2 : k < off + v.cells.size
    · rw [if_pos (by omega), List.getElem?_append_left (by omega), List.getElem?_append_right (by simp; omega)]
      congr 1; simp; omega
    · rw [if_neg (by omega), List.getElem?_append_right (by omega), h1, List.getElem?_drop]
      simp only [List.getElem?_toArray]
      congr 1; omega
theorem fill_seq (places : Nat → Option (Nat × Nat)) : ∀ (vs : List Value) (i0 off : Nat) (cs : List Value),
    (∀ k v, vs[k]? = some v → places (i0 + k) = some (off + (putParts (vs.take k)).length, v.cells.size)) → off + (putParts vs).length ≤ cs.length →
    Instr.fill places cs.toArray ((vs.zipIdx i0).map fun x => (x.2, x.1)) = some (cs.take off ++ putParts vs ++ cs.drop (off + (putParts vs).length)).toArray
  | [], i0, off, cs, _, h => by simp [Instr.fill, putParts]
  | v :: vs, i0, off, cs, hp, h => by
    have h0 := hp 0 v rfl
    simp only [Nat.add_zero, List.take_zero, putParts, List.length_nil] at h0
    simp only [putParts, List.length_append, Array.length_toList] at h
    simp only [List.zipIdx_cons, List.map_cons, Instr.fill, h0]
    rw [if_neg (by simp; omega), fill_one off v cs (by omega)]
    rw [fill_seq places vs (i0 + 1) (off + v.cells.size) _ ?_ ?_]
    · congr 1; congr 1
      have e1 : (cs.take off ++ v.cells.toList).length = off + v.cells.size := by simp; omega
      have e2 : (cs.take off ++ v.cells.toList ++ cs.drop (off + v.cells.size)).take (off + v.cells.size) = cs.take off ++ v.cells.toList := by
        rw [List.take_append_of_le_length (by omega), List.take_of_length_le (by omega)]
      have e3 : (cs.take off ++ v.cells.toList ++ cs.drop (off + v.cells.size)).drop (off + v.cells.size + (putParts vs).length) = cs.drop (off + (putParts (v :: vs)).length) := by
        rw [List.drop_append, e1, List.drop_of_length_le (by rw [e1]; omega), List.nil_append, List.drop_drop]
        congr 1
        simp only [putParts, List.length_append, Array.length_toList]; omega
      rw [e2, e3]
      simp only [putParts, List.append_assoc]
    · intro k u hk
      have := hp (k + 1) u (by simpa using hk)
      rw [show i0 + 1 + k = i0 + (k + 1) by omega, this]
      simp only [List.take_succ_cons, putParts, List.length_append, Array.length_toList]
      congr 2; omega
    · simp only [List.length_append, List.length_take, Array.length_toList, List.length_drop]; omega

/-- A struct's or an array's parts: how wide each is; they lie side by side and fill it. -/
class BLD (P : Program) (t : TypeId) (sizes : outParam (List Nat)) : Prop where
  out : ∀ vs : List Value, vs.map (fun v => v.cells.size) = sizes → P.built t ((vs.zipIdx 0).map fun x => (x.2, x.1)) = some (putParts vs).toArray
def sums : Nat → List Nat → List (Nat × Nat)
  | _, [] => []
  | o, s :: l => (o, s) :: sums (o + s) l
theorem sums_get : ∀ (l : List Nat) (o k s : Nat), l[k]? = some s → (sums o l)[k]? = some (o + (l.take k).sum, s)
  | [], o, k, s, h => by simp at h
  | x :: l, o, 0, s, h => by simp at h; subst h; simp [sums]
  | x :: l, o, k + 1, s, h => by
    simp only [List.getElem?_cons_succ] at h
    have := sums_get l (o + x) k s h
    simp only [sums, List.getElem?_cons_succ, this, List.take_succ_cons, List.sum_cons]
    congr 2; omega
theorem putParts_len (vs : List Value) : (putParts vs).length = (vs.map (fun v => v.cells.size)).sum := by
  induction vs with
  | nil => rfl
  | cons v vs ih => simp [putParts, ih]
theorem bld_of {P : Program} {t : TypeId} {sizes : List Nat} {fields : Array Field} {zl : List Value} (hu : P.underlying t = some (.struct fields)) (hz : ((P.info? t).bind (·.zero)).map (fun z => z.cells.toList) = some zl)
    (hp : fields.toList.mapM (fun f => (P.info? f.type).map fun i => (f.offset, i.size)) = some (sums 0 sizes)) (hl : zl.length = sizes.sum) : BLD P t sizes := ⟨fun vs hs => by
  unfold Program.built
  cases hq : P.info? t with
  | none => simp [hq] at hz
  | some it =>
    cases hzz : it.zero with
    | none => simp [hq, hzz] at hz
    | some z =>
      simp only [hq, hzz, Option.bind_some, Option.map_some, Option.some.injEq] at hz
      simp only [hu, hzz, hp]
      have e : z.cells = zl.toArray := by rw [← hz]
      rw [e, fill_seq _ vs 0 0 zl ?_ ?_]
      · have : (putParts vs).length = zl.length := by rw [putParts_len, hs, hl]
        rw [Nat.zero_add, this, List.drop_length]; simp
      · intro k v hk
        have hk' : sizes[k]? = some v.cells.size := by rw [← hs]; simp [hk]
        have := sums_get sizes 0 k _ hk'
        simp only [List.getElem?_toArray, Nat.zero_add] at this ⊢
        rw [this, putParts_len, ← hs, List.map_take]
      · rw [putParts_len, hs, hl]; omega⟩

class F1 (P : Program) (s : TypeId) (f : Nat) : Prop where out : ∃ fs fd ds, P.underlying s = some (.struct fs) ∧ fs[f]? = some fd ∧ P.underlying fd.type = some ds ∧ ds.isRow = false
class B0 (P : Program) (t : TypeId) (l : outParam (List Value)) : Prop where out : P.built t [] = some l.toArray

section rules
variable {P : Program} {c : Cx} {A : Array Oper} {rest : List Oper} {K : Kont} {L : Env} {H : List HP} {t : TypeId} {p : String} {e : Array Edge}
variable {d : Nat} {ty : TypeId}
theorem vals_zip {N : Nat} {a : Act} (h : At N L a) : ∀ {xs : List Operand} {vs : List Value} (i : Nat), Vals L xs vs → ((xs.zipIdx i).map fun x => (x.2, x.1)).map (fun (y : Nat × Operand) => (y.1, a.eval y.2)) = (vs.zipIdx i).map fun x => (x.2, x.1)
  | [], [], i, _ => rfl
  | x :: xs, v :: vs, i, ⟨h1, h2⟩ => by
    have := vals_zip h (i + 1) h2
    simp only [List.zipIdx_cons, List.map_cons, this, h.eval h1]
  | [], _ :: _, _, h => h.elim
  | _ :: _, [], _, h => h.elim
/-- A struct's value out of all of its parts, or an array's. -/
theorem GO.build {sizes : List Nat} {xs : List Operand} {vs : List Value} {ps : List (Nat × Operand)} [hb : BLD P ty sizes] (hN : Nat.blt d c.N = true) (hps : ps = (xs.zipIdx 0).map fun x => (x.2, x.1)) (hv : Vals L xs vs) (hs : vs.map (fun v => v.cells.size) = sizes)
    (k : GO P c A rest K ((d, .agg (putParts vs).toArray) :: L) H) : GO P c A (⟨some d, .build ty ps.toArray, t, p, e, none⟩ :: rest) K L H :=
  GO.val hN rfl (fun a w Y h _ => by
    subst hps
    simp only [execOp]
    have e1 : (((xs.zipIdx 0).map fun x => (x.2, x.1)).toArray.map fun (y : Nat × Operand) => (y.1, a.eval y.2)).toList = (vs.zipIdx 0).map fun x => (x.2, x.1) := by
      rw [Array.toList_map]; exact vals_zip h 0 hv
    have := run_build (P := P) w ty (((xs.zipIdx 0).map fun x => (x.2, x.1)).toArray.map fun (y : Nat × Operand) => (y.1, a.eval y.2)) (putParts vs).toArray (by rw [e1]; exact hb.out vs hs)
    rw [Sem.run_bind, this]; rfl) k
/-- The zero value, of an array or a struct. -/
theorem GO.build0 {l : List Value} [hb : B0 P ty l] (hN : Nat.blt d c.N = true)
    (k : GO P c A rest K ((d, .agg l.toArray) :: L) H) : GO P c A (⟨some d, .build ty #[], t, p, e, none⟩ :: rest) K L H :=
  GO.val hN rfl (fun a w Y h _ => by
    simp only [execOp]
    have := run_build (P := P) w ty #[] l.toArray hb.out
    rw [Sem.run_bind]
    simp [this, Result.andThen]) k
/-- A slice literal. -/
theorem GO.buildSlice {el n len : Nat} {xs : List Operand} {vs zl : List Value} {ps : List (Nat × Operand)} [hu : UL P ty (.slice el)] [hs : SZ P el n] [hz : ZC P el zl] (hN : Nat.blt d c.N = true) (hps : ps = (xs.zipIdx 0).map fun x => (x.2, x.1)) (hv : Vals L xs vs) (h1 : ∀ v ∈ vs, v.cells.size = n)
    (hlen : vs.length = len) (hn : 0 < len ∧ 0 < n ∧ len * n ≤ 16777216)
    (k : ∀ b, GO P c A rest K ((d, .slice (some ⟨b, 0, none⟩) len len) :: L) (pt b (row (putParts vs) el) :: H)) : GO P c A (⟨some d, .buildSlice ty len ps.toArray, t, p, e, none⟩ :: rest) K L H :=
  GO.gen hN rfl (fun v H' => ∃ b, v = .slice (some ⟨b, 0, none⟩) len len ∧ H' = pt b (row (putParts vs) el) :: H)
    (fun a w Y h s => by
      subst hps
      have hso := hs.out
      have hzo := hz.out
      cases hq : P.info? el with
      | none => simp [hq] at hso
      | some ie =>
        cases hzz : ie.zero with
        | none => simp [hq, hzz] at hzo
        | some z =>
          have hsz : ie.size = n := by simpa [hq] using hso
          have e1 : (((xs.zipIdx 0).map fun x => (x.2, x.1)).toArray.map fun (y : Nat × Operand) => (y.1, a.eval y.2)).toList = (vs.zipIdx 0).map fun x => (x.2, x.1) := by
            rw [Array.toList_map]; exact vals_zip h 0 hv
          have hpp : ∀ l : List Value, l.flatMap (fun v => v.cells.toList) = putParts l := fun l => by
            induction l with
            | nil => rfl
            | cons v l ih => simp [putParts, ih]
          have hr := run_buildSlice (P := P) w ty el len (((xs.zipIdx 0).map fun x => (x.2, x.1)).toArray.map fun (y : Nat × Operand) => (y.1, a.eval y.2)) (putParts vs).toArray ie z hu.out hq hzz (by rw [hsz]; omega)
            (by rw [hsz]; have := Nat.mul_pos hn.1 hn.2.1; omega) (by
              rw [e1, hsz]
              rw [fill_whole hn.2.1 vs _ h1 (by simp [hlen]), hpp])
          refine ⟨_, _, _, ?_, Same.alloc w _, ⟨w.heap.size, rfl, rfl⟩, sat_alloc s _⟩
          simp only [execOp]
          rw [Sem.run_bind, hr]; rfl)
    (by rintro _ _ ⟨b, rfl, rfl⟩; exact k b)
theorem GO.build1 {sizes : List Nat} {x1 : Operand} {v1 : Value} [hb : BLD P ty sizes] (hN : Nat.blt d c.N = true) (h1 : evl L x1 = some v1) (hs : [v1].map (fun v => v.cells.size) = sizes)
    (k : GO P c A rest K ((d, .agg (putParts [v1]).toArray) :: L) H) : GO P c A (⟨some d, .build ty #[(0, x1)], t, p, e, none⟩ :: rest) K L H :=
  GO.build (xs := [x1]) (vs := [v1]) (ps := [(0, x1)]) hN rfl ⟨h1, trivial⟩ hs k
theorem GO.build2 {sizes : List Nat} {x1 x2 : Operand} {v1 v2 : Value} [hb : BLD P ty sizes] (hN : Nat.blt d c.N = true) (h1 : evl L x1 = some v1) (h2 : evl L x2 = some v2) (hs : [v1, v2].map (fun v => v.cells.size) = sizes)
    (k : GO P c A rest K ((d, .agg (putParts [v1, v2]).toArray) :: L) H) : GO P c A (⟨some d, .build ty #[(0, x1), (1, x2)], t, p, e, none⟩ :: rest) K L H :=
  GO.build (xs := [x1, x2]) (vs := [v1, v2]) (ps := [(0, x1), (1, x2)]) hN rfl ⟨h1, h2, trivial⟩ hs k
theorem GO.build3 {sizes : List Nat} {x1 x2 x3 : Operand} {v1 v2 v3 : Value} [hb : BLD P ty sizes] (hN : Nat.blt d c.N = true) (h1 : evl L x1 = some v1) (h2 : evl L x2 = some v2) (h3 : evl L x3 = some v3) (hs : [v1, v2, v3].map (fun v => v.cells.size) = sizes)
    (k : GO P c A rest K ((d, .agg (putParts [v1, v2, v3]).toArray) :: L) H) : GO P c A (⟨some d, .build ty #[(0, x1), (1, x2), (2, x3)], t, p, e, none⟩ :: rest) K L H :=
  GO.build (xs := [x1, x2, x3]) (vs := [v1, v2, v3]) (ps := [(0, x1), (1, x2), (2, x3)]) hN rfl ⟨h1, h2, h3, trivial⟩ hs k
theorem GO.buildSlice1 {el n len : Nat} {zl : List Value} {x1 : Operand} {v1 : Value} [hu : UL P ty (.slice el)] [hs : SZ P el n] [hz : ZC P el zl] (hN : Nat.blt d c.N = true) (h1 : evl L x1 = some v1) (hw : ∀ v ∈ [v1], v.cells.size = n) (hlen : len = 1) (hn : 0 < n ∧ n ≤ 1000000)
    (k : ∀ b, GO P c A rest K ((d, .slice (some ⟨b, 0, none⟩) len len) :: L) (pt b (row (putParts [v1]) el) :: H)) : GO P c A (⟨some d, .buildSlice ty len #[(0, x1)], t, p, e, none⟩ :: rest) K L H :=
  GO.buildSlice (xs := [x1]) (vs := [v1]) (ps := [(0, x1)]) hN rfl ⟨h1, trivial⟩ hw hlen.symm (by subst hlen; omega) k
theorem GO.buildSlice2 {el n len : Nat} {zl : List Value} {x1 x2 : Operand} {v1 v2 : Value} [hu : UL P ty (.slice el)] [hs : SZ P el n] [hz : ZC P el zl] (hN : Nat.blt d c.N = true) (h1 : evl L x1 = some v1) (h2 : evl L x2 = some v2) (hw : ∀ v ∈ [v1, v2], v.cells.size = n) (hlen : len = 2) (hn : 0 < n ∧ n ≤ 1000000)
    (k : ∀ b, GO P c A rest K ((d, .slice (some ⟨b, 0, none⟩) len len) :: L) (pt b (row (putParts [v1, v2]) el) :: H)) : GO P c A (⟨some d, .buildSlice ty len #[(0, x1), (1, x2)], t, p, e, none⟩ :: rest) K L H :=
  GO.buildSlice (xs := [x1, x2]) (vs := [v1, v2]) (ps := [(0, x1), (1, x2)]) hN rfl ⟨h1, h2, trivial⟩ hw hlen.symm (by subst hlen; omega) k
theorem GO.buildSlice3 {el n len : Nat} {zl : List Value} {x1 x2 x3 : Operand} {v1 v2 v3 : Value} [hu : UL P ty (.slice el)] [hs : SZ P el n] [hz : ZC P el zl] (hN : Nat.blt d c.N = true) (h1 : evl L x1 = some v1) (h2 : evl L x2 = some v2) (h3 : evl L x3 = some v3) (hw : ∀ v ∈ [v1, v2, v3], v.cells.size = n) (hlen : len = 3) (hn : 0 < n ∧ n ≤ 1000000)
    (k : ∀ b, GO P c A rest K ((d, .slice (some ⟨b, 0, none⟩) len len) :: L) (pt b (row (putParts [v1, v2, v3]) el) :: H)) : GO P c A (⟨some d, .buildSlice ty len #[(0, x1), (1, x2), (2, x3)], t, p, e, none⟩ :: rest) K L H :=
  GO.buildSlice (xs := [x1, x2, x3]) (vs := [v1, v2, v3]) (ps := [(0, x1), (1, x2), (2, x3)]) hN rfl ⟨h1, h2, h3, trivial⟩ hw hlen.symm (by subst hlen; omega) k
end rules
end Go.Proofs.YtbconcohpfkncaaGreat
