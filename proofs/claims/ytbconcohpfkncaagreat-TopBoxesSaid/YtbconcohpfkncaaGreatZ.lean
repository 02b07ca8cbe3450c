/-
  make of a slice; rows of bools and of numbers. Any program.
-/
import Derived.Test.YtbconcohpfkncaaGreatY
import Derived.Laws.MakeOwn
import Derived.Laws.Small
namespace Go.Proofs.YtbconcohpfkncaaGreat
open Go
attribute [local irreducible] pt init exs pur own
section
variable {P : Program} {c : Cx} {A : Array Oper} {rest : List Oper} {K : Kont} {L : Env} {H : List HP} {t : TypeId} {p : String} {e : Array Edge} {d : Nat}
theorem madeCells_one {zc : Array Value} {z : Value} (h : zc.toList = [z]) (n : Nat) : madeCells zc n = (List.replicate n z).toArray := by
  have hz : zc = #[z] := by
    apply Array.ext'; simpa using h
  subst hz
  unfold madeCells
  apply Array.ext'
  apply List.ext_getElem?
  intro i
  simp only [Array.toList_map, Array.toList_range, List.getElem?_map, List.toList_toArray, List.getElem?_replicate]
  by_cases hi : i < n
  · simp [hi, Nat.mod_one]
  · simp [hi]
/-- make of a slice of elements of one cell. -/
theorem GO.make1 {ty el : TypeId} {by_ n : Nat} {z : Value} {x y : Operand} {kx ky : IntKind} {m1 m2 : Int} [hu : UL P ty (.slice el)] [hs : SZ P el 1] [hb : BY P el by_] [hz : ZC P el [z]] (hN : Nat.blt d c.N = true) (hx : evl L x = some (.int kx m1)) (hy : evl L y = some (.int ky m2)) (hm : m1 = (n : Int) ∧ m2 = (n : Int))
    (hbytes : n * by_ ≤ 281474976710656 ∧ n ≤ 9223372036854775807) (k : ∀ b, GO P c A rest K ((d, .slice (some ⟨b, 0, none⟩) n n) :: L) (pt b (row (List.replicate n z) el) :: H)) : GO P c A (⟨some d, .makeSlice ty x y, t, p, e, none⟩ :: rest) K L H :=
  GO.gen hN rfl (fun v H' => ∃ b, v = .slice (some ⟨b, 0, none⟩) n n ∧ H' = pt b (row (List.replicate n z) el) :: H)
    (fun a w Y h s => by
      obtain ⟨rfl, rfl⟩ := hm
      have hso := hs.out
      have hzo := hz.out
      have hbo := hb.out
      cases hq : P.info? el with
      | none => simp [hq] at hso
      | some ie =>
        cases hzz : ie.zero with
        | none => simp [hq, hzz] at hzo
        | some zz =>
          have hsz2 : ie.size = 1 := by simpa [hq] using hso
          have hby : ie.bytes = by_ := by simpa [hq] using hbo
          have hzl : zz.cells.toList = [z] := by simpa [hq, hzz] using hzo
          have hr := run_make (P := P) w ty el ie zz hu.out hq hzz kx ky (n : Int) (n : Int) (by omega) (by omega) (by rw [hby]; have h9 := Int.ofNat_le.2 hbytes.1; rw [Int.natCast_mul, Int.mul_comm] at h9; exact h9) (by have := hbytes.2; omega)
          rw [hsz2, Nat.mul_one, Int.toNat_natCast, madeCells_one hzl] at hr
          refine ⟨_, _, _, ?_, Same.alloc w _, ⟨w.heap.size, rfl, rfl⟩, sat_alloc s _⟩
          simp only [execOp, h.eval hx, h.eval hy]
          rw [Sem.run_bind, hr]; rfl)
    (by rintro _ _ ⟨b, rfl, rfl⟩; exact k b)
/-- s[l:], s[:h]. -/
theorem GO.sliceLo {ty el : TypeId} {sz n cap l b o : Nat} {kk : IntKind} {i : Int} {x y : Operand} [hu : UL P ty (.slice el)] [hs : SZ P el sz] (hN : Nat.blt d c.N = true) (hx : evl L x = some (.slice (some ⟨b, o, none⟩) n cap)) (hy : evl L y = some (.int kk i)) (hi : i = (l : Int) ∧ l ≤ n ∧ l < cap)
    (k : GO P c A rest K ((d, .slice (some ⟨b, o + l * sz, none⟩) (n - l) (cap - l)) :: L) H) : GO P c A (⟨some d, .slice ty x (some y) none none, t, p, e, none⟩ :: rest) K L H :=
  GO.val hN rfl (fun a w Y h _ => by
    obtain ⟨rfl, h1, h2⟩ := hi
    have hle : (l : Int) ≤ n := by omega
    have hne : ¬ cap = l := by omega
    simp only [execOp, h.eval hx, Option.map_none, Option.map_some, h.eval hy]
    simp [Instr.sliceAt, Instr.slice, Sem.run_bind, run_underlying hu.out, Instr.sliceBounds, run_sliceBound w _ _ _ _ (Int.natCast_nonneg l) hle, run_sizeOf_SZ, Result.andThen, hne, add_plain]) k
theorem GO.sliceHi {ty el : TypeId} {sz n cap l b o : Nat} {kk : IntKind} {i : Int} {x y : Operand} [hu : UL P ty (.slice el)] [hs : SZ P el sz] (hN : Nat.blt d c.N = true) (hx : evl L x = some (.slice (some ⟨b, o, none⟩) n cap)) (hy : evl L y = some (.int kk i)) (hi : i = (l : Int) ∧ l ≤ cap)
    (k : GO P c A rest K ((d, .slice (some ⟨b, o, none⟩) l cap) :: L) H) : GO P c A (⟨some d, .slice ty x none (some y) none, t, p, e, none⟩ :: rest) K L H :=
  GO.val hN rfl (fun a w Y h _ => by
    obtain ⟨rfl, h1⟩ := hi
    have hle : (l : Int) ≤ cap := by omega
    have e0 : (⟨b, o, none⟩ : Addr).add 0 = ⟨b, o, none⟩ := add_plain b o 0
    simp only [execOp, h.eval hx, Option.map_none, Option.map_some, h.eval hy]
    simp [Instr.sliceAt, Instr.slice, Sem.run_bind, run_underlying hu.out, Instr.sliceBounds, run_sliceBound w _ _ _ _ (Int.natCast_nonneg l) hle, run_sizeOf_SZ, Result.andThen, e0]) k
/-- copy of cells: into a row of our own, out of whatever can be read. -/
theorem GO.copy1 {dT sT el T : TypeId} {b o dl dc b2 o2 sl sc : Nat} {l cs : List Value} {x y : Operand} {q : HP} {F F2 : List HP} [hu : UL P dT (.slice el)] [hs : SZ P el 1] (hN : Nat.blt d c.N = true) (hx : evl L x = some (.slice (some ⟨b, o, none⟩) dl dc)) (hy : evl L y = some (.slice (some ⟨b2, o2, none⟩) sl sc))
    (tk : Tk (pt b (row l T)) H F) (tk2 : Tk q H F2) (hn : cs.length = min sl dl) (hsrc : ∀ j u, cs[j]? = some u → Rd q ⟨b2, o2 + j, none⟩ u) (hfit : o + cs.length ≤ l.length) (h1 : ∀ u ∈ cs, u.oneCell' = true)
    (k : GO P c A rest K ((d, i64 cs.length) :: L) (pt b (row (l.take o ++ cs ++ l.drop (o + cs.length)) T) :: F)) : GO P c A (⟨some d, .call ⟨.builtin .copy, #[x, y], #[dT, sT]⟩, t, p, e, none⟩ :: rest) K L H :=
  GO.gen hN rfl (fun v H' => v = i64 cs.length ∧ H' = pt b (row (l.take o ++ cs ++ l.drop (o + cs.length)) T) :: F)
    (fun a w Y h s => by
      have s1 := sat_perm (List.Perm.append_right Y tk) s
      have s2 := sat_perm (List.Perm.append_right Y tk2) s
      have hg := sat_pt s1
      have hr := run_copy_row (P := P) w dT sT t el b o dl dc ⟨b2, o2, none⟩ sl sc l.toArray T cs hu.out hs.out hg hn (fun j u hj => by rw [add_plain]; exact hsrc j u hj _ w s2) (by simpa using hfit) h1
      simp only [List.toList_toArray] at hr
      refine ⟨_, w.setRow b (l.take o ++ cs ++ l.drop (o + cs.length)).toArray, _, ?_, ⟨rfl, rfl, rfl, by simp [World.setRow], Nat.le_refl _⟩, ⟨rfl, rfl⟩, ?_⟩
      · simp only [execOp, resolve, invoke, builtin]
        simp only [List.map_toArray, List.map_cons, List.map_nil, Sem.run_bind, Result.andThen, Sem.run_pure, h.eval hx, h.eval hy]
        rw [hr]; rfl
      · exact sat_upd s1 (by have := setRow_heap w b l.toArray (l.take o ++ cs ++ l.drop (o + cs.length)).toArray T (0, 0) hg; simpa [row] using this) (fun k hk => setRow_other w b k _ hk))
    (by rintro _ _ ⟨rfl, rfl⟩; exact k)
end
def upd {α : Type} (o : Nat → α) (j : Nat) (b : α) : Nat → α := fun i => if i = j then b else o i
/-- The cells that say o, n of them. -/
def rowV {α : Type} (f : α → Value) (o : Nat → α) (n : Nat) : List Value := (List.range n).map fun i => f (o i)
section
variable {α : Type} {f : α → Value} {o : Nat → α} {n j : Nat}
theorem rowV_len : (rowV f o n).length = n := by simp [rowV]
theorem rowV_get (h : j < n) : (rowV f o n)[j]? = some (f (o j)) := by simp [rowV, h]
theorem rowV_get1 (h : j < n) : (rowV f o n)[0 + j * 1]? = some (f (o j)) := by rw [Nat.zero_add, Nat.mul_one]; exact rowV_get h
theorem rowV_set {b : α} : (rowV f o n).set (0 + j * 1) (f b) = rowV f (upd o j b) n := by
  rw [Nat.zero_add, Nat.mul_one]
  apply List.ext_getElem?
  intro i
  rw [List.getElem?_set]
  simp only [rowV, List.length_map, List.length_range, List.getElem?_map]
  by_cases hi : i < n
  · by_cases e : j = i
    · subst e; simp [hi, upd]
    · simp [hi, e, upd, Ne.symm e]
  · by_cases e : j = i
    · subst e; simp [hi]
    · simp [hi, e]
theorem rowV_one (h : ∀ a, (f a).oneCell' = true) : ∀ u ∈ rowV f o n, u.oneCell' = true := by
  intro u hu
  obtain ⟨i, _, rfl⟩ := List.mem_map.1 hu
  exact h _
theorem rowV_const {a : α} : List.replicate n (f a) = rowV f (fun _ => a) n := by
  apply List.ext_getElem?
  intro i
  simp only [rowV, List.getElem?_map, List.getElem?_replicate]
  by_cases hi : i < n <;> simp [hi]
end
abbrev boolsV (o : Nat → Bool) (n : Nat) : List Value := rowV Value.bool o n
end Go.Proofs.YtbconcohpfkncaaGreat
